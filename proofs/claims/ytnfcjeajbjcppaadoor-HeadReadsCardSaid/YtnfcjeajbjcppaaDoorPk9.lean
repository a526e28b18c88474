/- Several texts in one: VSplitB, VNum, VTrim, VRef1, VItoa, VLine, VLRead, VDigits, VLBackH, VLWords, VLReadsH, VField, VFew, VSplit, VSplit2, VParseH, VParsesH, VHead0, VHead1, VHead2. -/
import Derived.Test.YtnfcjeajbjcppaaDoorPk7
import Derived.Test.YtnfcjeajbjcppaaDoorPk8
import Derived.Test.YtnfcjeajbjcppaaDoorPk5
import Derived.Test.YtnfcjeajbjcppaaDoorPk4
import Derived.Test.YtnfcjeajbjcppaaDoorPk2
import Derived.Test.YtnfcjeajbjcppaaDoorPk6
import Derived.Lib.ItoaNum
import Derived.Lib.AppendIntMem
section
set_option linter.unusedVariables false
set_option linter.unusedSimpArgs false
namespace Go.Proofs.YtnfcjeajbjcppaaDoor.Vh
open Go.Vm Go.Vt
attribute [local congr] wi_congr wg_congr wgd_congr wb_congr wl_congr cf_congr
variable {L : FuncId → List V → V → Prop} {h : Heap}
def splitB : Bs → List Bs
  | [] => [[]]
  | c :: r => if c = 32 then [] :: splitB r else match splitB r with
    | w :: ws => (c :: w) :: ws
    | [] => [[c]]
theorem splitB_ne (s : Bs) : splitB s ≠ [] := by
  cases s with
  | nil => simp [splitB]
  | cons c r => unfold splitB; split; simp; split <;> simp
theorem splitB_len : ∀ s : Bs, (splitB s).length = s.count 32 + 1
  | [] => rfl
  | c :: r => by
    have ih := splitB_len r
    unfold splitB
    by_cases h : c = 32
    · rw [if_pos h, h, List.length_cons, ih, List.count_cons_self]
    · rw [if_neg h, List.count_cons_of_ne h]
      cases hs : splitB r with
      | nil => exact absurd hs (splitB_ne r)
      | cons w ws => rw [hs] at ih; simpa using ih
theorem splitB_step : ∀ {s : Bs}, pos 32 s < s.length → splitB s = s.take (pos 32 s) :: splitB (s.drop (pos 32 s + 1))
  | [], h => by simp at h
  | c :: r, h => by
    rw [pos_cons] at h ⊢
    by_cases hc : c = 32
    · rw [if_pos hc] at h ⊢
      rw [splitB, if_pos hc]; rfl
    · rw [if_neg hc] at h ⊢
      have ih := splitB_step (s := r) (by simpa using h)
      rw [splitB, if_neg hc, ih]; rfl
theorem splitB_one : ∀ {s : Bs}, ¬ pos 32 s < s.length → splitB s = [s]
  | [], _ => rfl
  | c :: r, h => by
    rw [pos_cons] at h
    by_cases hc : c = 32
    · rw [if_pos hc] at h; simp at h
    · rw [if_neg hc] at h
      have ih := splitB_one (s := r) (by simpa using h)
      rw [splitB, if_neg hc, ih]
def CountOk (L : FuncId → List V → V → Prop) : Prop := ∀ {s : Bs} {c : UInt8} {h : Heap}, Cf F L i_strings_Count [.str s, .str [c]] h (Pu h (.int .i64 ((s.count c : Nat) : Int)))
def LCount : FuncId → List V → V → Prop := fun f args v => f = i_strings_Count ∧ ∃ (s : Bs) (c : UInt8), args = [.str s, .str [c]] ∧ v = .int .i64 ((s.count c : Nat) : Int)
theorem count_at (w0 : World) : LibAt Tryd.prog w0 LCount := by
  rintro f args v ⟨rfl, s, c, rfl, rfl⟩
  refine ⟨by kernel_rfl, good_below fun B G h w vs hr hb hv => ?_⟩
  obtain ⟨a, b, rfl, ha, hs⟩ := rvs_two hv
  cases hs; cases ha
  refine (Tryd.strings_Count_one ⟨s.toArray⟩ c w).mono fun e w' ⟨h1, h2⟩ => ?_
  subst h2
  exact ⟨_, h1, .int .i64 _, Go.RowKit.Below.refl ..⟩
theorem countOk {L : FuncId → List V → V → Prop} (hL : ∀ f a v, LCount f a v → L f a v) : CountOk L :=
  wlib (hL _ _ _ ⟨rfl, _, _, rfl, rfl⟩) ⟨rfl, [], by simp⟩
theorem SIndex_ok {s : Bs} {c : UInt8} (HI : IndexOk L) : Cf F L i_strings_Index [.str s, .str [c]] h (Pu h (.int .i64 (Go.Lib.indexByte s c))) := by
  refine run_strings_Index ?_
  simp only [p_strings_Index]
  refine Cf.pu HI fun u => ?_
  simp (maxSteps := 4000000) only [vm, vl, Arg.get, cells, stor, boundO, resultsV, resV, partK, loadV, Vm.part, fillC, splice, reduceIte, reduceCtorEq, Nat.reduceEqDiff, Nat.reduceAdd, Nat.reduceSub, Nat.reduceMul, Nat.reduceLeDiff, ne_eq, not_false_eq_true, Int.reduceEq, Int.reduceLT, Int.reduceLE, Int.reduceNeg, Int.reduceToNat, Int.reduceGT, Int.reduceGE, Nat.reduceLT, Nat.lt_add_one, Nat.zero_lt_succ, Nat.succ_pos, Nat.zero_le, beq_self_eq_true]
/-- What stands in the box: the first words, and empty texts. -/
def wbox (W : List Bs) (i : Nat) : List V := (W.take i).map .str ++ List.replicate (W.length - i) (.str [])
theorem wbox_len {W : List Bs} {i : Nat} (hi : i ≤ W.length) : (wbox W i).length = W.length := by
  unfold wbox; rw [List.length_append, List.length_map, List.length_take, List.length_replicate]; omega
theorem wbox_put {W : List Bs} {i : Nat} {x : Bs} (hi : i < W.length) (hx : W.getD i [] = x) : (wbox W i).take i ++ (V.str x :: (wbox W i).drop (i + 1)) = wbox W (i + 1) := by
  have e : W.length - i = (W.length - (i + 1)) + 1 := by omega
  have lt : ((W.take i).map V.str).length = i := by rw [List.length_map, List.length_take]; omega
  have et : W.take (i + 1) = W.take i ++ [x] := by
    rw [List.take_add_one, List.getElem?_eq_getElem hi, ← hx, List.getD_eq_getElem?_getD, List.getElem?_eq_getElem hi]; rfl
  unfold wbox
  rw [List.take_left' lt, List.drop_append, lt, List.drop_eq_nil_of_le (by omega), List.nil_append, show i + 1 - i = 1 by omega, e, List.replicate_succ, List.drop_succ_cons, List.drop_zero, et, List.map_append, List.append_assoc]
  rfl
theorem wbox_full (W : List Bs) : wbox W W.length = W.map .str := by unfold wbox; simp
/-- A list in a box of its own. -/
def HslP (h : Heap) (W : List Bs) (v : V) (h' : Heap) : Prop := ∃ t u, v = .hsl 1 (h.length + t.length) W.length ∧ h' = h ++ (t ++ (O.box (W.map .str) :: u))
theorem genSplit_ok (HI : IndexOk L) (HC : CountOk L) {s : Bs} (hs : s.length ≤ 1000000) : Cf F L i_strings_genSplit [.str s, .str [32], .int .i64 0, .int .i64 (-1)] h (HslP h (splitB s)) := by
  refine run_strings_genSplit ?_
  simp only [p_strings_genSplit]
  
  have sl := splitB_len s
  have cl : s.count 32 ≤ s.length := List.count_le_length
  have HC' := fun hh => HC (s := s) (c := 32) (h := hh)
  generalize hW : splitB s = W at *
  have e1 : (([32] : Bs) == []) = false := rfl
  have w1 : IntKind.i64.wrap (((s.count 32 : Nat) : Int) + 1) = (W.length : Int) := by rw [wrap64 (by omega) (by omega)]; omega
  have w2 : IntKind.i64.wrap ((s.length : Int) + 1) = (s.length : Int) + 1 := wrap64 (by omega) (by omega)
  have w3 : IntKind.i64.wrap ((W.length : Int) - 1) = ((W.length - 1 : Nat) : Int) := by rw [wrap64 (by omega) (by omega)]; omega
  have mn : min (W.length : Int) ((s.length : Int) + 1) = W.length := by omega
  have rm : room W.length 16 = true := by unfold room; rw [decide_eq_true_eq]; omega
  have rep : (List.replicate W.length [V.str []]).flatten = wbox W 0 := by
    unfold wbox; simp
  simp (maxSteps := 4000000) only [vm, vl, Arg.get, cells, stor, boundO, resultsV, resV, partK, loadV, Vm.part, fillC, splice, reduceIte, reduceCtorEq, Nat.reduceEqDiff, Nat.reduceAdd, Nat.reduceSub, Nat.reduceMul, Nat.reduceLeDiff, ne_eq, not_false_eq_true, Int.reduceEq, Int.reduceLT, Int.reduceLE, Int.reduceNeg, Int.reduceToNat, Int.reduceGT, Int.reduceGE, Nat.reduceLT, Nat.lt_add_one, Nat.zero_lt_succ, Nat.succ_pos, Nat.zero_le, beq_self_eq_true, e1, decide_true, decide_false, k_strings_genSplit_0, k_strings_genSplit_1]
  refine Cf.pu (HC' _) fun u => ?_
  have mk : ∀ (K : V → Heap → Prop) (hh : Heap), wi F L (.mksl 1 16 [.str []] (.c (.int .i64 (W.length : Int))) (.c (.int .i64 (W.length : Int)))) E0 hh K = K (.hsl 1 hh.length W.length) (hh ++ [O.box (wbox W 0)]) := by
    intro K hh
    have : stepI (.mksl 1 16 [.str []] (.c (.int .i64 (W.length : Int))) (.c (.int .i64 (W.length : Int)))) E0 hh = some (.hsl 1 hh.length W.length, hh ++ [O.box (wbox W 0)]) := by
      simp only [stepI, Arg.get]
      rw [if_pos ⟨by omega, Int.le_refl _, by rw [Int.toNat_natCast]; exact rm⟩]
      simp only [Int.toNat_natCast, rep]
    rw [wi_mksl, this]
  simp (maxSteps := 4000000) only [vm, vl, Arg.get, cells, stor, boundO, resultsV, resV, partK, loadV, Vm.part, fillC, splice, reduceIte, reduceCtorEq, Nat.reduceEqDiff, Nat.reduceAdd, Nat.reduceSub, Nat.reduceMul, Nat.reduceLeDiff, ne_eq, not_false_eq_true, Int.reduceEq, Int.reduceLT, Int.reduceLE, Int.reduceNeg, Int.reduceToNat, Int.reduceGT, Int.reduceGE, Nat.reduceLT, Nat.lt_add_one, Nat.zero_lt_succ, Nat.succ_pos, Nat.zero_le, beq_self_eq_true, w1, w2, w3, mn, mn2, k_strings_genSplit_2, mk]
  refine l_strings_genSplit_0 (fun n e h' => ∃ (i : Nat) (si : Bs) (t : Heap), n = W.length - i ∧ i + 1 ≤ W.length ∧ splitB si = W.drop i ∧ si.length ≤ 1000000 ∧ e 0 = .str si ∧ e 1 = .str [32] ∧ e 2 = .int .i64 0 ∧ e 3 = .int .i64 ((W.length - 1 : Nat) : Int) ∧ e 9 = .hsl 1 (h.length + u.length) W.length ∧ e 10 = .int .i64 i ∧ h' = h ++ (u ++ (O.box (wbox W i) :: t))) ?_ (n := W.length) ⟨0, s, [], by simp, by omega, by rw [hW]; rfl, hs, rfl, rfl, rfl, rfl, by simp [upd], rfl, rfl⟩
  rintro n e h' ⟨i, si, t, rfl, hi, hsi, hl, e0, e1', e2, e3, e9, e10, rfl⟩
  simp only [b_strings_genSplit_0]
  have hx : ∀ x, splitB si = x → W.getD i [] = x.getD 0 [] := by
    rintro x rfl
    rw [hsi]
    simp [List.getD_eq_getElem?_getD]
  have wl := wbox_len (W := W) (i := i) (by omega)
  have z0 : (0 : Int) ≤ i := by omega
  have dl : (W.drop i).length = W.length - i := List.length_drop
  have w4 : IntKind.i64.wrap ((i : Int) + 1) = ((i + 1 : Nat) : Int) := by rw [wrap64 (by omega) (by omega)]; omega
  have li : i < W.length := by omega
  have li1 : i + 1 ≤ W.length := by omega
  by_cases c : i < W.length - 1
  · have c' : (i : Int) < ((W.length - 1 : Nat) : Int) := by omega
    have hp : pos 32 si < si.length := Classical.byContradiction fun hc => by
      rw [splitB_one hc] at hsi
      rw [← hsi] at dl
      simp at dl; omega
    have st := splitB_step hp
    have gx : W.getD i [] = si.take (pos 32 si) := hx _ st
    have pt := wbox_put (x := si.take (pos 32 si)) li gx
    have nx : splitB (si.drop (pos 32 si + 1)) = W.drop (i + 1) := by
      have : W.drop (i + 1) = (W.drop i).drop 1 := by rw [List.drop_drop]
      rw [this, ← hsi, st]; rfl
    have IX := fun hh => SIndex_ok (L := L) (h := hh) (s := si) (c := 32) HI
    rw [indexByte_pos, if_pos hp] at IX
    have l2 : (si.drop (pos 32 si + 1)).length ≤ 1000000 := by rw [List.length_drop]; omega
    have c1 : ¬ ((pos 32 si : Nat) : Int) < 0 := by omega
    have c2 : IntKind.i64.wrap (((pos 32 si : Nat) : Int) + 0) = ((pos 32 si : Nat) : Int) := by rw [Int.add_zero]; exact wrap64 (by omega) (by omega)
    have c3 : IntKind.i64.wrap (((pos 32 si : Nat) : Int) + 1) = ((pos 32 si + 1 : Nat) : Int) := by rw [wrap64 (by omega) (by omega)]; omega
    have c4 : (0 : Int) ≤ ((pos 32 si : Nat) : Int) := by omega
    have c5 : pos 32 si ≤ si.length := by omega
    have c6 : pos 32 si + 1 ≤ si.length := by omega
    have c7 : (([32] : Bs).length : Int) = 1 := rfl
    generalize pos 32 si = p at *
    generalize hA : si.take p = A at *
    generalize hB : si.drop (p + 1) = B at *
    simp (maxSteps := 4000000) only [vm, vl, Arg.get, cells, stor, boundO, resultsV, resV, partK, loadV, Vm.part, fillC, splice, reduceIte, reduceCtorEq, Nat.reduceEqDiff, Nat.reduceAdd, Nat.reduceSub, Nat.reduceMul, Nat.reduceLeDiff, ne_eq, not_false_eq_true, Int.reduceEq, Int.reduceLT, Int.reduceLE, Int.reduceNeg, Int.reduceToNat, Int.reduceGT, Int.reduceGE, Nat.reduceLT, Nat.lt_add_one, Nat.zero_lt_succ, Nat.succ_pos, Nat.zero_le, beq_self_eq_true, e0, e1', e2, e3, e9, e10, c', decide_true, k_strings_genSplit_4]
    refine Cf.pu (IX _) fun u1 => ?_
    simp (maxSteps := 4000000) only [vm, vl, Arg.get, cells, stor, boundO, resultsV, resV, partK, loadV, Vm.part, fillC, splice, reduceIte, reduceCtorEq, Nat.reduceEqDiff, Nat.reduceAdd, Nat.reduceSub, Nat.reduceMul, Nat.reduceLeDiff, ne_eq, not_false_eq_true, Int.reduceEq, Int.reduceLT, Int.reduceLE, Int.reduceNeg, Int.reduceToNat, Int.reduceGT, Int.reduceGE, Nat.reduceLT, Nat.lt_add_one, Nat.zero_lt_succ, Nat.succ_pos, Nat.zero_le, beq_self_eq_true, c1, c2, c3, c4, c5, c6, c7, hA, hB, z0, li, wl, li1, w4, decide_false, k_strings_genSplit_5, List.take_length, pt]
    exact ⟨W.length - (i + 1), by omega, i + 1, B, t ++ u1, rfl, by omega, nx, l2, rfl, e1', e2, e3, e9, rfl, rfl⟩
  · have c' : ¬ (i : Int) < ((W.length - 1 : Nat) : Int) := by omega
    have ei : i + 1 = W.length := by omega
    have hp : ¬ pos 32 si < si.length := fun hc => by
      rw [splitB_step hc] at hsi
      have := congrArg List.length hsi
      have q := splitB_ne (si.drop (pos 32 si + 1))
      rw [List.length_cons, dl] at this
      have : (splitB (si.drop (pos 32 si + 1))).length = 0 := by omega
      exact q (List.eq_nil_of_length_eq_zero this)
    have gx : W.getD i [] = si := hx _ (splitB_one hp)
    have pt := wbox_put (x := si) li gx
    rw [show wbox W (i + 1) = W.map .str by rw [ei, wbox_full]] at pt
    have sv : slslV 1 (V.hsl 1 (h.length + u.length) W.length) 0 (some (i + 1)) none = some (V.hsl 1 (h.length + u.length) W.length) := by
      simp [slslV, ei]
    simp (maxSteps := 4000000) only [vm, vl, Arg.get, cells, stor, boundO, resultsV, resV, partK, loadV, Vm.part, fillC, splice, reduceIte, reduceCtorEq, Nat.reduceEqDiff, Nat.reduceAdd, Nat.reduceSub, Nat.reduceMul, Nat.reduceLeDiff, ne_eq, not_false_eq_true, Int.reduceEq, Int.reduceLT, Int.reduceLE, Int.reduceNeg, Int.reduceToNat, Int.reduceGT, Int.reduceGE, Nat.reduceLT, Nat.lt_add_one, Nat.zero_lt_succ, Nat.succ_pos, Nat.zero_le, beq_self_eq_true, e0, e1', e2, e3, e9, e10, c', decide_false, k_strings_genSplit_3, z0, li, wl, li1, w4, pt, sv]
    exact ⟨u, t, rfl, rfl⟩
theorem SSplit_ok (HI : IndexOk L) (HC : CountOk L) {s : Bs} (hs : s.length ≤ 1000000) : Cf F L i_strings_Split [.str s, .str [32]] h (HslP h (splitB s)) := by
  refine run_strings_Split ?_
  simp only [p_strings_Split]
  refine (genSplit_ok HI HC hs).mono fun v h' hp => ?_
  obtain ⟨t, u, rfl, rfl⟩ := hp
  simp (maxSteps := 4000000) only [vm, vl, Arg.get, cells, stor, boundO, resultsV, resV, partK, loadV, Vm.part, fillC, splice, reduceIte, reduceCtorEq, Nat.reduceEqDiff, Nat.reduceAdd, Nat.reduceSub, Nat.reduceMul, Nat.reduceLeDiff, ne_eq, not_false_eq_true, Int.reduceEq, Int.reduceLT, Int.reduceLE, Int.reduceNeg, Int.reduceToNat, Int.reduceGT, Int.reduceGE, Nat.reduceLT, Nat.lt_add_one, Nat.zero_lt_succ, Nat.succ_pos, Nat.zero_le, beq_self_eq_true]
  exact ⟨t, u, rfl, rfl⟩
theorem words_ok (HI : IndexOk L) (HC : CountOk L) {s : Bs} (hs : s.length ≤ 1000000) : Cf F L i_line_words [.str s] h (HslP h (splitB s)) := by
  refine run_line_words ?_
  simp only [p_line_words]
  refine (SSplit_ok HI HC hs).mono fun v h' hp => ?_
  obtain ⟨t, u, rfl, rfl⟩ := hp
  generalize splitB s = W at *
  have sv : slslV 1 (V.hsl 1 (h.length + t.length) W.length) 0 (some W.length) (some W.length) = some (V.hsl 1 (h.length + t.length) W.length) := by
    simp [slslV]
  have z0 : (0 : Int) ≤ W.length := by omega
  simp (maxSteps := 4000000) only [vm, vl, Arg.get, cells, stor, boundO, resultsV, resV, partK, loadV, Vm.part, fillC, splice, reduceIte, reduceCtorEq, Nat.reduceEqDiff, Nat.reduceAdd, Nat.reduceSub, Nat.reduceMul, Nat.reduceLeDiff, ne_eq, not_false_eq_true, Int.reduceEq, Int.reduceLT, Int.reduceLE, Int.reduceNeg, Int.reduceToNat, Int.reduceGT, Int.reduceGE, Nat.reduceLT, Nat.lt_add_one, Nat.zero_lt_succ, Nat.succ_pos, Nat.zero_le, beq_self_eq_true, sv, z0]
  exact ⟨t, u, rfl, rfl⟩
end Go.Proofs.YtnfcjeajbjcppaaDoor.Vh
end
section
set_option linter.unusedVariables false
set_option linter.unusedSimpArgs false
namespace Go.Proofs.YtnfcjeajbjcppaaDoor.Vh
open Go.Vm Go.Vt
attribute [local congr] wi_congr wg_congr wgd_congr wb_congr wl_congr cf_congr
variable {L : FuncId → List V → V → Prop} {h : Heap}
theorem wquo {x c : Int} (h0 : 0 ≤ x) (hc : 0 < c) (h1 : x ≤ 9223372036854775807) : IntKind.i64.wrap (Int.tdiv x c) = x / c := by
  rw [Int.tdiv_eq_ediv_of_nonneg h0]
  have : 0 ≤ x / c := Int.ediv_nonneg h0 (by omega)
  have := Int.ediv_le_self c h0
  exact wrap64 (by omega) (by omega)
theorem bin_quo' {x y : Int} : binV .quo (.int .i64 x) (.int .i64 y) = if y = 0 then none else some (.int .i64 (IntKind.i64.wrap (x.tdiv y))) := by
  by_cases h : y = 0 <;> simp [binV, binI, h]
theorem dig_eq (c : UInt8) : digB c = (decide ((c.toNat : Int) ≥ 48) && decide ((c.toNat : Int) ≤ 57)) := byte_all (p := fun c => digB c = (decide ((c.toNat : Int) ≥ 48) && decide ((c.toNat : Int) ≤ 57))) (by decide +kernel) c
theorem dig_in {c : UInt8} (h : digB c = true) : 48 ≤ (c.toNat : Int) ∧ (c.toNat : Int) ≤ 57 := by
  rw [dig_eq, Bool.and_eq_true, decide_eq_true_eq, decide_eq_true_eq] at h; exact h
theorem dig_no {c : UInt8} (h : digB c = false) : (c.toNat : Int) < 48 ∨ ((¬ (c.toNat : Int) < 48) ∧ (c.toNat : Int) > 57) := by
  rw [dig_eq, Bool.and_eq_false_iff, decide_eq_false_iff_not, decide_eq_false_iff_not] at h; omega
theorem dig_wrap (c : UInt8) : (decide (48 ≤ (c.toNat : Int)) && decide ((c.toNat : Int) ≤ 57)) = true → IntKind.u8.wrap ((c.toNat : Int) - 48) = (c.toNat : Int) - 48 :=
  byte_all (p := fun c => (decide (48 ≤ (c.toNat : Int)) && decide ((c.toNat : Int) ≤ 57)) = true → IntKind.u8.wrap ((c.toNat : Int) - 48) = (c.toNat : Int) - 48) (by decide +kernel) c
theorem numG_le : ∀ {s : Bs} {n most : Int}, s.all digB = true → 0 ≤ n → n ≤ most → 0 ≤ numG s n most ∧ numG s n most ≤ most
  | [], n, most, _, h0, h1 => ⟨h0, h1⟩
  | c :: r, n, most, ha, h0, h1 => by
    rw [List.all_cons, Bool.and_eq_true] at ha
    have hd := dig_in ha.1
    unfold numG
    split
    · omega
    · exact numG_le ha.2 (by omega) (by omega)
theorem numS_le (s : Bs) {most : Int} (h : 0 ≤ most) : 0 ≤ (numS s most).1 ∧ (numS s most).1 ≤ most := by
  unfold numS
  split
  · exact ⟨Int.le_refl _, h⟩
  · rename_i q
    simp only [Bool.or_eq_true, Bool.not_eq_true', not_or, Bool.not_eq_false] at q
    exact numG_le q.2 (Int.le_refl _) h
theorem Number1_ok {c : UInt8} : Cf F L i_token_Number_1 [byV c] h (Pu h (.bool (digB c))) := by
  refine run_token_Number_1 ?_
  simp only [p_token_Number_1]
  rw [dig_eq]
  by_cases a : (c.toNat : Int) ≥ 48
  · simp (maxSteps := 4000000) only [vm, vl, Arg.get, cells, stor, boundO, resultsV, resV, partK, loadV, Vm.part, fillC, splice, reduceIte, reduceCtorEq, Nat.reduceEqDiff, Nat.reduceAdd, Nat.reduceSub, Nat.reduceMul, Nat.reduceLeDiff, ne_eq, not_false_eq_true, Int.reduceEq, Int.reduceLT, Int.reduceLE, Int.reduceNeg, Int.reduceToNat, Int.reduceGT, Int.reduceGE, Nat.reduceLT, Nat.lt_add_one, Nat.zero_lt_succ, Nat.succ_pos, Nat.zero_le, beq_self_eq_true, a, decide_true, Bool.true_and]
  · simp (maxSteps := 4000000) only [vm, vl, Arg.get, cells, stor, boundO, resultsV, resV, partK, loadV, Vm.part, fillC, splice, reduceIte, reduceCtorEq, Nat.reduceEqDiff, Nat.reduceAdd, Nat.reduceSub, Nat.reduceMul, Nat.reduceLeDiff, ne_eq, not_false_eq_true, Int.reduceEq, Int.reduceLT, Int.reduceLE, Int.reduceNeg, Int.reduceToNat, Int.reduceGT, Int.reduceGE, Nat.reduceLT, Nat.lt_add_one, Nat.zero_lt_succ, Nat.succ_pos, Nat.zero_le, beq_self_eq_true, a, decide_false, Bool.false_and]
theorem num_pair {n : Int} {b : Bool} {x : Int × Bool} (h : x = (n, b)) : V.tup [.int .i64 x.1, .bool x.2] = .tup [.int .i64 n, .bool b] := by subst h; rfl
theorem Number_ok {s : Bs} {most : Int} (hs : s.length ≤ 9223372036854775806) (h0 : -4000000000000000000 ≤ most) (h1 : most ≤ 4000000000000000000) : Cf F L i_token_Number [.str s, .int .i64 most] h (Pu h (.tup [.int .i64 (numS s most).1, .bool (numS s most).2])) := by
  refine run_token_Number ?_
  simp only [p_token_Number]
  by_cases a : s = []
  · subst a
    rw [num_pair (show numS [] most = (0, false) from rfl)]
    have e1 : (([] : Bs) == []) = true := rfl
    simp (maxSteps := 4000000) only [vm, vl, Arg.get, cells, stor, boundO, resultsV, resV, partK, loadV, Vm.part, fillC, splice, reduceIte, reduceCtorEq, Nat.reduceEqDiff, Nat.reduceAdd, Nat.reduceSub, Nat.reduceMul, Nat.reduceLeDiff, ne_eq, not_false_eq_true, Int.reduceEq, Int.reduceLT, Int.reduceLE, Int.reduceNeg, Int.reduceToNat, Int.reduceGT, Int.reduceGE, Nat.reduceLT, Nat.lt_add_one, Nat.zero_lt_succ, Nat.succ_pos, Nat.zero_le, beq_self_eq_true, k_token_Number_1, k_token_Number_3, k_token_Number_4, k_token_Number_2, k_token_Number_0, e1]
  have a' : (s == []) = false := beq_eq_false_iff_ne.2 a
  have ae : s.isEmpty = false := by cases s; exact absurd rfl a; rfl
  by_cases b : most < 0
  · rw [num_pair (show numS s most = (0, false) by unfold numS; simp [b])]
    simp (maxSteps := 4000000) only [vm, vl, Arg.get, cells, stor, boundO, resultsV, resV, partK, loadV, Vm.part, fillC, splice, reduceIte, reduceCtorEq, Nat.reduceEqDiff, Nat.reduceAdd, Nat.reduceSub, Nat.reduceMul, Nat.reduceLeDiff, ne_eq, not_false_eq_true, Int.reduceEq, Int.reduceLT, Int.reduceLE, Int.reduceNeg, Int.reduceToNat, Int.reduceGT, Int.reduceGE, Nat.reduceLT, Nat.lt_add_one, Nat.zero_lt_succ, Nat.succ_pos, Nat.zero_le, beq_self_eq_true, k_token_Number_1, k_token_Number_3, k_token_Number_4, k_token_Number_2, k_token_Number_0, a', b, decide_true]
  cases hd : s.all digB with
  | false =>
    rw [num_pair (show numS s most = (0, false) by unfold numS; simp [hd])]
    simp (maxSteps := 4000000) only [vm, vl, Arg.get, cells, stor, boundO, resultsV, resV, partK, loadV, Vm.part, fillC, splice, reduceIte, reduceCtorEq, Nat.reduceEqDiff, Nat.reduceAdd, Nat.reduceSub, Nat.reduceMul, Nat.reduceLeDiff, ne_eq, not_false_eq_true, Int.reduceEq, Int.reduceLT, Int.reduceLE, Int.reduceNeg, Int.reduceToNat, Int.reduceGT, Int.reduceGE, Nat.reduceLT, Nat.lt_add_one, Nat.zero_lt_succ, Nat.succ_pos, Nat.zero_le, beq_self_eq_true, k_token_Number_1, k_token_Number_3, k_token_Number_4, k_token_Number_2, k_token_Number_0, a', b, decide_false]
    refine Cf.pu (all_ok (caps := []) (by omega) fun c h => Number1_ok) fun u => ?_
    simp (maxSteps := 4000000) only [vm, vl, Arg.get, cells, stor, boundO, resultsV, resV, partK, loadV, Vm.part, fillC, splice, reduceIte, reduceCtorEq, Nat.reduceEqDiff, Nat.reduceAdd, Nat.reduceSub, Nat.reduceMul, Nat.reduceLeDiff, ne_eq, not_false_eq_true, Int.reduceEq, Int.reduceLT, Int.reduceLE, Int.reduceNeg, Int.reduceToNat, Int.reduceGT, Int.reduceGE, Nat.reduceLT, Nat.lt_add_one, Nat.zero_lt_succ, Nat.succ_pos, Nat.zero_le, beq_self_eq_true, k_token_Number_1, k_token_Number_3, k_token_Number_4, k_token_Number_2, k_token_Number_0, hd, Bool.not_false]
  | true =>
    rw [num_pair (show numS s most = (numG s 0 most, true) by unfold numS; simp [hd, b, ae])]
    simp (maxSteps := 4000000) only [vm, vl, Arg.get, cells, stor, boundO, resultsV, resV, partK, loadV, Vm.part, fillC, splice, reduceIte, reduceCtorEq, Nat.reduceEqDiff, Nat.reduceAdd, Nat.reduceSub, Nat.reduceMul, Nat.reduceLeDiff, ne_eq, not_false_eq_true, Int.reduceEq, Int.reduceLT, Int.reduceLE, Int.reduceNeg, Int.reduceToNat, Int.reduceGT, Int.reduceGE, Nat.reduceLT, Nat.lt_add_one, Nat.zero_lt_succ, Nat.succ_pos, Nat.zero_le, beq_self_eq_true, k_token_Number_1, k_token_Number_3, k_token_Number_4, k_token_Number_2, k_token_Number_0, a', b, decide_false]
    refine Cf.pu (all_ok (caps := []) (by omega) fun c h => Number1_ok) fun u => ?_
    simp (maxSteps := 4000000) only [vm, vl, Arg.get, cells, stor, boundO, resultsV, resV, partK, loadV, Vm.part, fillC, splice, reduceIte, reduceCtorEq, Nat.reduceEqDiff, Nat.reduceAdd, Nat.reduceSub, Nat.reduceMul, Nat.reduceLeDiff, ne_eq, not_false_eq_true, Int.reduceEq, Int.reduceLT, Int.reduceLE, Int.reduceNeg, Int.reduceToNat, Int.reduceGT, Int.reduceGE, Nat.reduceLT, Nat.lt_add_one, Nat.zero_lt_succ, Nat.succ_pos, Nat.zero_le, beq_self_eq_true, k_token_Number_1, k_token_Number_3, k_token_Number_4, k_token_Number_2, k_token_Number_0, hd, Bool.not_true]
    refine l_token_Number_0 (fun n e h' => ∃ (i : Nat) (v : Int), n = s.length - i ∧ i ≤ s.length ∧ e 0 = .str s ∧ e 1 = .int .i64 most ∧ e 6 = .int .i64 v ∧ e 21 = .int .i64 s.length ∧ e 22 = .int .i64 i ∧ 0 ≤ v ∧ v ≤ most ∧ numG s 0 most = numG (s.drop i) v most ∧ ∃ t, h' = h ++ t) ?_ (n := s.length) ⟨0, 0, by simp, by simp, rfl, rfl, rfl, rfl, rfl, by omega, by omega, rfl, u, rfl⟩
    rintro n e h' ⟨i, v, rfl, hi, e0, e1, e6, e21, e22, v0, v1, hg, t, rfl⟩
    simp only [b_token_Number_0]
    rw [hg]
    rcases str_at hi with ⟨hn, rfl, hdr⟩ | ⟨c, hl, hl', hc, hdr⟩
    · rw [hdr]
      simp (maxSteps := 4000000) only [vm, vl, Arg.get, cells, stor, boundO, resultsV, resV, partK, loadV, Vm.part, fillC, splice, reduceIte, reduceCtorEq, Nat.reduceEqDiff, Nat.reduceAdd, Nat.reduceSub, Nat.reduceMul, Nat.reduceLeDiff, ne_eq, not_false_eq_true, Int.reduceEq, Int.reduceLT, Int.reduceLE, Int.reduceNeg, Int.reduceToNat, Int.reduceGT, Int.reduceGE, Nat.reduceLT, Nat.lt_add_one, Nat.zero_lt_succ, Nat.succ_pos, Nat.zero_le, beq_self_eq_true, k_token_Number_1, k_token_Number_3, k_token_Number_4, k_token_Number_2, k_token_Number_0, e0, e1, e6, e21, e22, hn, decide_false]
      rfl
    · have w := wrap64 (x := (i : Int) + 1) (by omega) (by omega)
      have dc : digB c = true := by
        rw [← hc]
        refine (List.all_eq_true.1 hd) _ ?_
        rw [List.getD_eq_getElem?_getD, List.getElem?_eq_getElem hl', Option.getD_some]; exact List.getElem_mem _
      have di := dig_in dc
      have dw := dig_wrap c (by simp [di])
      have d64 : IntKind.i64.wrap ((c.toNat : Int) - 48) = (c.toNat : Int) - 48 := wrap64 (by omega) (by omega)
      have eg : numG (c :: s.drop (i + 1)) v most = if (c.toNat : Int) - 48 > most ∨ v > (most - ((c.toNat : Int) - 48)) / 10 then most else numG (s.drop (i + 1)) (10 * v + ((c.toNat : Int) - 48)) most := rfl
      rw [hdr, eg]
      generalize hD : (c.toNat : Int) - 48 = D at *
      by_cases p : D > most
      · rw [if_pos (.inl p)]
        simp (maxSteps := 4000000) only [vm, vl, Arg.get, cells, stor, boundO, resultsV, resV, partK, loadV, Vm.part, fillC, splice, reduceIte, reduceCtorEq, Nat.reduceEqDiff, Nat.reduceAdd, Nat.reduceSub, Nat.reduceMul, Nat.reduceLeDiff, ne_eq, not_false_eq_true, Int.reduceEq, Int.reduceLT, Int.reduceLE, Int.reduceNeg, Int.reduceToNat, Int.reduceGT, Int.reduceGE, Nat.reduceLT, Nat.lt_add_one, Nat.zero_lt_succ, Nat.succ_pos, Nat.zero_le, beq_self_eq_true, k_token_Number_1, k_token_Number_3, k_token_Number_4, k_token_Number_2, k_token_Number_0, e0, e1, e6, e21, e22, hl, hl', hc, hD, dw, d64, p, decide_true]
      have w1 : IntKind.i64.wrap (most - D) = most - D := wrap64 (by omega) (by omega)
      have w2 : IntKind.i64.wrap ((most - D).tdiv 10) = (most - D) / 10 := wquo (by omega) (by omega) (by omega)
      by_cases q : v > (most - D) / 10
      · rw [if_pos (.inr q)]
        simp (maxSteps := 4000000) only [vm, vl, Arg.get, cells, stor, boundO, resultsV, resV, partK, loadV, Vm.part, fillC, splice, reduceIte, reduceCtorEq, Nat.reduceEqDiff, Nat.reduceAdd, Nat.reduceSub, Nat.reduceMul, Nat.reduceLeDiff, ne_eq, not_false_eq_true, Int.reduceEq, Int.reduceLT, Int.reduceLE, Int.reduceNeg, Int.reduceToNat, Int.reduceGT, Int.reduceGE, Nat.reduceLT, Nat.lt_add_one, Nat.zero_lt_succ, Nat.succ_pos, Nat.zero_le, beq_self_eq_true, k_token_Number_1, k_token_Number_3, k_token_Number_4, k_token_Number_2, k_token_Number_0, e0, e1, e6, e21, e22, hl, hl', hc, hD, dw, d64, p, q, w1, w2, bin_quo', decide_true, decide_false]
      · rw [if_neg (fun h => h.elim p q)]
        have w3 : IntKind.i64.wrap (10 * v) = 10 * v := wrap64 (by omega) (by omega)
        have w4 : IntKind.i64.wrap (10 * v + D) = 10 * v + D := wrap64 (by omega) (by omega)
        simp (maxSteps := 4000000) only [vm, vl, Arg.get, cells, stor, boundO, resultsV, resV, partK, loadV, Vm.part, fillC, splice, reduceIte, reduceCtorEq, Nat.reduceEqDiff, Nat.reduceAdd, Nat.reduceSub, Nat.reduceMul, Nat.reduceLeDiff, ne_eq, not_false_eq_true, Int.reduceEq, Int.reduceLT, Int.reduceLE, Int.reduceNeg, Int.reduceToNat, Int.reduceGT, Int.reduceGE, Nat.reduceLT, Nat.lt_add_one, Nat.zero_lt_succ, Nat.succ_pos, Nat.zero_le, beq_self_eq_true, k_token_Number_1, k_token_Number_3, k_token_Number_4, k_token_Number_2, k_token_Number_0, e0, e1, e6, e21, e22, hl, hl', hc, hD, dw, d64, p, q, w, w1, w2, w3, w4, bin_quo', decide_true, decide_false]
        exact ⟨s.length - (i + 1), by omega, i + 1, 10 * v + D, rfl, hl', rfl, rfl, by omega, by omega, rfl, _, rfl⟩
theorem rNumber_ok {s : Bs} {most : Int} (hs : s.length ≤ 9223372036854775806) (h0 : -4000000000000000000 ≤ most) (h1 : most ≤ 4000000000000000000) : Cf F L i_gatepostref01_Number [.str s, .int .i64 most] h (Pu h (.tup [.int .i64 (numS s most).1, .bool (numS s most).2])) := by
  refine run_gatepostref01_Number ?_
  simp only [p_gatepostref01_Number]
  by_cases b : most < 0
  · rw [num_pair (show numS s most = (0, false) by unfold numS; simp [b])]
    simp (maxSteps := 4000000) only [vm, vl, Arg.get, cells, stor, boundO, resultsV, resV, partK, loadV, Vm.part, fillC, splice, reduceIte, reduceCtorEq, Nat.reduceEqDiff, Nat.reduceAdd, Nat.reduceSub, Nat.reduceMul, Nat.reduceLeDiff, ne_eq, not_false_eq_true, Int.reduceEq, Int.reduceLT, Int.reduceLE, Int.reduceNeg, Int.reduceToNat, Int.reduceGT, Int.reduceGE, Nat.reduceLT, Nat.lt_add_one, Nat.zero_lt_succ, Nat.succ_pos, Nat.zero_le, beq_self_eq_true, k_gatepostref01_Number_2, k_gatepostref01_Number_4, k_gatepostref01_Number_5, k_gatepostref01_Number_3, k_gatepostref01_Number_1, k_gatepostref01_Number_7, k_gatepostref01_Number_6, k_gatepostref01_Number_0, b, decide_true]
  by_cases a : s = []
  · subst a
    rw [num_pair (show numS [] most = (0, false) from rfl)]
    have e1 : (([] : Bs).length : Int) = 0 := rfl
    simp (maxSteps := 4000000) only [vm, vl, Arg.get, cells, stor, boundO, resultsV, resV, partK, loadV, Vm.part, fillC, splice, reduceIte, reduceCtorEq, Nat.reduceEqDiff, Nat.reduceAdd, Nat.reduceSub, Nat.reduceMul, Nat.reduceLeDiff, ne_eq, not_false_eq_true, Int.reduceEq, Int.reduceLT, Int.reduceLE, Int.reduceNeg, Int.reduceToNat, Int.reduceGT, Int.reduceGE, Nat.reduceLT, Nat.lt_add_one, Nat.zero_lt_succ, Nat.succ_pos, Nat.zero_le, beq_self_eq_true, k_gatepostref01_Number_2, k_gatepostref01_Number_4, k_gatepostref01_Number_5, k_gatepostref01_Number_3, k_gatepostref01_Number_1, k_gatepostref01_Number_7, k_gatepostref01_Number_6, k_gatepostref01_Number_0, b, e1, decide_true, decide_false]
  have a' : ¬ (s.length : Int) = 0 := by
    have : s.length ≠ 0 := fun h => a (List.eq_nil_of_length_eq_zero h)
    omega
  have ae : s.isEmpty = false := by cases s; exact absurd rfl a; rfl
  simp (maxSteps := 4000000) only [vm, vl, Arg.get, cells, stor, boundO, resultsV, resV, partK, loadV, Vm.part, fillC, splice, reduceIte, reduceCtorEq, Nat.reduceEqDiff, Nat.reduceAdd, Nat.reduceSub, Nat.reduceMul, Nat.reduceLeDiff, ne_eq, not_false_eq_true, Int.reduceEq, Int.reduceLT, Int.reduceLE, Int.reduceNeg, Int.reduceToNat, Int.reduceGT, Int.reduceGE, Nat.reduceLT, Nat.lt_add_one, Nat.zero_lt_succ, Nat.succ_pos, Nat.zero_le, beq_self_eq_true, k_gatepostref01_Number_2, k_gatepostref01_Number_4, k_gatepostref01_Number_5, k_gatepostref01_Number_3, k_gatepostref01_Number_1, k_gatepostref01_Number_7, k_gatepostref01_Number_6, k_gatepostref01_Number_0, b, a', decide_false]
  refine l_gatepostref01_Number_1 (fun n e h' => ∃ (i : Nat), n = s.length - i ∧ i ≤ s.length ∧ e 0 = .str s ∧ e 1 = .int .i64 most ∧ e 6 = .int .i64 0 ∧ e 7 = .int .i64 i ∧ s.all digB = (s.drop i).all digB ∧ h = h') ?_ (n := s.length) ⟨0, by simp, by simp, rfl, rfl, rfl, rfl, rfl, rfl⟩
  rintro n e h' ⟨i, rfl, hi, e0, e1, e6, e7, ha, rfl⟩
  simp only [b_gatepostref01_Number_1]
  rcases str_at hi with ⟨hn, rfl, hdr⟩ | ⟨c, hl, hl', hc, hdr⟩
  · have hd : s.all digB = true := by rw [ha, hdr]; rfl
    rw [num_pair (show numS s most = (numG s 0 most, true) by unfold numS; simp [hd, b, ae])]
    simp (maxSteps := 4000000) only [vm, vl, Arg.get, cells, stor, boundO, resultsV, resV, partK, loadV, Vm.part, fillC, splice, reduceIte, reduceCtorEq, Nat.reduceEqDiff, Nat.reduceAdd, Nat.reduceSub, Nat.reduceMul, Nat.reduceLeDiff, ne_eq, not_false_eq_true, Int.reduceEq, Int.reduceLT, Int.reduceLE, Int.reduceNeg, Int.reduceToNat, Int.reduceGT, Int.reduceGE, Nat.reduceLT, Nat.lt_add_one, Nat.zero_lt_succ, Nat.succ_pos, Nat.zero_le, beq_self_eq_true, k_gatepostref01_Number_2, k_gatepostref01_Number_4, k_gatepostref01_Number_5, k_gatepostref01_Number_3, k_gatepostref01_Number_1, k_gatepostref01_Number_7, k_gatepostref01_Number_6, k_gatepostref01_Number_0, e0, e1, e6, e7, hn, decide_false]
    refine l_gatepostref01_Number_0 (fun n e h' => ∃ (i : Nat) (v : Int), n = s.length - i ∧ i ≤ s.length ∧ e 0 = .str s ∧ e 1 = .int .i64 most ∧ e 6 = .int .i64 v ∧ e 8 = .int .i64 i ∧ 0 ≤ v ∧ v ≤ most ∧ numG s 0 most = numG (s.drop i) v most ∧ h = h') ?_ (n := s.length) ⟨0, 0, by simp, by simp, by simp [upd, e0], by simp [upd, e1], by simp [upd, e6], rfl, by omega, by omega, rfl, rfl⟩
    rintro n e h' ⟨i, v, rfl, hi, e0, e1, e6, e8, v0, v1, hg, rfl⟩
    simp only [b_gatepostref01_Number_0]
    rw [hg]
    rcases str_at hi with ⟨hn, rfl, hdr⟩ | ⟨c, hl, hl', hc, hdr⟩
    · rw [hdr]
      simp (maxSteps := 4000000) only [vm, vl, Arg.get, cells, stor, boundO, resultsV, resV, partK, loadV, Vm.part, fillC, splice, reduceIte, reduceCtorEq, Nat.reduceEqDiff, Nat.reduceAdd, Nat.reduceSub, Nat.reduceMul, Nat.reduceLeDiff, ne_eq, not_false_eq_true, Int.reduceEq, Int.reduceLT, Int.reduceLE, Int.reduceNeg, Int.reduceToNat, Int.reduceGT, Int.reduceGE, Nat.reduceLT, Nat.lt_add_one, Nat.zero_lt_succ, Nat.succ_pos, Nat.zero_le, beq_self_eq_true, k_gatepostref01_Number_2, k_gatepostref01_Number_4, k_gatepostref01_Number_5, k_gatepostref01_Number_3, k_gatepostref01_Number_1, k_gatepostref01_Number_7, k_gatepostref01_Number_6, k_gatepostref01_Number_0, e0, e1, e6, e8, hn, decide_false]
      rfl
    · have w := wrap64 (x := (i : Int) + 1) (by omega) (by omega)
      have dc : digB c = true := by
        rw [← hc]
        refine (List.all_eq_true.1 hd) _ ?_
        rw [List.getD_eq_getElem?_getD, List.getElem?_eq_getElem hl', Option.getD_some]; exact List.getElem_mem _
      have di := dig_in dc
      have dw := dig_wrap c (by simp [di])
      have d64 : IntKind.i64.wrap ((c.toNat : Int) - 48) = (c.toNat : Int) - 48 := wrap64 (by omega) (by omega)
      have eg : numG (c :: s.drop (i + 1)) v most = if (c.toNat : Int) - 48 > most ∨ v > (most - ((c.toNat : Int) - 48)) / 10 then most else numG (s.drop (i + 1)) (10 * v + ((c.toNat : Int) - 48)) most := rfl
      rw [hdr, eg]
      generalize hD : (c.toNat : Int) - 48 = D at *
      have w1 : IntKind.i64.wrap (most - D) = most - D := wrap64 (by omega) (by omega)
      by_cases p : most < D
      · rw [if_pos (.inl p)]
        have z : (most - D).tdiv 10 = 0 := by
          obtain ⟨k, hk⟩ : ∃ k : Nat, D - most = k := ⟨(D - most).toNat, by omega⟩
          have : most - D = -(k : Int) := by omega
          rw [this, Int.neg_tdiv]
          have : (k : Int).tdiv 10 = 0 := by rw [Int.tdiv_eq_ediv_of_nonneg (by omega)]; omega
          rw [this]; rfl
        have z0 : IntKind.i64.wrap 0 = 0 := rfl
        by_cases q : v > 0
        · simp (maxSteps := 4000000) only [vm, vl, Arg.get, cells, stor, boundO, resultsV, resV, partK, loadV, Vm.part, fillC, splice, reduceIte, reduceCtorEq, Nat.reduceEqDiff, Nat.reduceAdd, Nat.reduceSub, Nat.reduceMul, Nat.reduceLeDiff, ne_eq, not_false_eq_true, Int.reduceEq, Int.reduceLT, Int.reduceLE, Int.reduceNeg, Int.reduceToNat, Int.reduceGT, Int.reduceGE, Nat.reduceLT, Nat.lt_add_one, Nat.zero_lt_succ, Nat.succ_pos, Nat.zero_le, beq_self_eq_true, k_gatepostref01_Number_2, k_gatepostref01_Number_4, k_gatepostref01_Number_5, k_gatepostref01_Number_3, k_gatepostref01_Number_1, k_gatepostref01_Number_7, k_gatepostref01_Number_6, k_gatepostref01_Number_0, e0, e1, e6, e8, hl, hl', hc, hD, dw, d64, p, q, w1, z, z0, bin_quo', decide_true, decide_false]
        · simp (maxSteps := 4000000) only [vm, vl, Arg.get, cells, stor, boundO, resultsV, resV, partK, loadV, Vm.part, fillC, splice, reduceIte, reduceCtorEq, Nat.reduceEqDiff, Nat.reduceAdd, Nat.reduceSub, Nat.reduceMul, Nat.reduceLeDiff, ne_eq, not_false_eq_true, Int.reduceEq, Int.reduceLT, Int.reduceLE, Int.reduceNeg, Int.reduceToNat, Int.reduceGT, Int.reduceGE, Nat.reduceLT, Nat.lt_add_one, Nat.zero_lt_succ, Nat.succ_pos, Nat.zero_le, beq_self_eq_true, k_gatepostref01_Number_2, k_gatepostref01_Number_4, k_gatepostref01_Number_5, k_gatepostref01_Number_3, k_gatepostref01_Number_1, k_gatepostref01_Number_7, k_gatepostref01_Number_6, k_gatepostref01_Number_0, e0, e1, e6, e8, hl, hl', hc, hD, dw, d64, p, q, w1, z, z0, bin_quo', decide_true, decide_false]
      have w2 : IntKind.i64.wrap ((most - D).tdiv 10) = (most - D) / 10 := wquo (by omega) (by omega) (by omega)
      by_cases q : v > (most - D) / 10
      · rw [if_pos (.inr q)]
        simp (maxSteps := 4000000) only [vm, vl, Arg.get, cells, stor, boundO, resultsV, resV, partK, loadV, Vm.part, fillC, splice, reduceIte, reduceCtorEq, Nat.reduceEqDiff, Nat.reduceAdd, Nat.reduceSub, Nat.reduceMul, Nat.reduceLeDiff, ne_eq, not_false_eq_true, Int.reduceEq, Int.reduceLT, Int.reduceLE, Int.reduceNeg, Int.reduceToNat, Int.reduceGT, Int.reduceGE, Nat.reduceLT, Nat.lt_add_one, Nat.zero_lt_succ, Nat.succ_pos, Nat.zero_le, beq_self_eq_true, k_gatepostref01_Number_2, k_gatepostref01_Number_4, k_gatepostref01_Number_5, k_gatepostref01_Number_3, k_gatepostref01_Number_1, k_gatepostref01_Number_7, k_gatepostref01_Number_6, k_gatepostref01_Number_0, e0, e1, e6, e8, hl, hl', hc, hD, dw, d64, p, q, w1, w2, bin_quo', decide_true, decide_false]
      · rw [if_neg (fun h => h.elim (by omega) q)]
        have w3 : IntKind.i64.wrap (v * 10) = v * 10 := wrap64 (by omega) (by omega)
        have w4 : IntKind.i64.wrap (v * 10 + D) = 10 * v + D := by rw [wrap64 (by omega) (by omega)]; omega
        simp (maxSteps := 4000000) only [vm, vl, Arg.get, cells, stor, boundO, resultsV, resV, partK, loadV, Vm.part, fillC, splice, reduceIte, reduceCtorEq, Nat.reduceEqDiff, Nat.reduceAdd, Nat.reduceSub, Nat.reduceMul, Nat.reduceLeDiff, ne_eq, not_false_eq_true, Int.reduceEq, Int.reduceLT, Int.reduceLE, Int.reduceNeg, Int.reduceToNat, Int.reduceGT, Int.reduceGE, Nat.reduceLT, Nat.lt_add_one, Nat.zero_lt_succ, Nat.succ_pos, Nat.zero_le, beq_self_eq_true, k_gatepostref01_Number_2, k_gatepostref01_Number_4, k_gatepostref01_Number_5, k_gatepostref01_Number_3, k_gatepostref01_Number_1, k_gatepostref01_Number_7, k_gatepostref01_Number_6, k_gatepostref01_Number_0, e0, e1, e6, e8, hl, hl', hc, hD, dw, d64, p, q, w, w1, w2, w3, w4, bin_quo', decide_true, decide_false]
        exact ⟨s.length - (i + 1), by omega, i + 1, 10 * v + D, rfl, hl', rfl, rfl, by omega, by omega, rfl⟩
  · have w := wrap64 (x := (i : Int) + 1) (by omega) (by omega)
    rw [hdr, List.all_cons] at ha
    cases dc : digB c with
    | false =>
      rw [dc, Bool.false_and] at ha
      rw [num_pair (show numS s most = (0, false) by unfold numS; simp [ha])]
      rcases dig_no dc with p | ⟨p, q⟩
      · simp (maxSteps := 4000000) only [vm, vl, Arg.get, cells, stor, boundO, resultsV, resV, partK, loadV, Vm.part, fillC, splice, reduceIte, reduceCtorEq, Nat.reduceEqDiff, Nat.reduceAdd, Nat.reduceSub, Nat.reduceMul, Nat.reduceLeDiff, ne_eq, not_false_eq_true, Int.reduceEq, Int.reduceLT, Int.reduceLE, Int.reduceNeg, Int.reduceToNat, Int.reduceGT, Int.reduceGE, Nat.reduceLT, Nat.lt_add_one, Nat.zero_lt_succ, Nat.succ_pos, Nat.zero_le, beq_self_eq_true, k_gatepostref01_Number_2, k_gatepostref01_Number_4, k_gatepostref01_Number_5, k_gatepostref01_Number_3, k_gatepostref01_Number_1, k_gatepostref01_Number_7, k_gatepostref01_Number_6, k_gatepostref01_Number_0, e0, e1, e6, e7, hl, hl', hc, p, decide_true]
      · simp (maxSteps := 4000000) only [vm, vl, Arg.get, cells, stor, boundO, resultsV, resV, partK, loadV, Vm.part, fillC, splice, reduceIte, reduceCtorEq, Nat.reduceEqDiff, Nat.reduceAdd, Nat.reduceSub, Nat.reduceMul, Nat.reduceLeDiff, ne_eq, not_false_eq_true, Int.reduceEq, Int.reduceLT, Int.reduceLE, Int.reduceNeg, Int.reduceToNat, Int.reduceGT, Int.reduceGE, Nat.reduceLT, Nat.lt_add_one, Nat.zero_lt_succ, Nat.succ_pos, Nat.zero_le, beq_self_eq_true, k_gatepostref01_Number_2, k_gatepostref01_Number_4, k_gatepostref01_Number_5, k_gatepostref01_Number_3, k_gatepostref01_Number_1, k_gatepostref01_Number_7, k_gatepostref01_Number_6, k_gatepostref01_Number_0, e0, e1, e6, e7, hl, hl', hc, p, q, decide_true, decide_false]
    | true =>
      rw [dc, Bool.true_and] at ha
      have di := dig_in dc
      have p : ¬ (c.toNat : Int) < 48 := by omega
      have q : ¬ (c.toNat : Int) > 57 := by omega
      simp (maxSteps := 4000000) only [vm, vl, Arg.get, cells, stor, boundO, resultsV, resV, partK, loadV, Vm.part, fillC, splice, reduceIte, reduceCtorEq, Nat.reduceEqDiff, Nat.reduceAdd, Nat.reduceSub, Nat.reduceMul, Nat.reduceLeDiff, ne_eq, not_false_eq_true, Int.reduceEq, Int.reduceLT, Int.reduceLE, Int.reduceNeg, Int.reduceToNat, Int.reduceGT, Int.reduceGE, Nat.reduceLT, Nat.lt_add_one, Nat.zero_lt_succ, Nat.succ_pos, Nat.zero_le, beq_self_eq_true, k_gatepostref01_Number_2, k_gatepostref01_Number_4, k_gatepostref01_Number_5, k_gatepostref01_Number_3, k_gatepostref01_Number_1, k_gatepostref01_Number_7, k_gatepostref01_Number_6, k_gatepostref01_Number_0, e0, e1, e6, e7, hl, hl', hc, p, q, w, decide_true, decide_false]
      exact ⟨s.length - (i + 1), by omega, i + 1, rfl, hl', rfl, ha⟩
end Go.Proofs.YtnfcjeajbjcppaaDoor.Vh
end
section
set_option linter.unusedVariables false
set_option linter.unusedSimpArgs false
namespace Go.Proofs.YtnfcjeajbjcppaaDoor.Vh
open Go.Vm Go.Vt
attribute [local congr] wi_congr wg_congr wgd_congr wb_congr wl_congr cf_congr
variable {L : FuncId → List V → V → Prop} {h : Heap}
theorem splice_set {cs : List V} {i : Nat} {x : V} (hi : i < cs.length) : cs.take i ++ x :: cs.drop (i + 1) = cs.set i x := by
  rw [List.set_eq_take_append_cons_drop, if_pos hi]
/-- The table of blanks. -/
def blankT : List V := ((List.replicate 256 (V.bool false)).set 32 (.bool true)).set 9 (.bool true)
def blankAt : Nat → List V
  | 0 => List.replicate 256 (.bool false)
  | 1 => (List.replicate 256 (V.bool false)).set 32 (.bool true)
  | _ => blankT
theorem blankAt_len : ∀ i, (blankAt i).length = 256
  | 0 => List.length_replicate ..
  | 1 => by simp only [blankAt, List.length_set, List.length_replicate]
  | i + 2 => by simp only [blankAt, blankT, List.length_set, List.length_replicate]
theorem blankT_at (c : UInt8) : blankT.getD c.toNat (.tup []) = .bool (blankB c) := by
  have : ∀ n : Fin 256, blankT.getD (UInt8.ofNat n.val).toNat (.tup []) = .bool (blankB (UInt8.ofNat n.val)) := by
    intro n
    have h : (blankT.map fun | .bool b => b | _ => false) = (List.range 256).map fun n => blankB (UInt8.ofNat n) := by decide +kernel
    have h2 : ∀ v ∈ blankT, ∃ b, v = V.bool b := by
      intro v hv
      unfold blankT at hv
      rcases List.mem_or_eq_of_mem_set hv with hv | rfl
      · rcases List.mem_or_eq_of_mem_set hv with hv | rfl
        · exact ⟨false, (List.mem_replicate.1 hv).2⟩
        · exact ⟨true, rfl⟩
      · exact ⟨true, rfl⟩
    have hl : n.val < blankT.length := by simp only [blankT, List.length_set, List.length_replicate]; exact n.isLt
    have e : (UInt8.ofNat n.val).toNat = n.val := by simp
    obtain ⟨b, hb⟩ := h2 blankT[n.val] (List.getElem_mem _)
    rw [e, List.getD_eq_getElem?_getD, List.getElem?_eq_getElem hl, Option.getD_some, hb]
    have h3 := congrArg (fun l => l[n.val]?) h
    simp only [List.getElem?_map, List.getElem?_eq_getElem hl, Option.map_some, hb, List.getElem?_range n.isLt] at h3
    injection h3 with h3
    rw [h3]
  have := this ⟨c.toNat, c.toNat_lt⟩
  simpa using this
theorem asciiSet_ok : Cf F L i_strings_makeASCIISet [.str [32, 9]] h (Pu h (.tup [.agg blankT, .bool true])) := by
  refine run_strings_makeASCIISet ?_
  simp only [p_strings_makeASCIISet]
  simp (maxSteps := 4000000) only [vm, vl, Arg.get, cells, stor, boundO, resultsV, resV, partK, loadV, Vm.part, fillC, splice, reduceIte, reduceCtorEq, Nat.reduceEqDiff, Nat.reduceAdd, Nat.reduceSub, Nat.reduceMul, Nat.reduceLeDiff, ne_eq, not_false_eq_true, Int.reduceEq, Int.reduceLT, Int.reduceLE, Int.reduceNeg, Int.reduceToNat, Int.reduceGT, Int.reduceGE, Nat.reduceLT, Nat.lt_add_one, Nat.zero_lt_succ, Nat.succ_pos, Nat.zero_le, beq_self_eq_true, k_strings_makeASCIISet_0, k_strings_makeASCIISet_2, k_strings_makeASCIISet_3, k_strings_makeASCIISet_1]
  refine l_strings_makeASCIISet_0 (fun n e h' => ∃ i, n = 2 - i ∧ i ≤ 2 ∧ e 0 = .str [32, 9] ∧ e 2 = .ptr h.length 0 ∧ e 3 = .bool false ∧ e 4 = .int .i64 i ∧ h' = h ++ [.box (blankAt i)]) ?_ (n := 2) ⟨0, by simp, by simp, rfl, rfl, rfl, rfl, rfl⟩
  rintro n e h' ⟨i, rfl, hi, e0, e2, e3, e4, rfl⟩
  simp only [b_strings_makeASCIISet_0]
  have u1 : UInt8.toNat 32 = 32 := rfl
  have u2 : UInt8.toNat 9 = 9 := rfl
  have w1 : IntKind.i64.wrap (0 + 1) = 1 := by decide
  have w2 : IntKind.i64.wrap (1 + 1) = 2 := by decide
  have p0 := blankAt_len 0
  have p1 := blankAt_len 1
  have p2 := blankAt_len 2
  have q0 : (blankAt 0).take 32 ++ .bool true :: (blankAt 0).drop 33 = blankAt 1 := splice_set (by rw [p0]; omega)
  have q1 : (blankAt 1).take 9 ++ .bool true :: (blankAt 1).drop 10 = blankAt 2 := splice_set (by rw [p1]; omega)
  match i, hi with
  | 0, _ =>
    simp (maxSteps := 4000000) only [vm, vl, Arg.get, cells, stor, boundO, resultsV, resV, partK, loadV, Vm.part, fillC, splice, reduceIte, reduceCtorEq, Nat.reduceEqDiff, Nat.reduceAdd, Nat.reduceSub, Nat.reduceMul, Nat.reduceLeDiff, ne_eq, not_false_eq_true, Int.reduceEq, Int.reduceLT, Int.reduceLE, Int.reduceNeg, Int.reduceToNat, Int.reduceGT, Int.reduceGE, Nat.reduceLT, Nat.lt_add_one, Nat.zero_lt_succ, Nat.succ_pos, Nat.zero_le, beq_self_eq_true, k_strings_makeASCIISet_0, k_strings_makeASCIISet_2, k_strings_makeASCIISet_3, k_strings_makeASCIISet_1, e0, e2, e3, e4, blankAt_len, u1, w1, q0, Int.natCast_zero, Int.cast_ofNat_Int]
    (repeat' ((first | refine wg_casep (fun _ => ?_) (fun _ => ?_) | refine wg_casen (fun _ => ?_) (fun _ => ?_) | refine wg_case (fun _ => ?_) (fun _ => ?_) | refine wgd_casep (fun _ => ?_) (fun _ => ?_) | refine wgd_casen (fun _ => ?_) (fun _ => ?_) | refine wgd_case (fun _ => ?_) (fun _ => ?_) | refine wb_casep (fun _ => ?_) (fun _ => ?_) | refine wb_casen (fun _ => ?_) (fun _ => ?_) | refine wb_case (fun _ => ?_) (fun _ => ?_)) <;> try simp (maxSteps := 4000000) only [vm, vl, Arg.get, cells, stor, boundO, resultsV, resV, partK, loadV, Vm.part, fillC, splice, reduceIte, reduceCtorEq, Nat.reduceEqDiff, Nat.reduceAdd, Nat.reduceSub, Nat.reduceMul, Nat.reduceLeDiff, ne_eq, not_false_eq_true, Int.reduceEq, Int.reduceLT, Int.reduceLE, Int.reduceNeg, Int.reduceToNat, Int.reduceGT, Int.reduceGE, Nat.reduceLT, Nat.lt_add_one, Nat.zero_lt_succ, Nat.succ_pos, Nat.zero_le, beq_self_eq_true, k_strings_makeASCIISet_0, k_strings_makeASCIISet_2, k_strings_makeASCIISet_3, k_strings_makeASCIISet_1, *]))
    exact ⟨1, by omega, 1, rfl, by omega, rfl, rfl⟩
  | 1, _ =>
    simp (maxSteps := 4000000) only [vm, vl, Arg.get, cells, stor, boundO, resultsV, resV, partK, loadV, Vm.part, fillC, splice, reduceIte, reduceCtorEq, Nat.reduceEqDiff, Nat.reduceAdd, Nat.reduceSub, Nat.reduceMul, Nat.reduceLeDiff, ne_eq, not_false_eq_true, Int.reduceEq, Int.reduceLT, Int.reduceLE, Int.reduceNeg, Int.reduceToNat, Int.reduceGT, Int.reduceGE, Nat.reduceLT, Nat.lt_add_one, Nat.zero_lt_succ, Nat.succ_pos, Nat.zero_le, beq_self_eq_true, k_strings_makeASCIISet_0, k_strings_makeASCIISet_2, k_strings_makeASCIISet_3, k_strings_makeASCIISet_1, e0, e2, e3, e4, blankAt_len, u2, w2, q1, Int.natCast_one]
    (repeat' ((first | refine wg_casep (fun _ => ?_) (fun _ => ?_) | refine wg_casen (fun _ => ?_) (fun _ => ?_) | refine wg_case (fun _ => ?_) (fun _ => ?_) | refine wgd_casep (fun _ => ?_) (fun _ => ?_) | refine wgd_casen (fun _ => ?_) (fun _ => ?_) | refine wgd_case (fun _ => ?_) (fun _ => ?_) | refine wb_casep (fun _ => ?_) (fun _ => ?_) | refine wb_casen (fun _ => ?_) (fun _ => ?_) | refine wb_case (fun _ => ?_) (fun _ => ?_)) <;> try simp (maxSteps := 4000000) only [vm, vl, Arg.get, cells, stor, boundO, resultsV, resV, partK, loadV, Vm.part, fillC, splice, reduceIte, reduceCtorEq, Nat.reduceEqDiff, Nat.reduceAdd, Nat.reduceSub, Nat.reduceMul, Nat.reduceLeDiff, ne_eq, not_false_eq_true, Int.reduceEq, Int.reduceLT, Int.reduceLE, Int.reduceNeg, Int.reduceToNat, Int.reduceGT, Int.reduceGE, Nat.reduceLT, Nat.lt_add_one, Nat.zero_lt_succ, Nat.succ_pos, Nat.zero_le, beq_self_eq_true, k_strings_makeASCIISet_0, k_strings_makeASCIISet_2, k_strings_makeASCIISet_3, k_strings_makeASCIISet_1, *]))
    exact ⟨0, by omega, 2, rfl, by omega, rfl, rfl⟩
  | 2, _ =>
    have z1 : List.take 256 (blankAt 2) = blankAt 2 := List.take_of_length_le (by rw [p2]; omega)
    have z2 : List.drop 256 (blankAt 2) = [] := List.drop_eq_nil_of_le (by rw [p2]; omega)
    simp (maxSteps := 4000000) only [vm, vl, Arg.get, cells, stor, boundO, resultsV, resV, partK, loadV, Vm.part, fillC, splice, reduceIte, reduceCtorEq, Nat.reduceEqDiff, Nat.reduceAdd, Nat.reduceSub, Nat.reduceMul, Nat.reduceLeDiff, ne_eq, not_false_eq_true, Int.reduceEq, Int.reduceLT, Int.reduceLE, Int.reduceNeg, Int.reduceToNat, Int.reduceGT, Int.reduceGE, Nat.reduceLT, Nat.lt_add_one, Nat.zero_lt_succ, Nat.succ_pos, Nat.zero_le, beq_self_eq_true, k_strings_makeASCIISet_0, k_strings_makeASCIISet_2, k_strings_makeASCIISet_3, k_strings_makeASCIISet_1, e0, e2, e3, e4, p2, z1, z2, List.append_nil]
    (repeat' ((first | refine wg_casep (fun _ => ?_) (fun _ => ?_) | refine wg_casen (fun _ => ?_) (fun _ => ?_) | refine wg_case (fun _ => ?_) (fun _ => ?_) | refine wgd_casep (fun _ => ?_) (fun _ => ?_) | refine wgd_casen (fun _ => ?_) (fun _ => ?_) | refine wgd_case (fun _ => ?_) (fun _ => ?_) | refine wb_casep (fun _ => ?_) (fun _ => ?_) | refine wb_casen (fun _ => ?_) (fun _ => ?_) | refine wb_case (fun _ => ?_) (fun _ => ?_)) <;> try simp (maxSteps := 4000000) only [vm, vl, Arg.get, cells, stor, boundO, resultsV, resV, partK, loadV, Vm.part, fillC, splice, reduceIte, reduceCtorEq, Nat.reduceEqDiff, Nat.reduceAdd, Nat.reduceSub, Nat.reduceMul, Nat.reduceLeDiff, ne_eq, not_false_eq_true, Int.reduceEq, Int.reduceLT, Int.reduceLE, Int.reduceNeg, Int.reduceToNat, Int.reduceGT, Int.reduceGE, Nat.reduceLT, Nat.lt_add_one, Nat.zero_lt_succ, Nat.succ_pos, Nat.zero_le, beq_self_eq_true, k_strings_makeASCIISet_0, k_strings_makeASCIISet_2, k_strings_makeASCIISet_3, k_strings_makeASCIISet_1, *]))
    rfl
theorem contains_ok {c : UInt8} {id : Nat} (hb : h[id]? = some (.box blankT)) : Cf F L i___strings_asciiSet__contains [.ptr id 0, byV c] h (Pu h (.bool (blankB c))) := by
  refine run___strings_asciiSet__contains ?_
  simp only [p___strings_asciiSet__contains]
  have h1 : (c.toNat : Int) < 256 := by have := c.toNat_lt; omega
  have h2 : blankT.length = 256 := blankAt_len 2
  have h3 : c.toNat + 1 ≤ 256 := by have := c.toNat_lt; omega
  simp (maxSteps := 4000000) only [vm, vl, Arg.get, cells, stor, boundO, resultsV, resV, partK, loadV, Vm.part, fillC, splice, reduceIte, reduceCtorEq, Nat.reduceEqDiff, Nat.reduceAdd, Nat.reduceSub, Nat.reduceMul, Nat.reduceLeDiff, ne_eq, not_false_eq_true, Int.reduceEq, Int.reduceLT, Int.reduceLE, Int.reduceNeg, Int.reduceToNat, Int.reduceGT, Int.reduceGE, Nat.reduceLT, Nat.lt_add_one, Nat.zero_lt_succ, Nat.succ_pos, Nat.zero_le, beq_self_eq_true, hb, blankT_at, h1, h2, h3]
/-- One byte off the right end. -/
theorem last_at {s : Bs} {n : Nat} (h : s.length = n + 1) : ∃ t c, s = t ++ [c] ∧ t.length = n ∧ s.getD n 0 = c ∧ s.take n = t := by
  have hne : s ≠ [] := by intro he; rw [he] at h; cases h
  obtain ⟨t, c, rfl⟩ : ∃ t c, s = t ++ [c] := ⟨s.dropLast, s.getLast hne, (List.dropLast_concat_getLast hne).symm⟩
  have hl : t.length = n := by simpa using h
  exact ⟨t, c, rfl, hl, by rw [List.getD_eq_getElem?_getD, List.getElem?_append_right (by omega)]; simp [hl], by rw [← hl]; simp⟩
theorem rightASCII_ok {s : Bs} {id : Nat} (hs : s.length < 9223372036854775807) (hb : h[id]? = some (.box blankT)) : Cf F L i_strings_trimRightASCII [.str s, .ptr id 0] h (Pu h (.str (trimR s))) := by
  refine run_strings_trimRightASCII ?_
  simp only [p_strings_trimRightASCII]
  refine l_strings_trimRightASCII_0 (fun n e h' => ∃ r : Bs, n = r.length ∧ e 0 = .str r ∧ e 1 = .ptr id 0 ∧ (∃ t, h' = h ++ t) ∧ r.length ≤ s.length ∧ trimR r = trimR s) ?_ (n := s.length) ⟨s, rfl, rfl, rfl, ⟨[], by simp⟩, by omega, rfl⟩
  rintro n e h' ⟨r, rfl, e0, e1, ⟨t, rfl⟩, hl, hr⟩
  simp only [b_strings_trimRightASCII_0]
  rw [← hr]
  cases hn : r.length with
  | zero =>
    obtain rfl : r = [] := List.eq_nil_of_length_eq_zero hn
    simp (maxSteps := 4000000) only [vm, vl, Arg.get, cells, stor, boundO, resultsV, resV, partK, loadV, Vm.part, fillC, splice, reduceIte, reduceCtorEq, Nat.reduceEqDiff, Nat.reduceAdd, Nat.reduceSub, Nat.reduceMul, Nat.reduceLeDiff, ne_eq, not_false_eq_true, Int.reduceEq, Int.reduceLT, Int.reduceLE, Int.reduceNeg, Int.reduceToNat, Int.reduceGT, Int.reduceGE, Nat.reduceLT, Nat.lt_add_one, Nat.zero_lt_succ, Nat.succ_pos, Nat.zero_le, beq_self_eq_true, k_strings_trimRightASCII_0, k_strings_trimRightASCII_2, k_strings_trimRightASCII_1, e0, e1]
    rfl
  | succ n =>
    obtain ⟨q, c, rfl, hq, hc, ht⟩ := last_at hn
    have w : IntKind.i64.wrap (((n + 1 : Nat) : Int) - 1) = n := by rw [wrap64 (by omega) (by omega)]; omega
    have g0 : ((n + 1 : Nat) : Int) > 0 := by omega
    have hb' : (h ++ t)[id]? = some (.box blankT) := get_old hb
    simp (maxSteps := 4000000) only [vm, vl, Arg.get, cells, stor, boundO, resultsV, resV, partK, loadV, Vm.part, fillC, splice, reduceIte, reduceCtorEq, Nat.reduceEqDiff, Nat.reduceAdd, Nat.reduceSub, Nat.reduceMul, Nat.reduceLeDiff, ne_eq, not_false_eq_true, Int.reduceEq, Int.reduceLT, Int.reduceLE, Int.reduceNeg, Int.reduceToNat, Int.reduceGT, Int.reduceGE, Nat.reduceLT, Nat.lt_add_one, Nat.zero_lt_succ, Nat.succ_pos, Nat.zero_le, beq_self_eq_true, k_strings_trimRightASCII_0, k_strings_trimRightASCII_2, k_strings_trimRightASCII_1, e0, e1, hn, w, g0, hc, ht]
    (repeat' ((first | refine wg_casep (fun _ => ?_) (fun _ => ?_) | refine wg_casen (fun _ => ?_) (fun _ => ?_) | refine wg_case (fun _ => ?_) (fun _ => ?_) | refine wgd_casep (fun _ => ?_) (fun _ => ?_) | refine wgd_casen (fun _ => ?_) (fun _ => ?_) | refine wgd_case (fun _ => ?_) (fun _ => ?_) | refine wb_casep (fun _ => ?_) (fun _ => ?_) | refine wb_casen (fun _ => ?_) (fun _ => ?_) | refine wb_case (fun _ => ?_) (fun _ => ?_) | refine Cf.pu (contains_ok hb') (fun _ => ?_)) <;> try simp (maxSteps := 4000000) only [vm, vl, Arg.get, cells, stor, boundO, resultsV, resV, partK, loadV, Vm.part, fillC, splice, reduceIte, reduceCtorEq, Nat.reduceEqDiff, Nat.reduceAdd, Nat.reduceSub, Nat.reduceMul, Nat.reduceLeDiff, ne_eq, not_false_eq_true, Int.reduceEq, Int.reduceLT, Int.reduceLE, Int.reduceNeg, Int.reduceToNat, Int.reduceGT, Int.reduceGE, Nat.reduceLT, Nat.lt_add_one, Nat.zero_lt_succ, Nat.succ_pos, Nat.zero_le, beq_self_eq_true, k_strings_trimRightASCII_0, k_strings_trimRightASCII_2, k_strings_trimRightASCII_1, *]))
    · rename_i hp
      simp at hp
      rw [← hr, trimR_full hp]
    · rename_i hp
      simp at hp
      exact ⟨by omega, q.length, by omega, q, rfl, rfl, ⟨_, rfl⟩, by rw [hn] at hl; omega, by rw [← hr, trimR_blank hp]⟩
theorem leftASCII_ok {s : Bs} {id : Nat} (hs : s.length < 9223372036854775807) (hb : h[id]? = some (.box blankT)) : Cf F L i_strings_trimLeftASCII [.str s, .ptr id 0] h (Pu h (.str (trimL s))) := by
  refine run_strings_trimLeftASCII ?_
  simp only [p_strings_trimLeftASCII]
  refine l_strings_trimLeftASCII_0 (fun n e h' => ∃ r : Bs, n = r.length ∧ e 0 = .str r ∧ e 1 = .ptr id 0 ∧ (∃ t, h' = h ++ t) ∧ r.length ≤ s.length ∧ trimL r = trimL s) ?_ (n := s.length) ⟨s, rfl, rfl, rfl, ⟨[], by simp⟩, by omega, rfl⟩
  rintro n e h' ⟨r, rfl, e0, e1, ⟨t, rfl⟩, hl, hr⟩
  simp only [b_strings_trimLeftASCII_0]
  rw [← hr]
  cases r with
  | nil =>
    simp (maxSteps := 4000000) only [vm, vl, Arg.get, cells, stor, boundO, resultsV, resV, partK, loadV, Vm.part, fillC, splice, reduceIte, reduceCtorEq, Nat.reduceEqDiff, Nat.reduceAdd, Nat.reduceSub, Nat.reduceMul, Nat.reduceLeDiff, ne_eq, not_false_eq_true, Int.reduceEq, Int.reduceLT, Int.reduceLE, Int.reduceNeg, Int.reduceToNat, Int.reduceGT, Int.reduceGE, Nat.reduceLT, Nat.lt_add_one, Nat.zero_lt_succ, Nat.succ_pos, Nat.zero_le, beq_self_eq_true, k_strings_trimLeftASCII_0, k_strings_trimLeftASCII_2, k_strings_trimLeftASCII_1, e0, e1]
    rfl
  | cons c q =>
    have g0 : (((c :: q).length : Nat) : Int) > 0 := by simp
    have g1 : 1 ≤ (c :: q).length := by simp
    have g2 : List.take (c :: q).length (c :: q) = c :: q := List.take_of_length_le (Nat.le_refl _)
    have g3 : 0 < (c :: q).length := by simp
    have hb' : (h ++ t)[id]? = some (.box blankT) := get_old hb
    simp only [List.length_cons] at g0 g1 g2 g3
    simp (maxSteps := 4000000) only [vm, vl, Arg.get, cells, stor, boundO, resultsV, resV, partK, loadV, Vm.part, fillC, splice, reduceIte, reduceCtorEq, Nat.reduceEqDiff, Nat.reduceAdd, Nat.reduceSub, Nat.reduceMul, Nat.reduceLeDiff, ne_eq, not_false_eq_true, Int.reduceEq, Int.reduceLT, Int.reduceLE, Int.reduceNeg, Int.reduceToNat, Int.reduceGT, Int.reduceGE, Nat.reduceLT, Nat.lt_add_one, Nat.zero_lt_succ, Nat.succ_pos, Nat.zero_le, beq_self_eq_true, k_strings_trimLeftASCII_0, k_strings_trimLeftASCII_2, k_strings_trimLeftASCII_1, e0, e1, g0, g1, g2, g3]
    (repeat' ((first | refine wg_casep (fun _ => ?_) (fun _ => ?_) | refine wg_casen (fun _ => ?_) (fun _ => ?_) | refine wg_case (fun _ => ?_) (fun _ => ?_) | refine wgd_casep (fun _ => ?_) (fun _ => ?_) | refine wgd_casen (fun _ => ?_) (fun _ => ?_) | refine wgd_case (fun _ => ?_) (fun _ => ?_) | refine wb_casep (fun _ => ?_) (fun _ => ?_) | refine wb_casen (fun _ => ?_) (fun _ => ?_) | refine wb_case (fun _ => ?_) (fun _ => ?_) | refine Cf.pu (contains_ok hb') (fun _ => ?_)) <;> try simp (maxSteps := 4000000) only [vm, vl, Arg.get, cells, stor, boundO, resultsV, resV, partK, loadV, Vm.part, fillC, splice, reduceIte, reduceCtorEq, Nat.reduceEqDiff, Nat.reduceAdd, Nat.reduceSub, Nat.reduceMul, Nat.reduceLeDiff, ne_eq, not_false_eq_true, Int.reduceEq, Int.reduceLT, Int.reduceLE, Int.reduceNeg, Int.reduceToNat, Int.reduceGT, Int.reduceGE, Nat.reduceLT, Nat.lt_add_one, Nat.zero_lt_succ, Nat.succ_pos, Nat.zero_le, beq_self_eq_true, k_strings_trimLeftASCII_0, k_strings_trimLeftASCII_2, k_strings_trimLeftASCII_1, *]))
    · rename_i hp
      simp at hp
      rw [← hr, trimL_full hp]
    · rename_i hp
      simp at hp
      exact ⟨q.length, by omega, q, rfl, rfl, ⟨_, rfl⟩, by simp at hl; omega, by rw [← hr, trimL_blank hp]⟩
theorem stringsTrim_ok {s : Bs} (hs : s.length < 9223372036854775807) : Cf F L i_strings_Trim [.str s, .str [32, 9]] h (Pu h (.str (trim s))) := by
  refine run_strings_Trim ?_
  simp only [p_strings_Trim]
  have q1 : (([32, 9] : Bs) == []) = false := rfl
  cases s with
  | nil =>
    have q2 : (([] : Bs) == []) = true := rfl
    simp (maxSteps := 4000000) only [vm, vl, Arg.get, cells, stor, boundO, resultsV, resV, partK, loadV, Vm.part, fillC, splice, reduceIte, reduceCtorEq, Nat.reduceEqDiff, Nat.reduceAdd, Nat.reduceSub, Nat.reduceMul, Nat.reduceLeDiff, ne_eq, not_false_eq_true, Int.reduceEq, Int.reduceLT, Int.reduceLE, Int.reduceNeg, Int.reduceToNat, Int.reduceGT, Int.reduceGE, Nat.reduceLT, Nat.lt_add_one, Nat.zero_lt_succ, Nat.succ_pos, Nat.zero_le, beq_self_eq_true, k_strings_Trim_2, k_strings_Trim_1, k_strings_Trim_0, q1, q2]
    rfl
  | cons c r =>
    have q2 : ((c :: r : Bs) == []) = false := rfl
    have l1 : blankT.length = 256 := blankAt_len 2
    have l2 : List.take 256 blankT = blankT := List.take_of_length_le (by omega)
    have l3 : ∀ q, List.drop (0 + 256) (List.replicate 256 q : List V) = [] := fun q => List.drop_eq_nil_of_le (by rw [List.length_replicate]; omega)
    simp (maxSteps := 4000000) only [vm, vl, Arg.get, cells, stor, boundO, resultsV, resV, partK, loadV, Vm.part, fillC, splice, reduceIte, reduceCtorEq, Nat.reduceEqDiff, Nat.reduceAdd, Nat.reduceSub, Nat.reduceMul, Nat.reduceLeDiff, ne_eq, not_false_eq_true, Int.reduceEq, Int.reduceLT, Int.reduceLE, Int.reduceNeg, Int.reduceToNat, Int.reduceGT, Int.reduceGE, Nat.reduceLT, Nat.lt_add_one, Nat.zero_lt_succ, Nat.succ_pos, Nat.zero_le, beq_self_eq_true, k_strings_Trim_2, k_strings_Trim_1, k_strings_Trim_0, q1, q2]
    (repeat' ((first | refine wg_casep (fun _ => ?_) (fun _ => ?_) | refine wg_casen (fun _ => ?_) (fun _ => ?_) | refine wg_case (fun _ => ?_) (fun _ => ?_) | refine wgd_casep (fun _ => ?_) (fun _ => ?_) | refine wgd_casen (fun _ => ?_) (fun _ => ?_) | refine wgd_case (fun _ => ?_) (fun _ => ?_) | refine wb_casep (fun _ => ?_) (fun _ => ?_) | refine wb_casen (fun _ => ?_) (fun _ => ?_) | refine wb_case (fun _ => ?_) (fun _ => ?_) | refine Cf.pu asciiSet_ok (fun _ => ?_)) <;> try simp (maxSteps := 4000000) only [vm, vl, Arg.get, cells, stor, boundO, resultsV, resV, partK, loadV, Vm.part, fillC, splice, reduceIte, reduceCtorEq, Nat.reduceEqDiff, Nat.reduceAdd, Nat.reduceSub, Nat.reduceMul, Nat.reduceLeDiff, ne_eq, not_false_eq_true, Int.reduceEq, Int.reduceLT, Int.reduceLE, Int.reduceNeg, Int.reduceToNat, Int.reduceGT, Int.reduceGE, Nat.reduceLT, Nat.lt_add_one, Nat.zero_lt_succ, Nat.succ_pos, Nat.zero_le, beq_self_eq_true, k_strings_Trim_2, k_strings_Trim_1, k_strings_Trim_0, *]))
    rename_i t
    refine ⟨by rw [List.length_replicate]; omega, ?_⟩
    have hb : (h ++ (t ++ [O.box (blankT ++ [])]))[h.length + t.length]? = some (.box blankT) := by
      rw [List.append_nil, ← List.append_assoc, List.getElem?_append_right (by simp)]
      simp
    refine Cf.pu (rightASCII_ok hs hb) fun t' => ?_
    refine Cf.pu (leftASCII_ok (Nat.lt_of_le_of_lt (trimR_length _) hs) (get_old hb)) fun t'' => ?_
    exact ⟨rfl, _, by rw [List.append_assoc, List.append_assoc]⟩
theorem Trim_ok {s : Bs} (hs : s.length < 9223372036854775807) : Cf F L i_token_Trim [.str s] h (Pu h (.str (trim s))) := by
  refine run_token_Trim ?_
  simp only [p_token_Trim]
  simp (maxSteps := 4000000) only [vm, vl, Arg.get, cells, stor, boundO, resultsV, resV, partK, loadV, Vm.part, fillC, splice, reduceIte, reduceCtorEq, Nat.reduceEqDiff, Nat.reduceAdd, Nat.reduceSub, Nat.reduceMul, Nat.reduceLeDiff, ne_eq, not_false_eq_true, Int.reduceEq, Int.reduceLT, Int.reduceLE, Int.reduceNeg, Int.reduceToNat, Int.reduceGT, Int.reduceGE, Nat.reduceLT, Nat.lt_add_one, Nat.zero_lt_succ, Nat.succ_pos, Nat.zero_le, beq_self_eq_true]
  (repeat' ((first | refine wg_casep (fun _ => ?_) (fun _ => ?_) | refine wg_casen (fun _ => ?_) (fun _ => ?_) | refine wg_case (fun _ => ?_) (fun _ => ?_) | refine wgd_casep (fun _ => ?_) (fun _ => ?_) | refine wgd_casen (fun _ => ?_) (fun _ => ?_) | refine wgd_case (fun _ => ?_) (fun _ => ?_) | refine wb_casep (fun _ => ?_) (fun _ => ?_) | refine wb_casen (fun _ => ?_) (fun _ => ?_) | refine wb_case (fun _ => ?_) (fun _ => ?_) | refine Cf.pu (stringsTrim_ok hs) (fun _ => ?_)) <;> try simp (maxSteps := 4000000) only [vm, vl, Arg.get, cells, stor, boundO, resultsV, resV, partK, loadV, Vm.part, fillC, splice, reduceIte, reduceCtorEq, Nat.reduceEqDiff, Nat.reduceAdd, Nat.reduceSub, Nat.reduceMul, Nat.reduceLeDiff, ne_eq, not_false_eq_true, Int.reduceEq, Int.reduceLT, Int.reduceLE, Int.reduceNeg, Int.reduceToNat, Int.reduceGT, Int.reduceGE, Nat.reduceLT, Nat.lt_add_one, Nat.zero_lt_succ, Nat.succ_pos, Nat.zero_le, beq_self_eq_true, *]))
theorem Value_ok {s : Bs} (hs : s.length < 9223372036854775807) : Cf F L i_token_Value [.str s] h (Pu h (.bool (isVal s))) := by
  refine run_token_Value ?_
  simp only [p_token_Value]
  simp (maxSteps := 4000000) only [vm, vl, Arg.get, cells, stor, boundO, resultsV, resV, partK, loadV, Vm.part, fillC, splice, reduceIte, reduceCtorEq, Nat.reduceEqDiff, Nat.reduceAdd, Nat.reduceSub, Nat.reduceMul, Nat.reduceLeDiff, ne_eq, not_false_eq_true, Int.reduceEq, Int.reduceLT, Int.reduceLE, Int.reduceNeg, Int.reduceToNat, Int.reduceGT, Int.reduceGE, Nat.reduceLT, Nat.lt_add_one, Nat.zero_lt_succ, Nat.succ_pos, Nat.zero_le, beq_self_eq_true]
  (repeat' ((first | refine wg_casep (fun _ => ?_) (fun _ => ?_) | refine wg_casen (fun _ => ?_) (fun _ => ?_) | refine wg_case (fun _ => ?_) (fun _ => ?_) | refine wgd_casep (fun _ => ?_) (fun _ => ?_) | refine wgd_casen (fun _ => ?_) (fun _ => ?_) | refine wgd_case (fun _ => ?_) (fun _ => ?_) | refine wb_casep (fun _ => ?_) (fun _ => ?_) | refine wb_casen (fun _ => ?_) (fun _ => ?_) | refine wb_case (fun _ => ?_) (fun _ => ?_) | refine Cf.pu (Trim_ok hs) (fun _ => ?_) | refine Cf.pu (all_ok (caps := []) hs (fun c h => Value1_ok)) (fun _ => ?_)) <;> try simp (maxSteps := 4000000) only [vm, vl, Arg.get, cells, stor, boundO, resultsV, resV, partK, loadV, Vm.part, fillC, splice, reduceIte, reduceCtorEq, Nat.reduceEqDiff, Nat.reduceAdd, Nat.reduceSub, Nat.reduceMul, Nat.reduceLeDiff, ne_eq, not_false_eq_true, Int.reduceEq, Int.reduceLT, Int.reduceLE, Int.reduceNeg, Int.reduceToNat, Int.reduceGT, Int.reduceGE, Nat.reduceLT, Nat.lt_add_one, Nat.zero_lt_succ, Nat.succ_pos, Nat.zero_le, beq_self_eq_true, *]))
  all_goals simp_all [isVal]
end Go.Proofs.YtnfcjeajbjcppaaDoor.Vh
end
section
set_option linter.unusedVariables false
set_option linter.unusedSimpArgs false
namespace Go.Proofs.YtnfcjeajbjcppaaDoor.Vh
open Go.Vm Go.Vt
attribute [local congr] wi_congr wg_congr wgd_congr wb_congr wl_congr cf_congr
variable {L : FuncId → List V → V → Prop} {h : Heap}
theorem tokB_az (c : UInt8) : (c.toNat : Int) ≥ 97 → (c.toNat : Int) ≤ 122 → tokB c = true :=
  byte_all (p := fun c => (c.toNat : Int) ≥ 97 → (c.toNat : Int) ≤ 122 → tokB c = true) (by decide +kernel) c
theorem tokB_AZ (c : UInt8) : (c.toNat : Int) ≥ 65 → (c.toNat : Int) ≤ 90 → tokB c = true :=
  byte_all (p := fun c => (c.toNat : Int) ≥ 65 → (c.toNat : Int) ≤ 90 → tokB c = true) (by decide +kernel) c
theorem tokB_no2 (c : UInt8) : ¬ ((c.toNat : Int) ≥ 97 ∧ (c.toNat : Int) ≤ 122) → ¬ ((c.toNat : Int) ≥ 65 ∧ (c.toNat : Int) ≤ 90) → ¬ ((c.toNat : Int) ≥ 48 ∧ (c.toNat : Int) ≤ 57) → ¬ (c.toNat : Int) ∈ marksL → tokB c = false :=
  byte_all (p := fun c => ¬ ((c.toNat : Int) ≥ 97 ∧ (c.toNat : Int) ≤ 122) → ¬ ((c.toNat : Int) ≥ 65 ∧ (c.toNat : Int) ≤ 90) → ¬ ((c.toNat : Int) ≥ 48 ∧ (c.toNat : Int) ≤ 57) → ¬ (c.toNat : Int) ∈ marksL → tokB c = false) (by decide +kernel) c
theorem tchar_ok {c : UInt8} : Cf F L i_gatepostref01_tchar [byV c] h (Pu h (.bool (tokB c))) := by
  refine run_gatepostref01_tchar ?_
  simp only [p_gatepostref01_tchar]
  by_cases h1 : (c.toNat : Int) ≥ 97 ∧ (c.toNat : Int) ≤ 122
  · have e := tokB_az c h1.1 h1.2
    have h2 := h1.1
    have h3 := h1.2
    simp (maxSteps := 4000000) only [vm, vl, Arg.get, cells, stor, boundO, resultsV, resV, partK, loadV, Vm.part, fillC, splice, reduceIte, reduceCtorEq, Nat.reduceEqDiff, Nat.reduceAdd, Nat.reduceSub, Nat.reduceMul, Nat.reduceLeDiff, ne_eq, not_false_eq_true, Int.reduceEq, Int.reduceLT, Int.reduceLE, Int.reduceNeg, Int.reduceToNat, Int.reduceGT, Int.reduceGE, Nat.reduceLT, Nat.lt_add_one, Nat.zero_lt_succ, Nat.succ_pos, Nat.zero_le, beq_self_eq_true, k_gatepostref01_tchar_1, k_gatepostref01_tchar_2, k_gatepostref01_tchar_0, h2, h3, e]
  by_cases h2 : (c.toNat : Int) ≥ 65 ∧ (c.toNat : Int) ≤ 90
  · have e := tokB_AZ c h2.1 h2.2
    have h3 := h2.1
    have h4 := h2.2
    have h5 : ¬ (c.toNat : Int) ≥ 97 := by omega
    simp (maxSteps := 4000000) only [vm, vl, Arg.get, cells, stor, boundO, resultsV, resV, partK, loadV, Vm.part, fillC, splice, reduceIte, reduceCtorEq, Nat.reduceEqDiff, Nat.reduceAdd, Nat.reduceSub, Nat.reduceMul, Nat.reduceLeDiff, ne_eq, not_false_eq_true, Int.reduceEq, Int.reduceLT, Int.reduceLE, Int.reduceNeg, Int.reduceToNat, Int.reduceGT, Int.reduceGE, Nat.reduceLT, Nat.lt_add_one, Nat.zero_lt_succ, Nat.succ_pos, Nat.zero_le, beq_self_eq_true, k_gatepostref01_tchar_1, k_gatepostref01_tchar_2, k_gatepostref01_tchar_0, h3, h4, h5, e]
  by_cases h3 : (c.toNat : Int) ≥ 48 ∧ (c.toNat : Int) ≤ 57
  · have e := tokB_dig c h3.1 h3.2
    have h4 := h3.1
    have h5 := h3.2
    have h6 : ¬ (c.toNat : Int) ≥ 97 := by omega
    have h7 : ¬ (c.toNat : Int) ≥ 65 := by omega
    simp (maxSteps := 4000000) only [vm, vl, Arg.get, cells, stor, boundO, resultsV, resV, partK, loadV, Vm.part, fillC, splice, reduceIte, reduceCtorEq, Nat.reduceEqDiff, Nat.reduceAdd, Nat.reduceSub, Nat.reduceMul, Nat.reduceLeDiff, ne_eq, not_false_eq_true, Int.reduceEq, Int.reduceLT, Int.reduceLE, Int.reduceNeg, Int.reduceToNat, Int.reduceGT, Int.reduceGE, Nat.reduceLT, Nat.lt_add_one, Nat.zero_lt_succ, Nat.succ_pos, Nat.zero_le, beq_self_eq_true, k_gatepostref01_tchar_1, k_gatepostref01_tchar_2, k_gatepostref01_tchar_0, h4, h5, h6, h7, e]
  have h4 : ((c.toNat : Int) ∈ marksL) = ((c.toNat : Int) = 33 ∨ (c.toNat : Int) = 35 ∨ (c.toNat : Int) = 36 ∨ (c.toNat : Int) = 37 ∨ (c.toNat : Int) = 38 ∨ (c.toNat : Int) = 39 ∨ (c.toNat : Int) = 42 ∨ (c.toNat : Int) = 43 ∨ (c.toNat : Int) = 45 ∨ (c.toNat : Int) = 46 ∨ (c.toNat : Int) = 94 ∨ (c.toNat : Int) = 95 ∨ (c.toNat : Int) = 96 ∨ (c.toNat : Int) = 124 ∨ (c.toNat : Int) = 126) := by
    simp only [marksL, List.mem_cons, List.not_mem_nil, or_false]
  by_cases hm : (c.toNat : Int) ∈ marksL
  · rw [tokB_mark c hm]
    rw [h4] at hm
    clear h4
    simp (maxSteps := 4000000) only [vm, vl, Arg.get, cells, stor, boundO, resultsV, resV, partK, loadV, Vm.part, fillC, splice, reduceIte, reduceCtorEq, Nat.reduceEqDiff, Nat.reduceAdd, Nat.reduceSub, Nat.reduceMul, Nat.reduceLeDiff, ne_eq, not_false_eq_true, Int.reduceEq, Int.reduceLT, Int.reduceLE, Int.reduceNeg, Int.reduceToNat, Int.reduceGT, Int.reduceGE, Nat.reduceLT, Nat.lt_add_one, Nat.zero_lt_succ, Nat.succ_pos, Nat.zero_le, beq_self_eq_true, k_gatepostref01_tchar_1, k_gatepostref01_tchar_2, k_gatepostref01_tchar_0]
    (repeat' ((first | refine wg_casep (fun _ => ?_) (fun _ => ?_) | refine wg_casen (fun _ => ?_) (fun _ => ?_) | refine wg_case (fun _ => ?_) (fun _ => ?_) | refine wgd_casep (fun _ => ?_) (fun _ => ?_) | refine wgd_casen (fun _ => ?_) (fun _ => ?_) | refine wgd_case (fun _ => ?_) (fun _ => ?_) | refine wb_casep (fun _ => ?_) (fun _ => ?_) | refine wb_casen (fun _ => ?_) (fun _ => ?_) | refine wb_case (fun _ => ?_) (fun _ => ?_)) <;> try simp (maxSteps := 4000000) only [vm, vl, Arg.get, cells, stor, boundO, resultsV, resV, partK, loadV, Vm.part, fillC, splice, reduceIte, reduceCtorEq, Nat.reduceEqDiff, Nat.reduceAdd, Nat.reduceSub, Nat.reduceMul, Nat.reduceLeDiff, ne_eq, not_false_eq_true, Int.reduceEq, Int.reduceLT, Int.reduceLE, Int.reduceNeg, Int.reduceToNat, Int.reduceGT, Int.reduceGE, Nat.reduceLT, Nat.lt_add_one, Nat.zero_lt_succ, Nat.succ_pos, Nat.zero_le, beq_self_eq_true, k_gatepostref01_tchar_1, k_gatepostref01_tchar_2, k_gatepostref01_tchar_0, *]))
    all_goals (exfalso; omega)
  · rw [tokB_no2 c h1 h2 h3 hm]
    rw [h4] at hm
    clear h4
    simp (maxSteps := 4000000) only [vm, vl, Arg.get, cells, stor, boundO, resultsV, resV, partK, loadV, Vm.part, fillC, splice, reduceIte, reduceCtorEq, Nat.reduceEqDiff, Nat.reduceAdd, Nat.reduceSub, Nat.reduceMul, Nat.reduceLeDiff, ne_eq, not_false_eq_true, Int.reduceEq, Int.reduceLT, Int.reduceLE, Int.reduceNeg, Int.reduceToNat, Int.reduceGT, Int.reduceGE, Nat.reduceLT, Nat.lt_add_one, Nat.zero_lt_succ, Nat.succ_pos, Nat.zero_le, beq_self_eq_true, k_gatepostref01_tchar_1, k_gatepostref01_tchar_2, k_gatepostref01_tchar_0]
    (repeat' ((first | refine wg_casep (fun _ => ?_) (fun _ => ?_) | refine wg_casen (fun _ => ?_) (fun _ => ?_) | refine wg_case (fun _ => ?_) (fun _ => ?_) | refine wgd_casep (fun _ => ?_) (fun _ => ?_) | refine wgd_casen (fun _ => ?_) (fun _ => ?_) | refine wgd_case (fun _ => ?_) (fun _ => ?_) | refine wb_casep (fun _ => ?_) (fun _ => ?_) | refine wb_casen (fun _ => ?_) (fun _ => ?_) | refine wb_case (fun _ => ?_) (fun _ => ?_)) <;> try simp (maxSteps := 4000000) only [vm, vl, Arg.get, cells, stor, boundO, resultsV, resV, partK, loadV, Vm.part, fillC, splice, reduceIte, reduceCtorEq, Nat.reduceEqDiff, Nat.reduceAdd, Nat.reduceSub, Nat.reduceMul, Nat.reduceLeDiff, ne_eq, not_false_eq_true, Int.reduceEq, Int.reduceLT, Int.reduceLE, Int.reduceNeg, Int.reduceToNat, Int.reduceGT, Int.reduceGE, Nat.reduceLT, Nat.lt_add_one, Nat.zero_lt_succ, Nat.succ_pos, Nat.zero_le, beq_self_eq_true, k_gatepostref01_tchar_1, k_gatepostref01_tchar_2, k_gatepostref01_tchar_0, *]))
    all_goals (exfalso; omega)
theorem rblank_ok {c : UInt8} : Cf F L i_gatepostref01_blank [byV c] h (Pu h (.bool (blankB c))) := by
  refine run_gatepostref01_blank ?_
  simp only [p_gatepostref01_blank]
  simp (maxSteps := 4000000) only [vm, vl, Arg.get, cells, stor, boundO, resultsV, resV, partK, loadV, Vm.part, fillC, splice, reduceIte, reduceCtorEq, Nat.reduceEqDiff, Nat.reduceAdd, Nat.reduceSub, Nat.reduceMul, Nat.reduceLeDiff, ne_eq, not_false_eq_true, Int.reduceEq, Int.reduceLT, Int.reduceLE, Int.reduceNeg, Int.reduceToNat, Int.reduceGT, Int.reduceGE, Nat.reduceLT, Nat.lt_add_one, Nat.zero_lt_succ, Nat.succ_pos, Nat.zero_le, beq_self_eq_true]
  (repeat' ((first | refine wg_casep (fun _ => ?_) (fun _ => ?_) | refine wg_casen (fun _ => ?_) (fun _ => ?_) | refine wg_case (fun _ => ?_) (fun _ => ?_) | refine wgd_casep (fun _ => ?_) (fun _ => ?_) | refine wgd_casen (fun _ => ?_) (fun _ => ?_) | refine wgd_case (fun _ => ?_) (fun _ => ?_) | refine wb_casep (fun _ => ?_) (fun _ => ?_) | refine wb_casen (fun _ => ?_) (fun _ => ?_) | refine wb_case (fun _ => ?_) (fun _ => ?_)) <;> try simp (maxSteps := 4000000) only [vm, vl, Arg.get, cells, stor, boundO, resultsV, resV, partK, loadV, Vm.part, fillC, splice, reduceIte, reduceCtorEq, Nat.reduceEqDiff, Nat.reduceAdd, Nat.reduceSub, Nat.reduceMul, Nat.reduceLeDiff, ne_eq, not_false_eq_true, Int.reduceEq, Int.reduceLT, Int.reduceLE, Int.reduceNeg, Int.reduceToNat, Int.reduceGT, Int.reduceGE, Nat.reduceLT, Nat.lt_add_one, Nat.zero_lt_succ, Nat.succ_pos, Nat.zero_le, beq_self_eq_true, *]))
  all_goals simp [blank_eq, *]
theorem rIs_ok {s : Bs} (hs : s.length < 9223372036854775807) : Cf F L i_gatepostref01_Is [.str s] h (Pu h (.bool (isTok s))) := by
  refine run_gatepostref01_Is ?_
  simp only [p_gatepostref01_Is]
  refine l_gatepostref01_Is_0 (fun n e h' => ∃ i, n = s.length - i ∧ i ≤ s.length ∧ e 0 = .str s ∧ e 3 = .int .i64 i ∧ (∃ t, h' = h ++ t) ∧ s.all tokB = (s.drop i).all tokB) ?_ (n := s.length) ⟨0, by simp, by simp, rfl, rfl, ⟨[], by simp⟩, rfl⟩
  rintro n e h' ⟨i, rfl, hi, e0, e3, ⟨t, rfl⟩, hall⟩
  simp only [b_gatepostref01_Is_0]
  rcases str_at hi with ⟨hn, rfl, hd⟩ | ⟨c, hl, hl', hc, hd⟩
  · simp (maxSteps := 4000000) only [vm, vl, Arg.get, cells, stor, boundO, resultsV, resV, partK, loadV, Vm.part, fillC, splice, reduceIte, reduceCtorEq, Nat.reduceEqDiff, Nat.reduceAdd, Nat.reduceSub, Nat.reduceMul, Nat.reduceLeDiff, ne_eq, not_false_eq_true, Int.reduceEq, Int.reduceLT, Int.reduceLE, Int.reduceNeg, Int.reduceToNat, Int.reduceGT, Int.reduceGE, Nat.reduceLT, Nat.lt_add_one, Nat.zero_lt_succ, Nat.succ_pos, Nat.zero_le, beq_self_eq_true, k_gatepostref01_Is_0, k_gatepostref01_Is_2, k_gatepostref01_Is_1, e0, e3, hn]
    rw [isTok, hall, hd]
    cases s <;> simp
  · have w := wrap64 (x := (i : Int) + 1) (by omega) (by omega)
    rw [hd] at hall
    simp (maxSteps := 4000000) only [vm, vl, Arg.get, cells, stor, boundO, resultsV, resV, partK, loadV, Vm.part, fillC, splice, reduceIte, reduceCtorEq, Nat.reduceEqDiff, Nat.reduceAdd, Nat.reduceSub, Nat.reduceMul, Nat.reduceLeDiff, ne_eq, not_false_eq_true, Int.reduceEq, Int.reduceLT, Int.reduceLE, Int.reduceNeg, Int.reduceToNat, Int.reduceGT, Int.reduceGE, Nat.reduceLT, Nat.lt_add_one, Nat.zero_lt_succ, Nat.succ_pos, Nat.zero_le, beq_self_eq_true, k_gatepostref01_Is_0, k_gatepostref01_Is_2, k_gatepostref01_Is_1, e0, e3, hl, hc, hl', w]
    (repeat' ((first | refine wg_casep (fun _ => ?_) (fun _ => ?_) | refine wg_casen (fun _ => ?_) (fun _ => ?_) | refine wg_case (fun _ => ?_) (fun _ => ?_) | refine wgd_casep (fun _ => ?_) (fun _ => ?_) | refine wgd_casen (fun _ => ?_) (fun _ => ?_) | refine wgd_case (fun _ => ?_) (fun _ => ?_) | refine wb_casep (fun _ => ?_) (fun _ => ?_) | refine wb_casen (fun _ => ?_) (fun _ => ?_) | refine wb_case (fun _ => ?_) (fun _ => ?_) | refine Cf.pu tchar_ok (fun _ => ?_)) <;> try simp (maxSteps := 4000000) only [vm, vl, Arg.get, cells, stor, boundO, resultsV, resV, partK, loadV, Vm.part, fillC, splice, reduceIte, reduceCtorEq, Nat.reduceEqDiff, Nat.reduceAdd, Nat.reduceSub, Nat.reduceMul, Nat.reduceLeDiff, ne_eq, not_false_eq_true, Int.reduceEq, Int.reduceLT, Int.reduceLE, Int.reduceNeg, Int.reduceToNat, Int.reduceGT, Int.reduceGE, Nat.reduceLT, Nat.lt_add_one, Nat.zero_lt_succ, Nat.succ_pos, Nat.zero_le, beq_self_eq_true, k_gatepostref01_Is_0, k_gatepostref01_Is_2, k_gatepostref01_Is_1, *]))
    · rename_i hp; simp at hp
      rw [isTok, hall]
      simp [hp]
    · rename_i hp; simp at hp
      refine ⟨s.length - (i + 1), by omega, i + 1, rfl, hl', by simp, ⟨_, rfl⟩, ?_⟩
      simp [hp]
theorem isVal_ref (s : Bs) : isVal s = (s.all valB && (s == [] || (!blankB (s.getD 0 0) && !blankB (s.getD (s.length - 1) 0)))) := by
  have key : (decide (trim s = s)) = (s == [] || (!blankB (s.getD 0 0) && !blankB (s.getD (s.length - 1) 0))) := by
    cases hn : s.length with
    | zero =>
      obtain rfl : s = [] := List.eq_nil_of_length_eq_zero hn
      rfl
    | succ n =>
      obtain ⟨q, c, rfl, hq, hc, ht⟩ := last_at hn
      have e1 : ((q ++ [c] : Bs) == []) = false := by cases q <;> rfl
      rw [e1, Nat.add_sub_cancel, hc, Bool.false_or]
      cases hb : blankB c with
      | true =>
        have : trim (q ++ [c]) ≠ q ++ [c] := by
          intro he
          have := congrArg List.length he
          unfold trim at this
          rw [trimR_blank hb] at this
          have h1 := trimL_length (trimR q)
          have h2 := trimR_length q
          simp at this
          omega
        simp [this]
      | false =>
        unfold trim
        rw [trimR_full hb]
        cases q with
        | nil => simp [trimL, hb]
        | cons d q =>
          rw [List.cons_append]
          cases hd : blankB d with
          | true =>
            rw [trimL_blank hd]
            have : trimL (q ++ [c]) ≠ d :: (q ++ [c]) := by
              intro he
              have := congrArg List.length he
              have h1 := trimL_length (q ++ [c])
              simp at this h1
              omega
            simp [this, hd]
          | false =>
            rw [trimL_full hd]
            simp [hd]
  rw [isVal, key, Bool.and_comm]
theorem val_ref (c : UInt8) : valB c = !(!blankB c && (decide ((c.toNat : Int) < 33) || decide ((c.toNat : Int) = 127))) :=
  byte_all (p := fun c => valB c = !(!blankB c && (decide ((c.toNat : Int) < 33) || decide ((c.toNat : Int) = 127)))) (by decide +kernel) c
theorem rValue_ok {s : Bs} (hs : s.length < 9223372036854775807) : Cf F L i_gatepostref01_Value [.str s] h (Pu h (.bool (isVal s))) := by
  refine run_gatepostref01_Value ?_
  simp only [p_gatepostref01_Value]
  rw [isVal_ref]
  refine l_gatepostref01_Value_0 (fun n e h' => ∃ i, n = s.length - i ∧ i ≤ s.length ∧ e 0 = .str s ∧ e 3 = .int .i64 i ∧ (∃ t, h' = h ++ t) ∧ s.all valB = (s.drop i).all valB) ?_ (n := s.length) ⟨0, by simp, by simp, rfl, rfl, ⟨[], by simp⟩, rfl⟩
  rintro n e h' ⟨i, rfl, hi, e0, e3, ⟨t, rfl⟩, hall⟩
  simp only [b_gatepostref01_Value_0]
  rcases str_at hi with ⟨hn, rfl, hd⟩ | ⟨c, hl, hl', hc, hd⟩
  · rw [hd] at hall
    cases hn2 : s.length with
    | zero =>
      obtain rfl : s = [] := List.eq_nil_of_length_eq_zero hn2
      have e1 : (([] : Bs) == []) = true := rfl
      simp (maxSteps := 4000000) only [vm, vl, Arg.get, cells, stor, boundO, resultsV, resV, partK, loadV, Vm.part, fillC, splice, reduceIte, reduceCtorEq, Nat.reduceEqDiff, Nat.reduceAdd, Nat.reduceSub, Nat.reduceMul, Nat.reduceLeDiff, ne_eq, not_false_eq_true, Int.reduceEq, Int.reduceLT, Int.reduceLE, Int.reduceNeg, Int.reduceToNat, Int.reduceGT, Int.reduceGE, Nat.reduceLT, Nat.lt_add_one, Nat.zero_lt_succ, Nat.succ_pos, Nat.zero_le, beq_self_eq_true, k_gatepostref01_Value_0, k_gatepostref01_Value_2, k_gatepostref01_Value_1, e0, e3, hn, hn2, e1]
      rfl
    | succ n =>
      have e1 : (s == []) = false := by cases s <;> first | (simp at hn2; done) | rfl
      have w : IntKind.i64.wrap (((n + 1 : Nat) : Int) - 1) = n := by rw [wrap64 (by omega) (by omega)]; omega
      rw [hn2] at e3 hn
      have g1 : 0 < n + 1 := by omega
      simp (maxSteps := 4000000) only [vm, vl, Arg.get, cells, stor, boundO, resultsV, resV, partK, loadV, Vm.part, fillC, splice, reduceIte, reduceCtorEq, Nat.reduceEqDiff, Nat.reduceAdd, Nat.reduceSub, Nat.reduceMul, Nat.reduceLeDiff, ne_eq, not_false_eq_true, Int.reduceEq, Int.reduceLT, Int.reduceLE, Int.reduceNeg, Int.reduceToNat, Int.reduceGT, Int.reduceGE, Nat.reduceLT, Nat.lt_add_one, Nat.zero_lt_succ, Nat.succ_pos, Nat.zero_le, beq_self_eq_true, k_gatepostref01_Value_0, k_gatepostref01_Value_2, k_gatepostref01_Value_1, e0, e3, hn, hn2, e1, w, g1]
      (repeat' ((first | refine wg_casep (fun _ => ?_) (fun _ => ?_) | refine wg_casen (fun _ => ?_) (fun _ => ?_) | refine wg_case (fun _ => ?_) (fun _ => ?_) | refine wgd_casep (fun _ => ?_) (fun _ => ?_) | refine wgd_casen (fun _ => ?_) (fun _ => ?_) | refine wgd_case (fun _ => ?_) (fun _ => ?_) | refine wb_casep (fun _ => ?_) (fun _ => ?_) | refine wb_casen (fun _ => ?_) (fun _ => ?_) | refine wb_case (fun _ => ?_) (fun _ => ?_) | refine Cf.pu rblank_ok (fun _ => ?_)) <;> try simp (maxSteps := 4000000) only [vm, vl, Arg.get, cells, stor, boundO, resultsV, resV, partK, loadV, Vm.part, fillC, splice, reduceIte, reduceCtorEq, Nat.reduceEqDiff, Nat.reduceAdd, Nat.reduceSub, Nat.reduceMul, Nat.reduceLeDiff, ne_eq, not_false_eq_true, Int.reduceEq, Int.reduceLT, Int.reduceLE, Int.reduceNeg, Int.reduceToNat, Int.reduceGT, Int.reduceGE, Nat.reduceLT, Nat.lt_add_one, Nat.zero_lt_succ, Nat.succ_pos, Nat.zero_le, beq_self_eq_true, k_gatepostref01_Value_0, k_gatepostref01_Value_2, k_gatepostref01_Value_1, *]))
      all_goals simp_all
  · have w := wrap64 (x := (i : Int) + 1) (by omega) (by omega)
    rw [hd] at hall
    simp (maxSteps := 4000000) only [vm, vl, Arg.get, cells, stor, boundO, resultsV, resV, partK, loadV, Vm.part, fillC, splice, reduceIte, reduceCtorEq, Nat.reduceEqDiff, Nat.reduceAdd, Nat.reduceSub, Nat.reduceMul, Nat.reduceLeDiff, ne_eq, not_false_eq_true, Int.reduceEq, Int.reduceLT, Int.reduceLE, Int.reduceNeg, Int.reduceToNat, Int.reduceGT, Int.reduceGE, Nat.reduceLT, Nat.lt_add_one, Nat.zero_lt_succ, Nat.succ_pos, Nat.zero_le, beq_self_eq_true, k_gatepostref01_Value_0, k_gatepostref01_Value_2, k_gatepostref01_Value_1, e0, e3, hl, hc, hl', w]
    (repeat' ((first | refine wg_casep (fun _ => ?_) (fun _ => ?_) | refine wg_casen (fun _ => ?_) (fun _ => ?_) | refine wg_case (fun _ => ?_) (fun _ => ?_) | refine wgd_casep (fun _ => ?_) (fun _ => ?_) | refine wgd_casen (fun _ => ?_) (fun _ => ?_) | refine wgd_case (fun _ => ?_) (fun _ => ?_) | refine wb_casep (fun _ => ?_) (fun _ => ?_) | refine wb_casen (fun _ => ?_) (fun _ => ?_) | refine wb_case (fun _ => ?_) (fun _ => ?_) | refine Cf.pu rblank_ok (fun _ => ?_)) <;> try simp (maxSteps := 4000000) only [vm, vl, Arg.get, cells, stor, boundO, resultsV, resV, partK, loadV, Vm.part, fillC, splice, reduceIte, reduceCtorEq, Nat.reduceEqDiff, Nat.reduceAdd, Nat.reduceSub, Nat.reduceMul, Nat.reduceLeDiff, ne_eq, not_false_eq_true, Int.reduceEq, Int.reduceLT, Int.reduceLE, Int.reduceNeg, Int.reduceToNat, Int.reduceGT, Int.reduceGE, Nat.reduceLT, Nat.lt_add_one, Nat.zero_lt_succ, Nat.succ_pos, Nat.zero_le, beq_self_eq_true, k_gatepostref01_Value_0, k_gatepostref01_Value_2, k_gatepostref01_Value_1, *]))
    all_goals have hv := val_ref c
    all_goals first
      | (simp_all; done)
      | (refine ⟨s.length - (i + 1), by omega, i + 1, rfl, hl', by simp, ⟨_, rfl⟩, ?_⟩; simp_all; done)
      | trace_state
theorem rTrim_ok {s : Bs} (hs : s.length < 9223372036854775807) : Cf F L i_gatepostref01_Trim [.str s] h (Pu h (.str (trim s))) := by
  refine run_gatepostref01_Trim ?_
  simp only [p_gatepostref01_Trim]
  rw [← trim_comm]
  refine l_gatepostref01_Trim_1 (fun n e h' => ∃ r : Bs, n = r.length ∧ e 0 = .str r ∧ (∃ t, h' = h ++ t) ∧ r.length ≤ s.length ∧ trimL r = trimL s) ?_ (n := s.length) ⟨s, rfl, rfl, ⟨[], by simp⟩, by omega, rfl⟩
  rintro n e h' ⟨r, rfl, e0, ⟨t, rfl⟩, hl, hr⟩
  have right : ∀ {e : Env} {h' : Heap} {r : Bs}, e 0 = .str r → (∃ t, h' = h ++ t) → r.length ≤ s.length → trimR r = trimR (trimL s) → Wl F L lc_gatepostref01_Trim_0 (q_gatepostref01_Trim_0 L (Pu h (.str (trimR (trimL s))))) e h' := by
    intro e h' r e0 ht hl hr
    refine l_gatepostref01_Trim_0 (fun n e h' => ∃ r : Bs, n = r.length ∧ e 0 = .str r ∧ (∃ t, h' = h ++ t) ∧ r.length ≤ s.length ∧ trimR r = trimR (trimL s)) ?_ (n := r.length) ⟨r, rfl, e0, ht, hl, hr⟩
    rintro n e h' ⟨r, rfl, e0, ⟨t, rfl⟩, hl, hr⟩
    simp only [b_gatepostref01_Trim_0]
    rw [← hr]
    cases hn : r.length with
    | zero =>
      obtain rfl : r = [] := List.eq_nil_of_length_eq_zero hn
      simp (maxSteps := 4000000) only [vm, vl, Arg.get, cells, stor, boundO, resultsV, resV, partK, loadV, Vm.part, fillC, splice, reduceIte, reduceCtorEq, Nat.reduceEqDiff, Nat.reduceAdd, Nat.reduceSub, Nat.reduceMul, Nat.reduceLeDiff, ne_eq, not_false_eq_true, Int.reduceEq, Int.reduceLT, Int.reduceLE, Int.reduceNeg, Int.reduceToNat, Int.reduceGT, Int.reduceGE, Nat.reduceLT, Nat.lt_add_one, Nat.zero_lt_succ, Nat.succ_pos, Nat.zero_le, beq_self_eq_true, k_gatepostref01_Trim_1, k_gatepostref01_Trim_2, k_gatepostref01_Trim_0, k_gatepostref01_Trim_3, e0]
      rfl
    | succ n =>
      obtain ⟨q, c, rfl, hq, hc, ht⟩ := last_at hn
      have w : IntKind.i64.wrap (((n + 1 : Nat) : Int) - 1) = n := by rw [wrap64 (by omega) (by omega)]; omega
      have g0 : ((n + 1 : Nat) : Int) > 0 := by omega
      simp (maxSteps := 4000000) only [vm, vl, Arg.get, cells, stor, boundO, resultsV, resV, partK, loadV, Vm.part, fillC, splice, reduceIte, reduceCtorEq, Nat.reduceEqDiff, Nat.reduceAdd, Nat.reduceSub, Nat.reduceMul, Nat.reduceLeDiff, ne_eq, not_false_eq_true, Int.reduceEq, Int.reduceLT, Int.reduceLE, Int.reduceNeg, Int.reduceToNat, Int.reduceGT, Int.reduceGE, Nat.reduceLT, Nat.lt_add_one, Nat.zero_lt_succ, Nat.succ_pos, Nat.zero_le, beq_self_eq_true, k_gatepostref01_Trim_1, k_gatepostref01_Trim_2, k_gatepostref01_Trim_0, k_gatepostref01_Trim_3, e0, hn, w, g0, hc, ht]
      (repeat' ((first | refine wg_casep (fun _ => ?_) (fun _ => ?_) | refine wg_casen (fun _ => ?_) (fun _ => ?_) | refine wg_case (fun _ => ?_) (fun _ => ?_) | refine wgd_casep (fun _ => ?_) (fun _ => ?_) | refine wgd_casen (fun _ => ?_) (fun _ => ?_) | refine wgd_case (fun _ => ?_) (fun _ => ?_) | refine wb_casep (fun _ => ?_) (fun _ => ?_) | refine wb_casen (fun _ => ?_) (fun _ => ?_) | refine wb_case (fun _ => ?_) (fun _ => ?_) | refine Cf.pu rblank_ok (fun _ => ?_)) <;> try simp (maxSteps := 4000000) only [vm, vl, Arg.get, cells, stor, boundO, resultsV, resV, partK, loadV, Vm.part, fillC, splice, reduceIte, reduceCtorEq, Nat.reduceEqDiff, Nat.reduceAdd, Nat.reduceSub, Nat.reduceMul, Nat.reduceLeDiff, ne_eq, not_false_eq_true, Int.reduceEq, Int.reduceLT, Int.reduceLE, Int.reduceNeg, Int.reduceToNat, Int.reduceGT, Int.reduceGE, Nat.reduceLT, Nat.lt_add_one, Nat.zero_lt_succ, Nat.succ_pos, Nat.zero_le, beq_self_eq_true, k_gatepostref01_Trim_1, k_gatepostref01_Trim_2, k_gatepostref01_Trim_0, k_gatepostref01_Trim_3, *]))
      · rename_i hp
        exact ⟨by omega, q.length, by omega, q, rfl, rfl, ⟨_, rfl⟩, by rw [hn] at hl; omega, by rw [← hr, trimR_blank hp]⟩
      · rename_i hp
        rw [← hr, trimR_full hp]
  simp only [b_gatepostref01_Trim_1]
  cases r with
  | nil =>
    simp (maxSteps := 4000000) only [vm, vl, Arg.get, cells, stor, boundO, resultsV, resV, partK, loadV, Vm.part, fillC, splice, reduceIte, reduceCtorEq, Nat.reduceEqDiff, Nat.reduceAdd, Nat.reduceSub, Nat.reduceMul, Nat.reduceLeDiff, ne_eq, not_false_eq_true, Int.reduceEq, Int.reduceLT, Int.reduceLE, Int.reduceNeg, Int.reduceToNat, Int.reduceGT, Int.reduceGE, Nat.reduceLT, Nat.lt_add_one, Nat.zero_lt_succ, Nat.succ_pos, Nat.zero_le, beq_self_eq_true, k_gatepostref01_Trim_1, k_gatepostref01_Trim_2, k_gatepostref01_Trim_0, k_gatepostref01_Trim_3, e0]
    exact right (r := []) (by simp [upd, e0]) ⟨_, rfl⟩ (by simp) (by rw [← hr]; rfl)
  | cons c q =>
    have g0 : (((c :: q).length : Nat) : Int) > 0 := by simp
    have g1 : 1 ≤ (c :: q).length := by simp
    have g2 : List.take (c :: q).length (c :: q) = c :: q := List.take_of_length_le (Nat.le_refl _)
    have g3 : 0 < (c :: q).length := by simp
    simp only [List.length_cons] at g0 g1 g2 g3
    simp (maxSteps := 4000000) only [vm, vl, Arg.get, cells, stor, boundO, resultsV, resV, partK, loadV, Vm.part, fillC, splice, reduceIte, reduceCtorEq, Nat.reduceEqDiff, Nat.reduceAdd, Nat.reduceSub, Nat.reduceMul, Nat.reduceLeDiff, ne_eq, not_false_eq_true, Int.reduceEq, Int.reduceLT, Int.reduceLE, Int.reduceNeg, Int.reduceToNat, Int.reduceGT, Int.reduceGE, Nat.reduceLT, Nat.lt_add_one, Nat.zero_lt_succ, Nat.succ_pos, Nat.zero_le, beq_self_eq_true, k_gatepostref01_Trim_1, k_gatepostref01_Trim_2, k_gatepostref01_Trim_0, k_gatepostref01_Trim_3, e0, g0, g1, g2, g3]
    (repeat' ((first | refine wg_casep (fun _ => ?_) (fun _ => ?_) | refine wg_casen (fun _ => ?_) (fun _ => ?_) | refine wg_case (fun _ => ?_) (fun _ => ?_) | refine wgd_casep (fun _ => ?_) (fun _ => ?_) | refine wgd_casen (fun _ => ?_) (fun _ => ?_) | refine wgd_case (fun _ => ?_) (fun _ => ?_) | refine wb_casep (fun _ => ?_) (fun _ => ?_) | refine wb_casen (fun _ => ?_) (fun _ => ?_) | refine wb_case (fun _ => ?_) (fun _ => ?_) | refine Cf.pu rblank_ok (fun _ => ?_)) <;> try simp (maxSteps := 4000000) only [vm, vl, Arg.get, cells, stor, boundO, resultsV, resV, partK, loadV, Vm.part, fillC, splice, reduceIte, reduceCtorEq, Nat.reduceEqDiff, Nat.reduceAdd, Nat.reduceSub, Nat.reduceMul, Nat.reduceLeDiff, ne_eq, not_false_eq_true, Int.reduceEq, Int.reduceLT, Int.reduceLE, Int.reduceNeg, Int.reduceToNat, Int.reduceGT, Int.reduceGE, Nat.reduceLT, Nat.lt_add_one, Nat.zero_lt_succ, Nat.succ_pos, Nat.zero_le, beq_self_eq_true, k_gatepostref01_Trim_1, k_gatepostref01_Trim_2, k_gatepostref01_Trim_0, k_gatepostref01_Trim_3, *]))
    · rename_i hp
      exact ⟨q.length, by omega, q, rfl, rfl, ⟨_, rfl⟩, by simp at hl; omega, by rw [← hr, trimL_blank hp]⟩
    · rename_i hp
      exact right (by simp [upd, e0]) ⟨_, rfl⟩ hl (by rw [← hr, trimL_full hp])
end Go.Proofs.YtnfcjeajbjcppaaDoor.Vh
end
section
set_option linter.unusedVariables false
set_option linter.unusedSimpArgs false
namespace Go.Proofs.YtnfcjeajbjcppaaDoor.Vh
open Go.Vm
end Go.Proofs.YtnfcjeajbjcppaaDoor.Vh
end
section
set_option linter.unusedVariables false
set_option linter.unusedSimpArgs false
namespace Go.Proofs.YtnfcjeajbjcppaaDoor.Vh
open Go.Vm Go.Vt
attribute [local congr] wi_congr wg_congr wgd_congr wb_congr wl_congr cf_congr
variable {L : FuncId → List V → V → Prop} {h : Heap}
def tgtB (c : UInt8) : Bool := decide (32 < (c.toNat : Int) ∧ (c.toNat : Int) ≤ 126)
def rsnB (c : UInt8) : Bool := decide ((c.toNat : Int) = 9 ∨ (32 ≤ (c.toNat : Int) ∧ (c.toNat : Int) ≠ 127))
def tgtS (s : Bs) : Bool := !s.isEmpty && s.all tgtB
def rsnS (s : Bs) : Bool := s.all rsnB
theorem isTarget_ok {s : Bs} (hs : s.length < 9223372036854775807) : Cf F L i_line_isTarget [.str s] h (Pu h (.bool (tgtS s))) := by
  refine run_line_isTarget ?_
  simp only [p_line_isTarget]
  simp (maxSteps := 4000000) only [vm, vl, Arg.get, cells, stor, boundO, resultsV, resV, partK, loadV, Vm.part, fillC, splice, reduceIte, reduceCtorEq, Nat.reduceEqDiff, Nat.reduceAdd, Nat.reduceSub, Nat.reduceMul, Nat.reduceLeDiff, ne_eq, not_false_eq_true, Int.reduceEq, Int.reduceLT, Int.reduceLE, Int.reduceNeg, Int.reduceToNat, Int.reduceGT, Int.reduceGE, Nat.reduceLT, Nat.lt_add_one, Nat.zero_lt_succ, Nat.succ_pos, Nat.zero_le, beq_self_eq_true, k_line_isTarget_0, k_line_isTarget_2, k_line_isTarget_1]
  refine l_line_isTarget_0 (fun n e h' => ∃ i, n = s.length - i ∧ i ≤ s.length ∧ e 0 = .str s ∧ e 5 = .int .i64 s.length ∧ e 6 = .int .i64 i ∧ (∃ t, h' = h ++ t) ∧ s.all tgtB = (s.drop i).all tgtB) ?_ (n := s.length) ⟨0, by simp, by simp, rfl, rfl, rfl, ⟨[], by simp⟩, rfl⟩
  rintro n e h' ⟨i, rfl, hi, e0, e5, e6, ⟨t, rfl⟩, hall⟩
  simp only [b_line_isTarget_0]
  rcases str_at hi with ⟨hn, rfl, hd⟩ | ⟨c, hl, hl', hc, hd⟩
  · simp (maxSteps := 4000000) only [vm, vl, Arg.get, cells, stor, boundO, resultsV, resV, partK, loadV, Vm.part, fillC, splice, reduceIte, reduceCtorEq, Nat.reduceEqDiff, Nat.reduceAdd, Nat.reduceSub, Nat.reduceMul, Nat.reduceLeDiff, ne_eq, not_false_eq_true, Int.reduceEq, Int.reduceLT, Int.reduceLE, Int.reduceNeg, Int.reduceToNat, Int.reduceGT, Int.reduceGE, Nat.reduceLT, Nat.lt_add_one, Nat.zero_lt_succ, Nat.succ_pos, Nat.zero_le, beq_self_eq_true, k_line_isTarget_0, k_line_isTarget_2, k_line_isTarget_1, e0, e5, e6, hn]
    rw [tgtS, hall, hd]
    cases s <;> simp
  · have w := wrap64 (x := (i : Int) + 1) (by omega) (by omega)
    rw [hd, List.all_cons] at hall
    by_cases c1 : (c.toNat : Int) ≤ 32
    · have q : tgtB c = false := by simp [tgtB]; omega
      simp (maxSteps := 4000000) only [vm, vl, Arg.get, cells, stor, boundO, resultsV, resV, partK, loadV, Vm.part, fillC, splice, reduceIte, reduceCtorEq, Nat.reduceEqDiff, Nat.reduceAdd, Nat.reduceSub, Nat.reduceMul, Nat.reduceLeDiff, ne_eq, not_false_eq_true, Int.reduceEq, Int.reduceLT, Int.reduceLE, Int.reduceNeg, Int.reduceToNat, Int.reduceGT, Int.reduceGE, Nat.reduceLT, Nat.lt_add_one, Nat.zero_lt_succ, Nat.succ_pos, Nat.zero_le, beq_self_eq_true, k_line_isTarget_0, k_line_isTarget_2, k_line_isTarget_1, e0, e5, e6, hl, hc, hl', c1, decide_true]
      rw [tgtS, hall, q]; simp
    · by_cases c2 : (c.toNat : Int) > 126
      · have q : tgtB c = false := by simp [tgtB]; omega
        simp (maxSteps := 4000000) only [vm, vl, Arg.get, cells, stor, boundO, resultsV, resV, partK, loadV, Vm.part, fillC, splice, reduceIte, reduceCtorEq, Nat.reduceEqDiff, Nat.reduceAdd, Nat.reduceSub, Nat.reduceMul, Nat.reduceLeDiff, ne_eq, not_false_eq_true, Int.reduceEq, Int.reduceLT, Int.reduceLE, Int.reduceNeg, Int.reduceToNat, Int.reduceGT, Int.reduceGE, Nat.reduceLT, Nat.lt_add_one, Nat.zero_lt_succ, Nat.succ_pos, Nat.zero_le, beq_self_eq_true, k_line_isTarget_0, k_line_isTarget_2, k_line_isTarget_1, e0, e5, e6, hl, hc, hl', c1, c2, decide_true, decide_false]
        rw [tgtS, hall, q]; simp
      · have q : tgtB c = true := by simp [tgtB]; omega
        simp (maxSteps := 4000000) only [vm, vl, Arg.get, cells, stor, boundO, resultsV, resV, partK, loadV, Vm.part, fillC, splice, reduceIte, reduceCtorEq, Nat.reduceEqDiff, Nat.reduceAdd, Nat.reduceSub, Nat.reduceMul, Nat.reduceLeDiff, ne_eq, not_false_eq_true, Int.reduceEq, Int.reduceLT, Int.reduceLE, Int.reduceNeg, Int.reduceToNat, Int.reduceGT, Int.reduceGE, Nat.reduceLT, Nat.lt_add_one, Nat.zero_lt_succ, Nat.succ_pos, Nat.zero_le, beq_self_eq_true, k_line_isTarget_0, k_line_isTarget_2, k_line_isTarget_1, e0, e5, e6, hl, hc, hl', c1, c2, decide_true, decide_false, w]
        exact ⟨s.length - (i + 1), by omega, i + 1, rfl, hl', rfl, ⟨t, rfl⟩, by rw [hall, q]; simp⟩
theorem rtarget_ok {s : Bs} (hs : s.length < 9223372036854775807) : Cf F L i_gatepostref03_target [.str s] h (Pu h (.bool (tgtS s))) := by
  refine run_gatepostref03_target ?_
  simp only [p_gatepostref03_target]
  refine l_gatepostref03_target_0 (fun n e h' => ∃ i, n = s.length - i ∧ i ≤ s.length ∧ e 0 = .str s ∧ e 3 = .int .i64 i ∧ (∃ t, h' = h ++ t) ∧ s.all tgtB = (s.drop i).all tgtB) ?_ (n := s.length) ⟨0, by simp, by simp, rfl, rfl, ⟨[], by simp⟩, rfl⟩
  rintro n e h' ⟨i, rfl, hi, e0, e3, ⟨t, rfl⟩, hall⟩
  simp only [b_gatepostref03_target_0]
  rcases str_at hi with ⟨hn, rfl, hd⟩ | ⟨c, hl, hl', hc, hd⟩
  · simp (maxSteps := 4000000) only [vm, vl, Arg.get, cells, stor, boundO, resultsV, resV, partK, loadV, Vm.part, fillC, splice, reduceIte, reduceCtorEq, Nat.reduceEqDiff, Nat.reduceAdd, Nat.reduceSub, Nat.reduceMul, Nat.reduceLeDiff, ne_eq, not_false_eq_true, Int.reduceEq, Int.reduceLT, Int.reduceLE, Int.reduceNeg, Int.reduceToNat, Int.reduceGT, Int.reduceGE, Nat.reduceLT, Nat.lt_add_one, Nat.zero_lt_succ, Nat.succ_pos, Nat.zero_le, beq_self_eq_true, k_gatepostref03_target_0, k_gatepostref03_target_2, k_gatepostref03_target_1, e0, e3, hn]
    rw [tgtS, hall, hd]
    cases s <;> simp
  · have w := wrap64 (x := (i : Int) + 1) (by omega) (by omega)
    rw [hd, List.all_cons] at hall
    by_cases c1 : (c.toNat : Int) < 33
    · have q : tgtB c = false := by simp [tgtB]; omega
      simp (maxSteps := 4000000) only [vm, vl, Arg.get, cells, stor, boundO, resultsV, resV, partK, loadV, Vm.part, fillC, splice, reduceIte, reduceCtorEq, Nat.reduceEqDiff, Nat.reduceAdd, Nat.reduceSub, Nat.reduceMul, Nat.reduceLeDiff, ne_eq, not_false_eq_true, Int.reduceEq, Int.reduceLT, Int.reduceLE, Int.reduceNeg, Int.reduceToNat, Int.reduceGT, Int.reduceGE, Nat.reduceLT, Nat.lt_add_one, Nat.zero_lt_succ, Nat.succ_pos, Nat.zero_le, beq_self_eq_true, k_gatepostref03_target_0, k_gatepostref03_target_2, k_gatepostref03_target_1, e0, e3, hl, hc, hl', c1, decide_true]
      rw [tgtS, hall, q]; simp
    · by_cases c2 : (c.toNat : Int) > 126
      · have q : tgtB c = false := by simp [tgtB]; omega
        simp (maxSteps := 4000000) only [vm, vl, Arg.get, cells, stor, boundO, resultsV, resV, partK, loadV, Vm.part, fillC, splice, reduceIte, reduceCtorEq, Nat.reduceEqDiff, Nat.reduceAdd, Nat.reduceSub, Nat.reduceMul, Nat.reduceLeDiff, ne_eq, not_false_eq_true, Int.reduceEq, Int.reduceLT, Int.reduceLE, Int.reduceNeg, Int.reduceToNat, Int.reduceGT, Int.reduceGE, Nat.reduceLT, Nat.lt_add_one, Nat.zero_lt_succ, Nat.succ_pos, Nat.zero_le, beq_self_eq_true, k_gatepostref03_target_0, k_gatepostref03_target_2, k_gatepostref03_target_1, e0, e3, hl, hc, hl', c1, c2, decide_true, decide_false]
        rw [tgtS, hall, q]; simp
      · have q : tgtB c = true := by simp [tgtB]; omega
        simp (maxSteps := 4000000) only [vm, vl, Arg.get, cells, stor, boundO, resultsV, resV, partK, loadV, Vm.part, fillC, splice, reduceIte, reduceCtorEq, Nat.reduceEqDiff, Nat.reduceAdd, Nat.reduceSub, Nat.reduceMul, Nat.reduceLeDiff, ne_eq, not_false_eq_true, Int.reduceEq, Int.reduceLT, Int.reduceLE, Int.reduceNeg, Int.reduceToNat, Int.reduceGT, Int.reduceGE, Nat.reduceLT, Nat.lt_add_one, Nat.zero_lt_succ, Nat.succ_pos, Nat.zero_le, beq_self_eq_true, k_gatepostref03_target_0, k_gatepostref03_target_2, k_gatepostref03_target_1, e0, e3, hl, hc, hl', c1, c2, decide_true, decide_false, w]
        exact ⟨s.length - (i + 1), by omega, i + 1, rfl, hl', rfl, ⟨t, rfl⟩, by rw [hall, q]; simp⟩
theorem isReason_ok {s : Bs} (hs : s.length < 9223372036854775807) : Cf F L i_line_isReason [.str s] h (Pu h (.bool (rsnS s))) := by
  refine run_line_isReason ?_
  simp only [p_line_isReason]
  simp (maxSteps := 4000000) only [vm, vl, Arg.get, cells, stor, boundO, resultsV, resV, partK, loadV, Vm.part, fillC, splice, reduceIte, reduceCtorEq, Nat.reduceEqDiff, Nat.reduceAdd, Nat.reduceSub, Nat.reduceMul, Nat.reduceLeDiff, ne_eq, not_false_eq_true, Int.reduceEq, Int.reduceLT, Int.reduceLE, Int.reduceNeg, Int.reduceToNat, Int.reduceGT, Int.reduceGE, Nat.reduceLT, Nat.lt_add_one, Nat.zero_lt_succ, Nat.succ_pos, Nat.zero_le, beq_self_eq_true, k_line_isReason_0, k_line_isReason_2, k_line_isReason_1]
  refine l_line_isReason_0 (fun n e h' => ∃ i, n = s.length - i ∧ i ≤ s.length ∧ e 0 = .str s ∧ e 6 = .int .i64 s.length ∧ e 7 = .int .i64 i ∧ (∃ t, h' = h ++ t) ∧ s.all rsnB = (s.drop i).all rsnB) ?_ (n := s.length) ⟨0, by simp, by simp, rfl, rfl, rfl, ⟨[], by simp⟩, rfl⟩
  rintro n e h' ⟨i, rfl, hi, e0, e6, e7, ⟨t, rfl⟩, hall⟩
  simp only [b_line_isReason_0]
  rcases str_at hi with ⟨hn, rfl, hd⟩ | ⟨c, hl, hl', hc, hd⟩
  · simp (maxSteps := 4000000) only [vm, vl, Arg.get, cells, stor, boundO, resultsV, resV, partK, loadV, Vm.part, fillC, splice, reduceIte, reduceCtorEq, Nat.reduceEqDiff, Nat.reduceAdd, Nat.reduceSub, Nat.reduceMul, Nat.reduceLeDiff, ne_eq, not_false_eq_true, Int.reduceEq, Int.reduceLT, Int.reduceLE, Int.reduceNeg, Int.reduceToNat, Int.reduceGT, Int.reduceGE, Nat.reduceLT, Nat.lt_add_one, Nat.zero_lt_succ, Nat.succ_pos, Nat.zero_le, beq_self_eq_true, k_line_isReason_0, k_line_isReason_2, k_line_isReason_1, e0, e6, e7, hn]
    rw [rsnS, hall, hd]; rfl
  · have w := wrap64 (x := (i : Int) + 1) (by omega) (by omega)
    rw [hd, List.all_cons] at hall
    have no : rsnB c = false → false = rsnS s := by intro q; rw [rsnS, hall, q]; rfl
    have yes : rsnB c = true → s.all rsnB = (s.drop (i + 1)).all rsnB := by intro q; rw [hall, q]; rfl
    by_cases c1 : (c.toNat : Int) < 32
    · by_cases c2 : (c.toNat : Int) = 9
      · have q : rsnB c = true := by simp [rsnB]; omega
        have c3 : ¬ (c.toNat : Int) = 127 := by omega
        simp (maxSteps := 4000000) only [vm, vl, Arg.get, cells, stor, boundO, resultsV, resV, partK, loadV, Vm.part, fillC, splice, reduceIte, reduceCtorEq, Nat.reduceEqDiff, Nat.reduceAdd, Nat.reduceSub, Nat.reduceMul, Nat.reduceLeDiff, ne_eq, not_false_eq_true, Int.reduceEq, Int.reduceLT, Int.reduceLE, Int.reduceNeg, Int.reduceToNat, Int.reduceGT, Int.reduceGE, Nat.reduceLT, Nat.lt_add_one, Nat.zero_lt_succ, Nat.succ_pos, Nat.zero_le, beq_self_eq_true, k_line_isReason_0, k_line_isReason_2, k_line_isReason_1, e0, e6, e7, hl, hc, hl', c1, c2, w, decide_true, decide_false, Bool.not_true]
        exact ⟨s.length - (i + 1), by omega, i + 1, rfl, hl', rfl, ⟨t, rfl⟩, yes q⟩
      · have q : rsnB c = false := by simp [rsnB]; omega
        simp (maxSteps := 4000000) only [vm, vl, Arg.get, cells, stor, boundO, resultsV, resV, partK, loadV, Vm.part, fillC, splice, reduceIte, reduceCtorEq, Nat.reduceEqDiff, Nat.reduceAdd, Nat.reduceSub, Nat.reduceMul, Nat.reduceLeDiff, ne_eq, not_false_eq_true, Int.reduceEq, Int.reduceLT, Int.reduceLE, Int.reduceNeg, Int.reduceToNat, Int.reduceGT, Int.reduceGE, Nat.reduceLT, Nat.lt_add_one, Nat.zero_lt_succ, Nat.succ_pos, Nat.zero_le, beq_self_eq_true, k_line_isReason_0, k_line_isReason_2, k_line_isReason_1, e0, e6, e7, hl, hc, hl', c1, c2, w, decide_true, decide_false, Bool.not_false]
        exact no q
    · by_cases c3 : (c.toNat : Int) = 127
      · have q : rsnB c = false := by simp [rsnB]; omega
        simp (maxSteps := 4000000) only [vm, vl, Arg.get, cells, stor, boundO, resultsV, resV, partK, loadV, Vm.part, fillC, splice, reduceIte, reduceCtorEq, Nat.reduceEqDiff, Nat.reduceAdd, Nat.reduceSub, Nat.reduceMul, Nat.reduceLeDiff, ne_eq, not_false_eq_true, Int.reduceEq, Int.reduceLT, Int.reduceLE, Int.reduceNeg, Int.reduceToNat, Int.reduceGT, Int.reduceGE, Nat.reduceLT, Nat.lt_add_one, Nat.zero_lt_succ, Nat.succ_pos, Nat.zero_le, beq_self_eq_true, k_line_isReason_0, k_line_isReason_2, k_line_isReason_1, e0, e6, e7, hl, hc, hl', c1, c3, w, decide_true, decide_false]
        exact no q
      · have q : rsnB c = true := by simp [rsnB]; omega
        simp (maxSteps := 4000000) only [vm, vl, Arg.get, cells, stor, boundO, resultsV, resV, partK, loadV, Vm.part, fillC, splice, reduceIte, reduceCtorEq, Nat.reduceEqDiff, Nat.reduceAdd, Nat.reduceSub, Nat.reduceMul, Nat.reduceLeDiff, ne_eq, not_false_eq_true, Int.reduceEq, Int.reduceLT, Int.reduceLE, Int.reduceNeg, Int.reduceToNat, Int.reduceGT, Int.reduceGE, Nat.reduceLT, Nat.lt_add_one, Nat.zero_lt_succ, Nat.succ_pos, Nat.zero_le, beq_self_eq_true, k_line_isReason_0, k_line_isReason_2, k_line_isReason_1, e0, e6, e7, hl, hc, hl', c1, c3, w, decide_true, decide_false]
        exact ⟨s.length - (i + 1), by omega, i + 1, rfl, hl', rfl, ⟨t, rfl⟩, yes q⟩
theorem rreason_ok {s : Bs} (hs : s.length < 9223372036854775807) : Cf F L i_gatepostref03_reason [.str s] h (Pu h (.bool (rsnS s))) := by
  refine run_gatepostref03_reason ?_
  simp only [p_gatepostref03_reason]
  refine l_gatepostref03_reason_0 (fun n e h' => ∃ i, n = s.length - i ∧ i ≤ s.length ∧ e 0 = .str s ∧ e 3 = .int .i64 i ∧ (∃ t, h' = h ++ t) ∧ s.all rsnB = (s.drop i).all rsnB) ?_ (n := s.length) ⟨0, by simp, by simp, rfl, rfl, ⟨[], by simp⟩, rfl⟩
  rintro n e h' ⟨i, rfl, hi, e0, e3, ⟨t, rfl⟩, hall⟩
  simp only [b_gatepostref03_reason_0]
  rcases str_at hi with ⟨hn, rfl, hd⟩ | ⟨c, hl, hl', hc, hd⟩
  · simp (maxSteps := 4000000) only [vm, vl, Arg.get, cells, stor, boundO, resultsV, resV, partK, loadV, Vm.part, fillC, splice, reduceIte, reduceCtorEq, Nat.reduceEqDiff, Nat.reduceAdd, Nat.reduceSub, Nat.reduceMul, Nat.reduceLeDiff, ne_eq, not_false_eq_true, Int.reduceEq, Int.reduceLT, Int.reduceLE, Int.reduceNeg, Int.reduceToNat, Int.reduceGT, Int.reduceGE, Nat.reduceLT, Nat.lt_add_one, Nat.zero_lt_succ, Nat.succ_pos, Nat.zero_le, beq_self_eq_true, k_gatepostref03_reason_0, k_gatepostref03_reason_2, k_gatepostref03_reason_1, e0, e3, hn]
    rw [rsnS, hall, hd]; rfl
  · have w := wrap64 (x := (i : Int) + 1) (by omega) (by omega)
    rw [hd, List.all_cons] at hall
    have no : rsnB c = false → false = rsnS s := by intro q; rw [rsnS, hall, q]; rfl
    have yes : rsnB c = true → s.all rsnB = (s.drop (i + 1)).all rsnB := by intro q; rw [hall, q]; rfl
    by_cases c2 : (c.toNat : Int) = 9
    · have q : rsnB c = true := by simp [rsnB]; omega
      simp (maxSteps := 4000000) only [vm, vl, Arg.get, cells, stor, boundO, resultsV, resV, partK, loadV, Vm.part, fillC, splice, reduceIte, reduceCtorEq, Nat.reduceEqDiff, Nat.reduceAdd, Nat.reduceSub, Nat.reduceMul, Nat.reduceLeDiff, ne_eq, not_false_eq_true, Int.reduceEq, Int.reduceLT, Int.reduceLE, Int.reduceNeg, Int.reduceToNat, Int.reduceGT, Int.reduceGE, Nat.reduceLT, Nat.lt_add_one, Nat.zero_lt_succ, Nat.succ_pos, Nat.zero_le, beq_self_eq_true, k_gatepostref03_reason_0, k_gatepostref03_reason_2, k_gatepostref03_reason_1, e0, e3, hl, hc, hl', c2, w, decide_true, decide_false, Bool.not_true]
      exact ⟨s.length - (i + 1), by omega, i + 1, rfl, hl', rfl, ⟨t, rfl⟩, yes q⟩
    · by_cases c1 : (c.toNat : Int) < 32
      · have q : rsnB c = false := by simp [rsnB]; omega
        simp (maxSteps := 4000000) only [vm, vl, Arg.get, cells, stor, boundO, resultsV, resV, partK, loadV, Vm.part, fillC, splice, reduceIte, reduceCtorEq, Nat.reduceEqDiff, Nat.reduceAdd, Nat.reduceSub, Nat.reduceMul, Nat.reduceLeDiff, ne_eq, not_false_eq_true, Int.reduceEq, Int.reduceLT, Int.reduceLE, Int.reduceNeg, Int.reduceToNat, Int.reduceGT, Int.reduceGE, Nat.reduceLT, Nat.lt_add_one, Nat.zero_lt_succ, Nat.succ_pos, Nat.zero_le, beq_self_eq_true, k_gatepostref03_reason_0, k_gatepostref03_reason_2, k_gatepostref03_reason_1, e0, e3, hl, hc, hl', c1, c2, w, decide_true, decide_false, Bool.not_false]
        exact no q
      · by_cases c3 : (c.toNat : Int) = 127
        · have q : rsnB c = false := by simp [rsnB]; omega
          simp (maxSteps := 4000000) only [vm, vl, Arg.get, cells, stor, boundO, resultsV, resV, partK, loadV, Vm.part, fillC, splice, reduceIte, reduceCtorEq, Nat.reduceEqDiff, Nat.reduceAdd, Nat.reduceSub, Nat.reduceMul, Nat.reduceLeDiff, ne_eq, not_false_eq_true, Int.reduceEq, Int.reduceLT, Int.reduceLE, Int.reduceNeg, Int.reduceToNat, Int.reduceGT, Int.reduceGE, Nat.reduceLT, Nat.lt_add_one, Nat.zero_lt_succ, Nat.succ_pos, Nat.zero_le, beq_self_eq_true, k_gatepostref03_reason_0, k_gatepostref03_reason_2, k_gatepostref03_reason_1, e0, e3, hl, hc, hl', c1, c2, c3, w, decide_true, decide_false, Bool.not_false]
          exact no q
        · have q : rsnB c = true := by simp [rsnB]; omega
          simp (maxSteps := 4000000) only [vm, vl, Arg.get, cells, stor, boundO, resultsV, resV, partK, loadV, Vm.part, fillC, splice, reduceIte, reduceCtorEq, Nat.reduceEqDiff, Nat.reduceAdd, Nat.reduceSub, Nat.reduceMul, Nat.reduceLeDiff, ne_eq, not_false_eq_true, Int.reduceEq, Int.reduceLT, Int.reduceLE, Int.reduceNeg, Int.reduceToNat, Int.reduceGT, Int.reduceGE, Nat.reduceLT, Nat.lt_add_one, Nat.zero_lt_succ, Nat.succ_pos, Nat.zero_le, beq_self_eq_true, k_gatepostref03_reason_0, k_gatepostref03_reason_2, k_gatepostref03_reason_1, e0, e3, hl, hc, hl', c1, c2, c3, w, decide_true, decide_false, Bool.not_false]
          exact ⟨s.length - (i + 1), by omega, i + 1, rfl, hl', rfl, ⟨t, rfl⟩, yes q⟩
end Go.Proofs.YtnfcjeajbjcppaaDoor.Vh
end
section
set_option linter.unusedVariables false
set_option linter.unusedSimpArgs false
namespace Go.Proofs.YtnfcjeajbjcppaaDoor.Vh
open Go.Vm Go.Vt
attribute [local congr] wi_congr wg_congr wgd_congr wb_congr wl_congr cf_congr
variable {L : FuncId → List V → V → Prop} {h : Heap}
def ver0 : Bs := [72, 84, 84, 80, 47, 49, 46, 48]
def ver1 : Bs := [72, 84, 84, 80, 47, 49, 46, 49]
def versS (s : Bs) : Int := if s = ver0 then 0 else if s = ver1 then 1 else -1
theorem vers_le (s : Bs) : -1 ≤ versS s ∧ versS s ≤ 1 := by unfold versS; split; omega; split <;> omega
theorem version_ok {s : Bs} : Cf F L i_line_version [.str s] h (Pu h (.int .i64 (versS s))) := by
  refine run_line_version ?_
  simp only [p_line_version]
  unfold versS ver0 ver1
  by_cases a : s = [72, 84, 84, 80, 47, 49, 46, 48]
  · have a' : (s == [72, 84, 84, 80, 47, 49, 46, 48]) = true := beq_iff_eq.2 a
    rw [if_pos a]
    simp (maxSteps := 4000000) only [vm, vl, Arg.get, cells, stor, boundO, resultsV, resV, partK, loadV, Vm.part, fillC, splice, reduceIte, reduceCtorEq, Nat.reduceEqDiff, Nat.reduceAdd, Nat.reduceSub, Nat.reduceMul, Nat.reduceLeDiff, ne_eq, not_false_eq_true, Int.reduceEq, Int.reduceLT, Int.reduceLE, Int.reduceNeg, Int.reduceToNat, Int.reduceGT, Int.reduceGE, Nat.reduceLT, Nat.lt_add_one, Nat.zero_lt_succ, Nat.succ_pos, Nat.zero_le, beq_self_eq_true, k_line_version_0, a']
  have a' : (s == [72, 84, 84, 80, 47, 49, 46, 48]) = false := beq_eq_false_iff_ne.2 a
  rw [if_neg a]
  by_cases b : s = [72, 84, 84, 80, 47, 49, 46, 49]
  · have b' : (s == [72, 84, 84, 80, 47, 49, 46, 49]) = true := beq_iff_eq.2 b
    rw [if_pos b]
    simp (maxSteps := 4000000) only [vm, vl, Arg.get, cells, stor, boundO, resultsV, resV, partK, loadV, Vm.part, fillC, splice, reduceIte, reduceCtorEq, Nat.reduceEqDiff, Nat.reduceAdd, Nat.reduceSub, Nat.reduceMul, Nat.reduceLeDiff, ne_eq, not_false_eq_true, Int.reduceEq, Int.reduceLT, Int.reduceLE, Int.reduceNeg, Int.reduceToNat, Int.reduceGT, Int.reduceGE, Nat.reduceLT, Nat.lt_add_one, Nat.zero_lt_succ, Nat.succ_pos, Nat.zero_le, beq_self_eq_true, k_line_version_0, a', b']
  have b' : (s == [72, 84, 84, 80, 47, 49, 46, 49]) = false := beq_eq_false_iff_ne.2 b
  rw [if_neg b]
  simp (maxSteps := 4000000) only [vm, vl, Arg.get, cells, stor, boundO, resultsV, resV, partK, loadV, Vm.part, fillC, splice, reduceIte, reduceCtorEq, Nat.reduceEqDiff, Nat.reduceAdd, Nat.reduceSub, Nat.reduceMul, Nat.reduceLeDiff, ne_eq, not_false_eq_true, Int.reduceEq, Int.reduceLT, Int.reduceLE, Int.reduceNeg, Int.reduceToNat, Int.reduceGT, Int.reduceGE, Nat.reduceLT, Nat.lt_add_one, Nat.zero_lt_succ, Nat.succ_pos, Nat.zero_le, beq_self_eq_true, k_line_version_0, a', b']
def req3 (a b c : Bs) : Option (Bs × Bs × Int) := if isTok a = true ∧ tgtS b = true ∧ 0 ≤ versS c then some (a, b, versS c) else none
def reqW : List Bs → Option (Bs × Bs × Int)
  | [a, b, c] => req3 a b c
  | _ => none
def reqO : Option (Bs × Bs × Int) → V
  | some (a, b, m) => .tup [.str a, .str b, .int .i64 m, .int .i64 0]
  | none => .tup [.str [], .str [], .int .i64 0, .int .i64 30]
def reqRV (s : Bs) : V := if s.length > 1024 then .tup [.str [], .str [], .int .i64 0, .int .i64 3] else reqO (reqW (splitB s))
theorem words_all : ∀ s : Bs, ∀ w ∈ splitB s, w.length ≤ s.length
  | [], w, h => by simp [splitB] at h; simp [h]
  | c :: r, w, h => by
    have ih := words_all r
    unfold splitB at h
    split at h
    · rcases List.mem_cons.1 h with rfl | h
      · simp
      · have := ih w h; simp only [List.length_cons]; omega
    · cases hs : splitB r with
      | nil => exact absurd hs (splitB_ne r)
      | cons x xs =>
        rw [hs] at h ih
        rcases List.mem_cons.1 h with rfl | h
        · have := ih x (by simp); simp only [List.length_cons]; omega
        · have := ih w (by simp [h]); simp only [List.length_cons]; omega
theorem LRequest_ok (HI : IndexOk L) (HC : CountOk L) {s : Bs} (hs : s.length ≤ 140737488351232) : Cf F L i_line_Request [.str s] h (Pu h (reqRV s)) := by
  refine run_line_Request ?_
  simp only [p_line_Request]
  
  unfold reqRV
  by_cases c : s.length > 1024
  · have c' : (s.length : Int) > 1024 := by omega
    rw [if_pos c]
    simp (maxSteps := 4000000) only [vm, vl, Arg.get, cells, stor, boundO, resultsV, resV, partK, loadV, Vm.part, fillC, splice, reduceIte, reduceCtorEq, Nat.reduceEqDiff, Nat.reduceAdd, Nat.reduceSub, Nat.reduceMul, Nat.reduceLeDiff, ne_eq, not_false_eq_true, Int.reduceEq, Int.reduceLT, Int.reduceLE, Int.reduceNeg, Int.reduceToNat, Int.reduceGT, Int.reduceGE, Nat.reduceLT, Nat.lt_add_one, Nat.zero_lt_succ, Nat.succ_pos, Nat.zero_le, beq_self_eq_true, c', decide_true]
  have c' : ¬ (s.length : Int) > 1024 := by omega
  rw [if_neg c]
  simp (maxSteps := 4000000) only [vm, vl, Arg.get, cells, stor, boundO, resultsV, resV, partK, loadV, Vm.part, fillC, splice, reduceIte, reduceCtorEq, Nat.reduceEqDiff, Nat.reduceAdd, Nat.reduceSub, Nat.reduceMul, Nat.reduceLeDiff, ne_eq, not_false_eq_true, Int.reduceEq, Int.reduceLT, Int.reduceLE, Int.reduceNeg, Int.reduceToNat, Int.reduceGT, Int.reduceGE, Nat.reduceLT, Nat.lt_add_one, Nat.zero_lt_succ, Nat.succ_pos, Nat.zero_le, beq_self_eq_true, c', decide_false, k_line_Request_0]
  refine (words_ok HI HC (by omega)).mono fun v h' hp => ?_
  obtain ⟨t, u, rfl, rfl⟩ := hp
  have wa := words_all s
  generalize splitB s = W at *
  by_cases n3 : W.length = 3
  case neg =>
    have n3' : ¬ (W.length : Int) = 3 := by omega
    have e : reqW W = none := by
      match W, n3 with
      | [], _ => rfl
      | [_], _ => rfl
      | [_, _], _ => rfl
      | [_, _, _], h => exact absurd rfl h
      | _ :: _ :: _ :: _ :: _, _ => rfl
    rw [e]
    simp (maxSteps := 4000000) only [vm, vl, Arg.get, cells, stor, boundO, resultsV, resV, partK, loadV, Vm.part, fillC, splice, reduceIte, reduceCtorEq, Nat.reduceEqDiff, Nat.reduceAdd, Nat.reduceSub, Nat.reduceMul, Nat.reduceLeDiff, ne_eq, not_false_eq_true, Int.reduceEq, Int.reduceLT, Int.reduceLE, Int.reduceNeg, Int.reduceToNat, Int.reduceGT, Int.reduceGE, Nat.reduceLT, Nat.lt_add_one, Nat.zero_lt_succ, Nat.succ_pos, Nat.zero_le, beq_self_eq_true, n3', decide_false, Bool.not_false, reqO]
  match W, n3 with
  | [x, y, z], _ =>
    have lx := wa x (by simp)
    have ly := wa y (by simp)
    have I1 := fun hh => Is_ok (L := L) (h := hh) (s := x) (by omega)
    have I2 := fun hh => isTarget_ok (L := L) (h := hh) (s := y) (by omega)
    have vz := vers_le z
    have n3' : ((([x, y, z] : List Bs).length : Nat) : Int) = 3 := rfl
    have n3n : ([x, y, z] : List Bs).length = 3 := rfl
    have m3 : ([x, y, z] : List Bs).map V.str = [.str x, .str y, .str z] := rfl
    have rw1 : reqW [x, y, z] = req3 x y z := rfl
    rw [rw1, n3n, m3]
    clear n3' n3n m3 rw1 wa
    have no : ¬ (isTok x = true ∧ tgtS y = true ∧ 0 ≤ versS z) → req3 x y z = none := fun h => if_neg h
    have z3 : ((3 : Nat) : Int) = 3 := rfl
    simp (maxSteps := 4000000) only [vm, vl, Arg.get, cells, stor, boundO, resultsV, resV, partK, loadV, Vm.part, fillC, splice, reduceIte, reduceCtorEq, Nat.reduceEqDiff, Nat.reduceAdd, Nat.reduceSub, Nat.reduceMul, Nat.reduceLeDiff, ne_eq, not_false_eq_true, Int.reduceEq, Int.reduceLT, Int.reduceLE, Int.reduceNeg, Int.reduceToNat, Int.reduceGT, Int.reduceGE, Nat.reduceLT, Nat.lt_add_one, Nat.zero_lt_succ, Nat.succ_pos, Nat.zero_le, beq_self_eq_true, z3, decide_true, Bool.not_true, List.length_cons, List.length_nil, List.getD_cons_zero, List.getD_cons_succ]
    refine Cf.pu (I1 _) fun u1 => ?_
    cases e1 : isTok x with
    | false =>
      rw [no (fun h => by rw [e1] at h; cases h.1)]
      simp (maxSteps := 4000000) only [vm, vl, Arg.get, cells, stor, boundO, resultsV, resV, partK, loadV, Vm.part, fillC, splice, reduceIte, reduceCtorEq, Nat.reduceEqDiff, Nat.reduceAdd, Nat.reduceSub, Nat.reduceMul, Nat.reduceLeDiff, ne_eq, not_false_eq_true, Int.reduceEq, Int.reduceLT, Int.reduceLE, Int.reduceNeg, Int.reduceToNat, Int.reduceGT, Int.reduceGE, Nat.reduceLT, Nat.lt_add_one, Nat.zero_lt_succ, Nat.succ_pos, Nat.zero_le, beq_self_eq_true, Bool.not_false, reqO]
    | true =>
      simp (maxSteps := 4000000) only [vm, vl, Arg.get, cells, stor, boundO, resultsV, resV, partK, loadV, Vm.part, fillC, splice, reduceIte, reduceCtorEq, Nat.reduceEqDiff, Nat.reduceAdd, Nat.reduceSub, Nat.reduceMul, Nat.reduceLeDiff, ne_eq, not_false_eq_true, Int.reduceEq, Int.reduceLT, Int.reduceLE, Int.reduceNeg, Int.reduceToNat, Int.reduceGT, Int.reduceGE, Nat.reduceLT, Nat.lt_add_one, Nat.zero_lt_succ, Nat.succ_pos, Nat.zero_le, beq_self_eq_true, Bool.not_true, List.length_cons, List.length_nil, List.getD_cons_zero, List.getD_cons_succ]
      refine Cf.pu (I2 _) fun u2 => ?_
      cases e2 : tgtS y with
      | false =>
        rw [no (fun h => by rw [e2] at h; cases h.2.1)]
        simp (maxSteps := 4000000) only [vm, vl, Arg.get, cells, stor, boundO, resultsV, resV, partK, loadV, Vm.part, fillC, splice, reduceIte, reduceCtorEq, Nat.reduceEqDiff, Nat.reduceAdd, Nat.reduceSub, Nat.reduceMul, Nat.reduceLeDiff, ne_eq, not_false_eq_true, Int.reduceEq, Int.reduceLT, Int.reduceLE, Int.reduceNeg, Int.reduceToNat, Int.reduceGT, Int.reduceGE, Nat.reduceLT, Nat.lt_add_one, Nat.zero_lt_succ, Nat.succ_pos, Nat.zero_le, beq_self_eq_true, Bool.not_false, reqO]
      | true =>
        simp (maxSteps := 4000000) only [vm, vl, Arg.get, cells, stor, boundO, resultsV, resV, partK, loadV, Vm.part, fillC, splice, reduceIte, reduceCtorEq, Nat.reduceEqDiff, Nat.reduceAdd, Nat.reduceSub, Nat.reduceMul, Nat.reduceLeDiff, ne_eq, not_false_eq_true, Int.reduceEq, Int.reduceLT, Int.reduceLE, Int.reduceNeg, Int.reduceToNat, Int.reduceGT, Int.reduceGE, Nat.reduceLT, Nat.lt_add_one, Nat.zero_lt_succ, Nat.succ_pos, Nat.zero_le, beq_self_eq_true, Bool.not_true, List.length_cons, List.length_nil, List.getD_cons_zero, List.getD_cons_succ]
        refine Cf.pu version_ok fun u3 => ?_
        by_cases e3 : versS z < 0
        · rw [no (fun h => by omega)]
          simp (maxSteps := 4000000) only [vm, vl, Arg.get, cells, stor, boundO, resultsV, resV, partK, loadV, Vm.part, fillC, splice, reduceIte, reduceCtorEq, Nat.reduceEqDiff, Nat.reduceAdd, Nat.reduceSub, Nat.reduceMul, Nat.reduceLeDiff, ne_eq, not_false_eq_true, Int.reduceEq, Int.reduceLT, Int.reduceLE, Int.reduceNeg, Int.reduceToNat, Int.reduceGT, Int.reduceGE, Nat.reduceLT, Nat.lt_add_one, Nat.zero_lt_succ, Nat.succ_pos, Nat.zero_le, beq_self_eq_true, e3, decide_true, reqO]
        · rw [show req3 x y z = some (x, y, versS z) from if_pos ⟨e1, e2, by omega⟩]
          simp (maxSteps := 4000000) only [vm, vl, Arg.get, cells, stor, boundO, resultsV, resV, partK, loadV, Vm.part, fillC, splice, reduceIte, reduceCtorEq, Nat.reduceEqDiff, Nat.reduceAdd, Nat.reduceSub, Nat.reduceMul, Nat.reduceLeDiff, ne_eq, not_false_eq_true, Int.reduceEq, Int.reduceLT, Int.reduceLE, Int.reduceNeg, Int.reduceToNat, Int.reduceGT, Int.reduceGE, Nat.reduceLT, Nat.lt_add_one, Nat.zero_lt_succ, Nat.succ_pos, Nat.zero_le, beq_self_eq_true, e3, decide_false, reqO, k_line_Request_1, List.length_cons, List.length_nil, List.getD_cons_zero, List.getD_cons_succ]
          refine Cf.pu version_ok fun u4 => ?_
          simp (maxSteps := 4000000) only [vm, vl, Arg.get, cells, stor, boundO, resultsV, resV, partK, loadV, Vm.part, fillC, splice, reduceIte, reduceCtorEq, Nat.reduceEqDiff, Nat.reduceAdd, Nat.reduceSub, Nat.reduceMul, Nat.reduceLeDiff, ne_eq, not_false_eq_true, Int.reduceEq, Int.reduceLT, Int.reduceLE, Int.reduceNeg, Int.reduceToNat, Int.reduceGT, Int.reduceGE, Nat.reduceLT, Nat.lt_add_one, Nat.zero_lt_succ, Nat.succ_pos, Nat.zero_le, beq_self_eq_true]
def stP (s : Bs) : Option (Int × Int × Bs) :=
  let f := s.take (pos 32 s); let rest := s.drop (pos 32 s + 1)
  let d := rest.take (pos 32 rest); let r := rest.drop (pos 32 rest + 1)
  if 0 ≤ versS f ∧ (numS d 1024).2 = true ∧ d.length = 3 ∧ 100 ≤ (numS d 1024).1 ∧ (numS d 1024).1 ≤ 599 ∧ rsnS r = true then some (versS f, (numS d 1024).1, r) else none
def stO : Option (Int × Int × Bs) → V
  | some (m, c, r) => .tup [.int .i64 m, .int .i64 c, .str r, .int .i64 0]
  | none => .tup [.int .i64 0, .int .i64 0, .str [], .int .i64 30]
def stRV (s : Bs) : V := if s.length > 1024 then .tup [.int .i64 0, .int .i64 0, .str [], .int .i64 3] else stO (stP s)
theorem wrong_ok {e : Int} : Cf F L i_line_Status_1 [.int .i64 e] h (Pu h (.tup [.int .i64 0, .int .i64 0, .str [], .int .i64 e])) := by
  refine run_line_Status_1 ?_
  simp only [p_line_Status_1]
  
  simp (maxSteps := 4000000) only [vm, vl, Arg.get, cells, stor, boundO, resultsV, resV, partK, loadV, Vm.part, fillC, splice, reduceIte, reduceCtorEq, Nat.reduceEqDiff, Nat.reduceAdd, Nat.reduceSub, Nat.reduceMul, Nat.reduceLeDiff, ne_eq, not_false_eq_true, Int.reduceEq, Int.reduceLT, Int.reduceLE, Int.reduceNeg, Int.reduceToNat, Int.reduceGT, Int.reduceGE, Nat.reduceLT, Nat.lt_add_one, Nat.zero_lt_succ, Nat.succ_pos, Nat.zero_le, beq_self_eq_true]
theorem LStatus_ok (HI : IndexOk L) {s : Bs} (hs : s.length ≤ 140737488351232) : Cf F L i_line_Status [.str s] h (Pu h (stRV s)) := by
  refine run_line_Status ?_
  simp only [p_line_Status]
  
  unfold stRV
  by_cases c : s.length > 1024
  · have c' : (s.length : Int) > 1024 := by omega
    rw [if_pos c]
    simp (maxSteps := 4000000) only [vm, vl, Arg.get, cells, stor, boundO, resultsV, resV, partK, loadV, Vm.part, fillC, splice, reduceIte, reduceCtorEq, Nat.reduceEqDiff, Nat.reduceAdd, Nat.reduceSub, Nat.reduceMul, Nat.reduceLeDiff, ne_eq, not_false_eq_true, Int.reduceEq, Int.reduceLT, Int.reduceLE, Int.reduceNeg, Int.reduceToNat, Int.reduceGT, Int.reduceGE, Nat.reduceLT, Nat.lt_add_one, Nat.zero_lt_succ, Nat.succ_pos, Nat.zero_le, beq_self_eq_true, c', decide_true]
    refine Cf.pu wrong_ok fun u => ?_
    simp (maxSteps := 4000000) only [vm, vl, Arg.get, cells, stor, boundO, resultsV, resV, partK, loadV, Vm.part, fillC, splice, reduceIte, reduceCtorEq, Nat.reduceEqDiff, Nat.reduceAdd, Nat.reduceSub, Nat.reduceMul, Nat.reduceLeDiff, ne_eq, not_false_eq_true, Int.reduceEq, Int.reduceLT, Int.reduceLE, Int.reduceNeg, Int.reduceToNat, Int.reduceGT, Int.reduceGE, Nat.reduceLT, Nat.lt_add_one, Nat.zero_lt_succ, Nat.succ_pos, Nat.zero_le, beq_self_eq_true]
  have c' : ¬ (s.length : Int) > 1024 := by omega
  rw [if_neg c]
  have C1 := fun hh => Cut_ok (L := L) (h := hh) (s := s) (c := 32) HI (by omega)
  have l2 : (s.drop (pos 32 s + 1)).length ≤ 1024 := by rw [List.length_drop]; omega
  have no : ¬ (0 ≤ versS (s.take (pos 32 s)) ∧ (numS ((s.drop (pos 32 s + 1)).take (pos 32 (s.drop (pos 32 s + 1)))) 1024).2 = true ∧ ((s.drop (pos 32 s + 1)).take (pos 32 (s.drop (pos 32 s + 1)))).length = 3 ∧ 100 ≤ (numS ((s.drop (pos 32 s + 1)).take (pos 32 (s.drop (pos 32 s + 1)))) 1024).1 ∧ (numS ((s.drop (pos 32 s + 1)).take (pos 32 (s.drop (pos 32 s + 1)))) 1024).1 ≤ 599 ∧ rsnS ((s.drop (pos 32 s + 1)).drop (pos 32 (s.drop (pos 32 s + 1)) + 1)) = true) → stP s = none := fun h => if_neg h
  have yes : (0 ≤ versS (s.take (pos 32 s)) ∧ (numS ((s.drop (pos 32 s + 1)).take (pos 32 (s.drop (pos 32 s + 1)))) 1024).2 = true ∧ ((s.drop (pos 32 s + 1)).take (pos 32 (s.drop (pos 32 s + 1)))).length = 3 ∧ 100 ≤ (numS ((s.drop (pos 32 s + 1)).take (pos 32 (s.drop (pos 32 s + 1)))) 1024).1 ∧ (numS ((s.drop (pos 32 s + 1)).take (pos 32 (s.drop (pos 32 s + 1)))) 1024).1 ≤ 599 ∧ rsnS ((s.drop (pos 32 s + 1)).drop (pos 32 (s.drop (pos 32 s + 1)) + 1)) = true) → stP s = some (versS (s.take (pos 32 s)), (numS ((s.drop (pos 32 s + 1)).take (pos 32 (s.drop (pos 32 s + 1)))) 1024).1, ((s.drop (pos 32 s + 1)).drop (pos 32 (s.drop (pos 32 s + 1)) + 1))) := fun h => if_pos h
  generalize stP s = R at *
  unfold cutS at C1
  generalize s.take (pos 32 s) = f at *
  generalize s.drop (pos 32 s + 1) = rest at *
  generalize decide (pos 32 s < s.length) = h1 at *
  have C2 := fun hh => Cut_ok (L := L) (h := hh) (s := rest) (c := 32) HI (by omega)
  unfold cutS at C2
  have l3 : (rest.take (pos 32 rest)).length ≤ 1024 := by rw [List.length_take]; omega
  have l4 : (rest.drop (pos 32 rest + 1)).length ≤ 1024 := by rw [List.length_drop]; omega
  generalize rest.take (pos 32 rest) = d at *
  generalize rest.drop (pos 32 rest + 1) = r at *
  generalize decide (pos 32 rest < rest.length) = h2 at *
  have N1 := fun hh => Number_ok (L := L) (h := hh) (s := d) (most := 1024) (by omega) (by omega) (by omega)
  have I2 := fun hh => isReason_ok (L := L) (h := hh) (s := r) (by omega)
  have nl := numS_le d (most := 1024) (by omega)
  generalize numS d 1024 = nd at *
  obtain ⟨n, ok⟩ := nd
  simp only at *
  simp (maxSteps := 4000000) only [vm, vl, Arg.get, cells, stor, boundO, resultsV, resV, partK, loadV, Vm.part, fillC, splice, reduceIte, reduceCtorEq, Nat.reduceEqDiff, Nat.reduceAdd, Nat.reduceSub, Nat.reduceMul, Nat.reduceLeDiff, ne_eq, not_false_eq_true, Int.reduceEq, Int.reduceLT, Int.reduceLE, Int.reduceNeg, Int.reduceToNat, Int.reduceGT, Int.reduceGE, Nat.reduceLT, Nat.lt_add_one, Nat.zero_lt_succ, Nat.succ_pos, Nat.zero_le, beq_self_eq_true, c', decide_false, k_line_Status_0]
  refine Cf.pu (C1 _) fun u1 => ?_
  simp (maxSteps := 4000000) only [vm, vl, Arg.get, cells, stor, boundO, resultsV, resV, partK, loadV, Vm.part, fillC, splice, reduceIte, reduceCtorEq, Nat.reduceEqDiff, Nat.reduceAdd, Nat.reduceSub, Nat.reduceMul, Nat.reduceLeDiff, ne_eq, not_false_eq_true, Int.reduceEq, Int.reduceLT, Int.reduceLE, Int.reduceNeg, Int.reduceToNat, Int.reduceGT, Int.reduceGE, Nat.reduceLT, Nat.lt_add_one, Nat.zero_lt_succ, Nat.succ_pos, Nat.zero_le, beq_self_eq_true]
  refine Cf.pu (C2 _) fun u2 => ?_
  simp (maxSteps := 4000000) only [vm, vl, Arg.get, cells, stor, boundO, resultsV, resV, partK, loadV, Vm.part, fillC, splice, reduceIte, reduceCtorEq, Nat.reduceEqDiff, Nat.reduceAdd, Nat.reduceSub, Nat.reduceMul, Nat.reduceLeDiff, ne_eq, not_false_eq_true, Int.reduceEq, Int.reduceLT, Int.reduceLE, Int.reduceNeg, Int.reduceToNat, Int.reduceGT, Int.reduceGE, Nat.reduceLT, Nat.lt_add_one, Nat.zero_lt_succ, Nat.succ_pos, Nat.zero_le, beq_self_eq_true]
  refine Cf.pu (N1 _) fun u3 => ?_
  simp (maxSteps := 4000000) only [vm, vl, Arg.get, cells, stor, boundO, resultsV, resV, partK, loadV, Vm.part, fillC, splice, reduceIte, reduceCtorEq, Nat.reduceEqDiff, Nat.reduceAdd, Nat.reduceSub, Nat.reduceMul, Nat.reduceLeDiff, ne_eq, not_false_eq_true, Int.reduceEq, Int.reduceLT, Int.reduceLE, Int.reduceNeg, Int.reduceToNat, Int.reduceGT, Int.reduceGE, Nat.reduceLT, Nat.lt_add_one, Nat.zero_lt_succ, Nat.succ_pos, Nat.zero_le, beq_self_eq_true]
  refine Cf.pu version_ok fun u4 => ?_
  by_cases a1 : versS f < 0
  · rw [no (fun h => by omega)]
    simp (maxSteps := 4000000) only [vm, vl, Arg.get, cells, stor, boundO, resultsV, resV, partK, loadV, Vm.part, fillC, splice, reduceIte, reduceCtorEq, Nat.reduceEqDiff, Nat.reduceAdd, Nat.reduceSub, Nat.reduceMul, Nat.reduceLeDiff, ne_eq, not_false_eq_true, Int.reduceEq, Int.reduceLT, Int.reduceLE, Int.reduceNeg, Int.reduceToNat, Int.reduceGT, Int.reduceGE, Nat.reduceLT, Nat.lt_add_one, Nat.zero_lt_succ, Nat.succ_pos, Nat.zero_le, beq_self_eq_true, a1, decide_true]
    refine Cf.pu wrong_ok fun u => ?_
    simp (maxSteps := 4000000) only [vm, vl, Arg.get, cells, stor, boundO, resultsV, resV, partK, loadV, Vm.part, fillC, splice, reduceIte, reduceCtorEq, Nat.reduceEqDiff, Nat.reduceAdd, Nat.reduceSub, Nat.reduceMul, Nat.reduceLeDiff, ne_eq, not_false_eq_true, Int.reduceEq, Int.reduceLT, Int.reduceLE, Int.reduceNeg, Int.reduceToNat, Int.reduceGT, Int.reduceGE, Nat.reduceLT, Nat.lt_add_one, Nat.zero_lt_succ, Nat.succ_pos, Nat.zero_le, beq_self_eq_true, stO]
  cases ok with
  | false =>
    rw [no (fun h => by cases h.2.1)]
    simp (maxSteps := 4000000) only [vm, vl, Arg.get, cells, stor, boundO, resultsV, resV, partK, loadV, Vm.part, fillC, splice, reduceIte, reduceCtorEq, Nat.reduceEqDiff, Nat.reduceAdd, Nat.reduceSub, Nat.reduceMul, Nat.reduceLeDiff, ne_eq, not_false_eq_true, Int.reduceEq, Int.reduceLT, Int.reduceLE, Int.reduceNeg, Int.reduceToNat, Int.reduceGT, Int.reduceGE, Nat.reduceLT, Nat.lt_add_one, Nat.zero_lt_succ, Nat.succ_pos, Nat.zero_le, beq_self_eq_true, a1, decide_false, Bool.not_false]
    refine Cf.pu wrong_ok fun u => ?_
    simp (maxSteps := 4000000) only [vm, vl, Arg.get, cells, stor, boundO, resultsV, resV, partK, loadV, Vm.part, fillC, splice, reduceIte, reduceCtorEq, Nat.reduceEqDiff, Nat.reduceAdd, Nat.reduceSub, Nat.reduceMul, Nat.reduceLeDiff, ne_eq, not_false_eq_true, Int.reduceEq, Int.reduceLT, Int.reduceLE, Int.reduceNeg, Int.reduceToNat, Int.reduceGT, Int.reduceGE, Nat.reduceLT, Nat.lt_add_one, Nat.zero_lt_succ, Nat.succ_pos, Nat.zero_le, beq_self_eq_true, stO]
  | true =>
    by_cases a3 : d.length = 3
    case neg =>
      have a3' : ¬ (d.length : Int) = 3 := by omega
      rw [no (fun h => a3 h.2.2.1)]
      simp (maxSteps := 4000000) only [vm, vl, Arg.get, cells, stor, boundO, resultsV, resV, partK, loadV, Vm.part, fillC, splice, reduceIte, reduceCtorEq, Nat.reduceEqDiff, Nat.reduceAdd, Nat.reduceSub, Nat.reduceMul, Nat.reduceLeDiff, ne_eq, not_false_eq_true, Int.reduceEq, Int.reduceLT, Int.reduceLE, Int.reduceNeg, Int.reduceToNat, Int.reduceGT, Int.reduceGE, Nat.reduceLT, Nat.lt_add_one, Nat.zero_lt_succ, Nat.succ_pos, Nat.zero_le, beq_self_eq_true, a1, a3', decide_false, Bool.not_false, Bool.not_true]
      refine Cf.pu wrong_ok fun u => ?_
      simp (maxSteps := 4000000) only [vm, vl, Arg.get, cells, stor, boundO, resultsV, resV, partK, loadV, Vm.part, fillC, splice, reduceIte, reduceCtorEq, Nat.reduceEqDiff, Nat.reduceAdd, Nat.reduceSub, Nat.reduceMul, Nat.reduceLeDiff, ne_eq, not_false_eq_true, Int.reduceEq, Int.reduceLT, Int.reduceLE, Int.reduceNeg, Int.reduceToNat, Int.reduceGT, Int.reduceGE, Nat.reduceLT, Nat.lt_add_one, Nat.zero_lt_succ, Nat.succ_pos, Nat.zero_le, beq_self_eq_true, stO]
    have a3' : (d.length : Int) = 3 := by omega
    by_cases a4 : n < 100
    · rw [no (fun h => by omega)]
      simp (maxSteps := 4000000) only [vm, vl, Arg.get, cells, stor, boundO, resultsV, resV, partK, loadV, Vm.part, fillC, splice, reduceIte, reduceCtorEq, Nat.reduceEqDiff, Nat.reduceAdd, Nat.reduceSub, Nat.reduceMul, Nat.reduceLeDiff, ne_eq, not_false_eq_true, Int.reduceEq, Int.reduceLT, Int.reduceLE, Int.reduceNeg, Int.reduceToNat, Int.reduceGT, Int.reduceGE, Nat.reduceLT, Nat.lt_add_one, Nat.zero_lt_succ, Nat.succ_pos, Nat.zero_le, beq_self_eq_true, a1, a3', a4, decide_true, decide_false, Bool.not_false, Bool.not_true]
      refine Cf.pu wrong_ok fun u => ?_
      simp (maxSteps := 4000000) only [vm, vl, Arg.get, cells, stor, boundO, resultsV, resV, partK, loadV, Vm.part, fillC, splice, reduceIte, reduceCtorEq, Nat.reduceEqDiff, Nat.reduceAdd, Nat.reduceSub, Nat.reduceMul, Nat.reduceLeDiff, ne_eq, not_false_eq_true, Int.reduceEq, Int.reduceLT, Int.reduceLE, Int.reduceNeg, Int.reduceToNat, Int.reduceGT, Int.reduceGE, Nat.reduceLT, Nat.lt_add_one, Nat.zero_lt_succ, Nat.succ_pos, Nat.zero_le, beq_self_eq_true, stO]
    by_cases a5 : n > 599
    · rw [no (fun h => by omega)]
      simp (maxSteps := 4000000) only [vm, vl, Arg.get, cells, stor, boundO, resultsV, resV, partK, loadV, Vm.part, fillC, splice, reduceIte, reduceCtorEq, Nat.reduceEqDiff, Nat.reduceAdd, Nat.reduceSub, Nat.reduceMul, Nat.reduceLeDiff, ne_eq, not_false_eq_true, Int.reduceEq, Int.reduceLT, Int.reduceLE, Int.reduceNeg, Int.reduceToNat, Int.reduceGT, Int.reduceGE, Nat.reduceLT, Nat.lt_add_one, Nat.zero_lt_succ, Nat.succ_pos, Nat.zero_le, beq_self_eq_true, a1, a3', a4, a5, decide_true, decide_false, Bool.not_false, Bool.not_true]
      refine Cf.pu wrong_ok fun u => ?_
      simp (maxSteps := 4000000) only [vm, vl, Arg.get, cells, stor, boundO, resultsV, resV, partK, loadV, Vm.part, fillC, splice, reduceIte, reduceCtorEq, Nat.reduceEqDiff, Nat.reduceAdd, Nat.reduceSub, Nat.reduceMul, Nat.reduceLeDiff, ne_eq, not_false_eq_true, Int.reduceEq, Int.reduceLT, Int.reduceLE, Int.reduceNeg, Int.reduceToNat, Int.reduceGT, Int.reduceGE, Nat.reduceLT, Nat.lt_add_one, Nat.zero_lt_succ, Nat.succ_pos, Nat.zero_le, beq_self_eq_true, stO]
    simp (maxSteps := 4000000) only [vm, vl, Arg.get, cells, stor, boundO, resultsV, resV, partK, loadV, Vm.part, fillC, splice, reduceIte, reduceCtorEq, Nat.reduceEqDiff, Nat.reduceAdd, Nat.reduceSub, Nat.reduceMul, Nat.reduceLeDiff, ne_eq, not_false_eq_true, Int.reduceEq, Int.reduceLT, Int.reduceLE, Int.reduceNeg, Int.reduceToNat, Int.reduceGT, Int.reduceGE, Nat.reduceLT, Nat.lt_add_one, Nat.zero_lt_succ, Nat.succ_pos, Nat.zero_le, beq_self_eq_true, a1, a3', a4, a5, decide_true, decide_false, Bool.not_false, Bool.not_true]
    refine Cf.pu (I2 _) fun u5 => ?_
    cases a6 : rsnS r with
    | false =>
      rw [no (fun h => by rw [a6] at h; cases h.2.2.2.2.2)]
      simp (maxSteps := 4000000) only [vm, vl, Arg.get, cells, stor, boundO, resultsV, resV, partK, loadV, Vm.part, fillC, splice, reduceIte, reduceCtorEq, Nat.reduceEqDiff, Nat.reduceAdd, Nat.reduceSub, Nat.reduceMul, Nat.reduceLeDiff, ne_eq, not_false_eq_true, Int.reduceEq, Int.reduceLT, Int.reduceLE, Int.reduceNeg, Int.reduceToNat, Int.reduceGT, Int.reduceGE, Nat.reduceLT, Nat.lt_add_one, Nat.zero_lt_succ, Nat.succ_pos, Nat.zero_le, beq_self_eq_true, Bool.not_false]
      refine Cf.pu wrong_ok fun u => ?_
      simp (maxSteps := 4000000) only [vm, vl, Arg.get, cells, stor, boundO, resultsV, resV, partK, loadV, Vm.part, fillC, splice, reduceIte, reduceCtorEq, Nat.reduceEqDiff, Nat.reduceAdd, Nat.reduceSub, Nat.reduceMul, Nat.reduceLeDiff, ne_eq, not_false_eq_true, Int.reduceEq, Int.reduceLT, Int.reduceLE, Int.reduceNeg, Int.reduceToNat, Int.reduceGT, Int.reduceGE, Nat.reduceLT, Nat.lt_add_one, Nat.zero_lt_succ, Nat.succ_pos, Nat.zero_le, beq_self_eq_true, stO]
    | true =>
      rw [yes ⟨by omega, rfl, a3, by omega, by omega, a6⟩]
      simp (maxSteps := 4000000) only [vm, vl, Arg.get, cells, stor, boundO, resultsV, resV, partK, loadV, Vm.part, fillC, splice, reduceIte, reduceCtorEq, Nat.reduceEqDiff, Nat.reduceAdd, Nat.reduceSub, Nat.reduceMul, Nat.reduceLeDiff, ne_eq, not_false_eq_true, Int.reduceEq, Int.reduceLT, Int.reduceLE, Int.reduceNeg, Int.reduceToNat, Int.reduceGT, Int.reduceGE, Nat.reduceLT, Nat.lt_add_one, Nat.zero_lt_succ, Nat.succ_pos, Nat.zero_le, beq_self_eq_true, Bool.not_true, k_line_Status_1, stO]
end Go.Proofs.YtnfcjeajbjcppaaDoor.Vh
end
section
set_option linter.unusedVariables false
set_option linter.unusedSimpArgs false
namespace Go.Proofs.YtnfcjeajbjcppaaDoor.Vh
open Go.Vm Go.Vt
end Go.Proofs.YtnfcjeajbjcppaaDoor.Vh
end
section
set_option linter.unusedVariables false
set_option linter.unusedSimpArgs false
namespace Go.Proofs.YtnfcjeajbjcppaaDoor.Vh
open Go.Vm Go.Vt
attribute [local congr] wi_congr wg_congr wgd_congr wb_congr wl_congr cf_congr
variable {L : FuncId → List V → V → Prop} {h : Heap}
theorem splitB_app : ∀ {a r : Bs}, (∀ x ∈ a, x ≠ 32) → splitB (a ++ ([32] ++ r)) = a :: splitB r
  | [], r, _ => by
    show splitB (32 :: r) = _
    rw [splitB, if_pos rfl]
  | c :: a, r, h => by
    have ih := splitB_app (a := a) (r := r) (fun x hx => h x (by simp [hx]))
    rw [List.cons_append, splitB, if_neg (h c (by simp)), ih]
theorem splitB_last : ∀ {a : Bs}, (∀ x ∈ a, x ≠ 32) → splitB a = [a]
  | [], _ => rfl
  | c :: a, h => by
    have ih := splitB_last (a := a) (fun x hx => h x (by simp [hx]))
    rw [splitB, if_neg (h c (by simp)), ih]
def joinB : List Bs → Bs
  | [] => []
  | [w] => w
  | w :: x :: r => w ++ ([32] ++ joinB (x :: r))
theorem join_split : ∀ s : Bs, joinB (splitB s) = s
  | [] => rfl
  | c :: r => by
    have ih := join_split r
    have ne := splitB_ne r
    rw [splitB]
    cases hs : splitB r with
    | nil => exact absurd hs ne
    | cons w ws =>
      rw [hs] at ih
      by_cases hc : c = 32
      · rw [if_pos hc]
        show [] ++ ([32] ++ joinB (w :: ws)) = _
        rw [ih, hc]; rfl
      · rw [if_neg hc]
        cases ws with
        | nil =>
          show c :: w = _
          have : w = r := ih
          rw [this]
        | cons x xs =>
          show (c :: w) ++ ([32] ++ joinB (x :: xs)) = _
          have : w ++ ([32] ++ joinB (x :: xs)) = r := ih
          rw [List.cons_append, this]
theorem tok_sp {a : Bs} (h : isTok a = true) : ∀ x ∈ a, x ≠ 32 := by
  intro x hx e
  unfold isTok at h
  rw [Bool.and_eq_true] at h
  have := List.all_eq_true.1 h.2 x hx
  rw [e] at this; revert this; decide
theorem tgt_sp {a : Bs} (h : tgtS a = true) : ∀ x ∈ a, x ≠ 32 := by
  intro x hx e
  unfold tgtS at h
  rw [Bool.and_eq_true] at h
  have := List.all_eq_true.1 h.2 x hx
  rw [e] at this; revert this; decide
theorem vers_of {n : Int} (h : n = 0 ∨ n = 1) : versS ([72, 84, 84, 80, 47, 49, 46] ++ [UInt8.ofNat (48 + n.toNat)]) = n := by
  rcases h with rfl | rfl <;> decide
theorem vers_sp {n : Int} (h : n = 0 ∨ n = 1) : ∀ x ∈ ([72, 84, 84, 80, 47, 49, 46] ++ [UInt8.ofNat (48 + n.toNat)] : Bs), x ≠ 32 := by
  rcases h with rfl | rfl <;> decide
theorem vers_is {c : Bs} (h : 0 ≤ versS c) : (versS c = 0 ∨ versS c = 1) ∧ c = [72, 84, 84, 80, 47, 49, 46] ++ [UInt8.ofNat (48 + (versS c).toNat)] := by
  unfold versS at *
  split
  · rename_i e; exact ⟨.inl rfl, e⟩
  · rename_i e
    rw [if_neg e] at h
    split
    · rename_i e2; exact ⟨.inr rfl, e2⟩
    · rename_i e2; rw [if_neg e2] at h; omega
theorem line_back {s a b : Bs} {m : Int} (h : reqW (splitB s) = some (a, b, m)) : isTok a = true ∧ tgtS b = true ∧ (m = 0 ∨ m = 1) ∧ a ++ [32] ++ b ++ [32] ++ [72, 84, 84, 80, 47, 49, 46] ++ [UInt8.ofNat (48 + m.toNat)] = s := by
  have js := join_split s
  generalize splitB s = W at *
  match W, h with
  | [x, y, z], h =>
    change req3 x y z = _ at h
    unfold req3 at h
    split at h
    · rename_i q
      injection h with h
      injection h with h1 h
      injection h with h2 h3
      subst h1 h2 h3
      obtain ⟨v1, v2⟩ := vers_is q.2.2
      refine ⟨q.1, q.2.1, v1, ?_⟩
      rw [← js]
      show _ = x ++ ([32] ++ (y ++ ([32] ++ z)))
      rw [List.append_assoc _ [72, 84, 84, 80, 47, 49, 46], ← v2]
      simp only [List.append_assoc]
    · cases h
end Go.Proofs.YtnfcjeajbjcppaaDoor.Vh
end
section
set_option linter.unusedVariables false
set_option linter.unusedSimpArgs false
namespace Go.Proofs.YtnfcjeajbjcppaaDoor.Vh
open Go.Vm Go.Vt
attribute [local congr] wi_congr wg_congr wgd_congr wb_congr wl_congr cf_congr
variable {L : FuncId → List V → V → Prop} {h : Heap}
end Go.Proofs.YtnfcjeajbjcppaaDoor.Vh
end
section
set_option linter.unusedVariables false
set_option linter.unusedSimpArgs false
namespace Go.Proofs.YtnfcjeajbjcppaaDoor.Vh
open Go.Vm Go.Vt
attribute [local congr] wi_congr wg_congr wgd_congr wb_congr wl_congr cf_congr
variable {L : FuncId → List V → V → Prop} {h : Heap}
theorem rversion_ok {s : Bs} : Cf F L i_gatepostref03_version [.str s] h (Pu h (.int .i64 (versS s))) := by
  refine run_gatepostref03_version ?_
  simp only [p_gatepostref03_version]
  unfold versS ver0 ver1
  by_cases a : s = [72, 84, 84, 80, 47, 49, 46, 48]
  · have a' : (s == [72, 84, 84, 80, 47, 49, 46, 48]) = true := beq_iff_eq.2 a
    rw [if_pos a]
    simp (maxSteps := 4000000) only [vm, vl, Arg.get, cells, stor, boundO, resultsV, resV, partK, loadV, Vm.part, fillC, splice, reduceIte, reduceCtorEq, Nat.reduceEqDiff, Nat.reduceAdd, Nat.reduceSub, Nat.reduceMul, Nat.reduceLeDiff, ne_eq, not_false_eq_true, Int.reduceEq, Int.reduceLT, Int.reduceLE, Int.reduceNeg, Int.reduceToNat, Int.reduceGT, Int.reduceGE, Nat.reduceLT, Nat.lt_add_one, Nat.zero_lt_succ, Nat.succ_pos, Nat.zero_le, beq_self_eq_true, k_gatepostref03_version_1, k_gatepostref03_version_0, a']
  have a' : (s == [72, 84, 84, 80, 47, 49, 46, 48]) = false := beq_eq_false_iff_ne.2 a
  rw [if_neg a]
  by_cases b : s = [72, 84, 84, 80, 47, 49, 46, 49]
  · have b' : (s == [72, 84, 84, 80, 47, 49, 46, 49]) = true := beq_iff_eq.2 b
    rw [if_pos b]
    simp (maxSteps := 4000000) only [vm, vl, Arg.get, cells, stor, boundO, resultsV, resV, partK, loadV, Vm.part, fillC, splice, reduceIte, reduceCtorEq, Nat.reduceEqDiff, Nat.reduceAdd, Nat.reduceSub, Nat.reduceMul, Nat.reduceLeDiff, ne_eq, not_false_eq_true, Int.reduceEq, Int.reduceLT, Int.reduceLE, Int.reduceNeg, Int.reduceToNat, Int.reduceGT, Int.reduceGE, Nat.reduceLT, Nat.lt_add_one, Nat.zero_lt_succ, Nat.succ_pos, Nat.zero_le, beq_self_eq_true, k_gatepostref03_version_1, k_gatepostref03_version_0, a', b']
  have b' : (s == [72, 84, 84, 80, 47, 49, 46, 49]) = false := beq_eq_false_iff_ne.2 b
  rw [if_neg b]
  simp (maxSteps := 4000000) only [vm, vl, Arg.get, cells, stor, boundO, resultsV, resV, partK, loadV, Vm.part, fillC, splice, reduceIte, reduceCtorEq, Nat.reduceEqDiff, Nat.reduceAdd, Nat.reduceSub, Nat.reduceMul, Nat.reduceLeDiff, ne_eq, not_false_eq_true, Int.reduceEq, Int.reduceLT, Int.reduceLE, Int.reduceNeg, Int.reduceToNat, Int.reduceGT, Int.reduceGE, Nat.reduceLT, Nat.lt_add_one, Nat.zero_lt_succ, Nat.succ_pos, Nat.zero_le, beq_self_eq_true, k_gatepostref03_version_1, k_gatepostref03_version_0, a', b']
def okAt (s : Bs) (i k : Nat) : Prop := i < k ∧ k < s.length ∧ s.getD i 0 = 32 ∧ s.getD k 0 = 32 ∧ isTok (s.take i) = true ∧ tgtS ((s.take k).drop (i + 1)) = true ∧ 0 ≤ versS (s.drop (k + 1))
theorem ok_req {s : Bs} {i k : Nat} (h : okAt s i k) : reqW (splitB s) = some (s.take i, (s.take k).drop (i + 1), versS (s.drop (k + 1))) := by
  obtain ⟨h1, h2, h3, h4, h5, h6, h7⟩ := h
  have one : ∀ j, j < s.length → s.drop j = s.getD j 0 :: s.drop (j + 1) := by
    intro j hj
    rw [List.drop_eq_getElem_cons hj, List.getD_eq_getElem?_getD, List.getElem?_eq_getElem hj]; rfl
  have e2 : (s.take k).drop (i + 1) ++ s.drop k = s.drop (i + 1) := by
    rw [List.drop_take]
    have : s.drop k = (s.drop (i + 1)).drop (k - (i + 1)) := by rw [List.drop_drop]; congr 1; omega
    rw [this, List.take_append_drop]
  have e : s = s.take i ++ ([32] ++ ((s.take k).drop (i + 1) ++ ([32] ++ s.drop (k + 1)))) := by
    have e3 : [32] ++ s.drop (k + 1) = s.drop k := by rw [one k h2, h4]; rfl
    have e4 : [32] ++ s.drop (i + 1) = s.drop i := by rw [one i (by omega), h3]; rfl
    rw [e3, e2, e4, List.take_append_drop]
  obtain ⟨v1, v2⟩ := vers_is h7
  have vs : ∀ x ∈ s.drop (k + 1), x ≠ 32 := by rw [v2]; exact vers_sp v1
  have : splitB s = [s.take i, (s.take k).drop (i + 1), s.drop (k + 1)] := by
    conv => lhs; rw [e]
    rw [splitB_app (tok_sp h5), splitB_app (tgt_sp h6), splitB_last vs]
  rw [this]
  show req3 _ _ _ = _
  unfold req3
  rw [if_pos ⟨h5, h6, h7⟩]
theorem req_ok {s a b : Bs} {m : Int} (h : reqW (splitB s) = some (a, b, m)) : ∃ i k, okAt s i k := by
  obtain ⟨h1, h2, h3, h4⟩ := line_back h
  have e : s = a ++ ([32] ++ (b ++ ([32] ++ ([72, 84, 84, 80, 47, 49, 46] ++ [UInt8.ofNat (48 + m.toNat)])))) := by rw [← h4]; simp only [List.append_assoc]
  have vo := vers_of h3
  generalize ([72, 84, 84, 80, 47, 49, 46] ++ [UInt8.ofNat (48 + m.toNat)] : Bs) = v at *
  clear h4 h
  subst e
  refine ⟨a.length, a.length + 1 + b.length, by omega, ?_, ?_, ?_, ?_, ?_, ?_⟩
  · simp only [List.length_append, List.length_cons, List.length_nil]; omega
  · simp [List.getD_eq_getElem?_getD, List.getElem?_append]
  · have e5 : a ++ ([32] ++ (b ++ ([32] ++ v))) = (a ++ [32] ++ b) ++ ([32] ++ v) := by simp only [List.append_assoc]
    have e6 : (a ++ [32] ++ b).length = a.length + 1 + b.length := by simp only [List.length_append, List.length_cons, List.length_nil]
    rw [e5, ← e6, List.getD_eq_getElem?_getD, List.getElem?_append_right (Nat.le_refl _)]; simp
  · rw [List.take_left' rfl]; exact h1
  · have e5 : a ++ ([32] ++ (b ++ ([32] ++ v))) = (a ++ [32]) ++ (b ++ ([32] ++ v)) := by simp only [List.append_assoc]
    have e6 : (a ++ [32]).length = a.length + 1 := by simp only [List.length_append, List.length_cons, List.length_nil]
    have e7 : a ++ ([32] ++ (b ++ ([32] ++ v))) = ((a ++ [32]) ++ b) ++ ([32] ++ v) := by simp only [List.append_assoc]
    have e8 : ((a ++ [32]) ++ b).length = a.length + 1 + b.length := by rw [List.length_append, e6]
    rw [e7, List.take_left' e8, List.drop_left' e6]; exact h2
  · have e7 : a ++ ([32] ++ (b ++ ([32] ++ v))) = ((a ++ [32]) ++ (b ++ [32])) ++ v := by simp only [List.append_assoc]
    have e8 : ((a ++ [32]) ++ (b ++ [32])).length = a.length + 1 + b.length + 1 := by simp only [List.length_append, List.length_cons, List.length_nil]; omega
    rw [e7, List.drop_left' e8, vo]; omega
theorem req_none {s : Bs} (h : ∀ i k, ¬ okAt s i k) : reqW (splitB s) = none := by
  cases e : reqW (splitB s) with
  | none => rfl
  | some p =>
    obtain ⟨a, b, m⟩ := p
    obtain ⟨i, k, q⟩ := req_ok e
    exact absurd q (h i k)
theorem inner_ok {s : Bs} {i : Nat} {e : Env} {hh : Heap} {N0 : Env → Heap → Prop} {P : V → Heap → Prop} (hs : s.length ≤ 1024) (hi : i < s.length) (h32 : s.getD i 0 = 32) (e0 : e 0 = .str s)
    (hP : ∀ k, okAt s i k → ∀ u, P (.tup [.str (s.take i), .str ((s.take k).drop (i + 1)), .int .i64 (versS (s.drop (k + 1))), .int .i64 0]) (hh ++ u))
    (hN : (∀ k, ¬ okAt s i k) → ∀ e' u, e' 0 = .str s → e' 6 = .int .i64 ((i + 1 : Nat) : Int) → N0 e' (hh ++ u)) (e6 : e 6 = .int .i64 i) :
    k_gatepostref03_Request_4 L P N0 e (.int .i64 i) hh := by
  
  unfold k_gatepostref03_Request_4
  have w1 : IntKind.i64.wrap ((i : Int) + 1) = ((i + 1 : Nat) : Int) := by rw [wrap64 (by omega) (by omega)]; omega
  simp (maxSteps := 4000000) only [vm, vl, Arg.get, cells, stor, boundO, resultsV, resV, partK, loadV, Vm.part, fillC, splice, reduceIte, reduceCtorEq, Nat.reduceEqDiff, Nat.reduceAdd, Nat.reduceSub, Nat.reduceMul, Nat.reduceLeDiff, ne_eq, not_false_eq_true, Int.reduceEq, Int.reduceLT, Int.reduceLE, Int.reduceNeg, Int.reduceToNat, Int.reduceGT, Int.reduceGE, Nat.reduceLT, Nat.lt_add_one, Nat.zero_lt_succ, Nat.succ_pos, Nat.zero_le, beq_self_eq_true, w1]
  refine l_gatepostref03_Request_1 (fun n e h' => ∃ k : Nat, n = s.length - k ∧ i + 1 ≤ k ∧ k ≤ s.length ∧ e 0 = .str s ∧ e 6 = .int .i64 i ∧ e 7 = .int .i64 k ∧ (∃ u, h' = hh ++ u) ∧ ∀ j, j < k → ¬ okAt s i j) ?_ (n := s.length - (i + 1)) ⟨i + 1, rfl, by omega, by omega, by simp [upd, e0], by simp [upd, e6], rfl, ⟨[], by simp⟩, fun j hj q => by have := q.1; omega⟩
  rintro n e h' ⟨k, rfl, hk1, hk, e0, e6, e7, ⟨u, rfl⟩, hn⟩
  simp only [b_gatepostref03_Request_1]
  have w2 : IntKind.i64.wrap ((k : Int) + 1) = ((k + 1 : Nat) : Int) := by rw [wrap64 (by omega) (by omega)]; omega
  by_cases q : k < s.length
  case neg =>
    have q1 : ¬ (k : Int) < s.length := by omega
    simp (maxSteps := 4000000) only [vm, vl, Arg.get, cells, stor, boundO, resultsV, resV, partK, loadV, Vm.part, fillC, splice, reduceIte, reduceCtorEq, Nat.reduceEqDiff, Nat.reduceAdd, Nat.reduceSub, Nat.reduceMul, Nat.reduceLeDiff, ne_eq, not_false_eq_true, Int.reduceEq, Int.reduceLT, Int.reduceLE, Int.reduceNeg, Int.reduceToNat, Int.reduceGT, Int.reduceGE, Nat.reduceLT, Nat.lt_add_one, Nat.zero_lt_succ, Nat.succ_pos, Nat.zero_le, beq_self_eq_true, e0, e6, e7, q1, decide_false, k_gatepostref03_Request_3, w1]
    exact hN (fun j h => by
      rcases Nat.lt_or_ge j k with h1 | h1
      · exact hn j h1 h
      · have := h.2.1; omega) _ _ (by simp [upd, e0]) (by simp [upd])
  have q1 : (k : Int) < s.length := by omega
  have nx : ¬ okAt s i k → ∀ j, j < k + 1 → ¬ okAt s i j := fun hk j hj => by
    rcases Nat.lt_or_ge j k with h1 | h1
    · exact hn j h1
    · rw [show j = k by omega]; exact hk
  by_cases p : s.getD k 0 = 32
  case neg =>
    have p' : ¬ ((s.getD k 0).toNat : Int) = 32 := fun e => p (UInt8.toNat_inj.1 (by have : (32 : UInt8).toNat = 32 := rfl; omega))
    simp (maxSteps := 4000000) only [vm, vl, Arg.get, cells, stor, boundO, resultsV, resV, partK, loadV, Vm.part, fillC, splice, reduceIte, reduceCtorEq, Nat.reduceEqDiff, Nat.reduceAdd, Nat.reduceSub, Nat.reduceMul, Nat.reduceLeDiff, ne_eq, not_false_eq_true, Int.reduceEq, Int.reduceLT, Int.reduceLE, Int.reduceNeg, Int.reduceToNat, Int.reduceGT, Int.reduceGE, Nat.reduceLT, Nat.lt_add_one, Nat.zero_lt_succ, Nat.succ_pos, Nat.zero_le, beq_self_eq_true, e0, e6, e7, q, q1, p', decide_true, decide_false, k_gatepostref03_Request_5, k_gatepostref03_Request_6, w2]
    exact ⟨s.length - (k + 1), by omega, k + 1, rfl, by omega, by omega, rfl, ⟨_, rfl⟩, nx (fun h => p h.2.2.2.1)⟩
  have p' : ((s.getD k 0).toNat : Int) = 32 := by rw [p]; rfl
  have z1 : i ≤ s.length := by omega
  have z2 : (0 : Int) ≤ i := by omega
  have z3 : i + 1 ≤ k := hk1
  have z4 : k ≤ s.length := by omega
  have z5 : (0 : Int) ≤ k := by omega
  have z6 : k + 1 ≤ s.length := by omega
  have I1 := fun hh => rIs_ok (L := L) (h := hh) (s := s.take i) (by rw [List.length_take]; omega)
  have I2 := fun hh => rtarget_ok (L := L) (h := hh) (s := (s.take k).drop (i + 1)) (by rw [List.length_drop, List.length_take]; omega)
  simp (maxSteps := 4000000) only [vm, vl, Arg.get, cells, stor, boundO, resultsV, resV, partK, loadV, Vm.part, fillC, splice, reduceIte, reduceCtorEq, Nat.reduceEqDiff, Nat.reduceAdd, Nat.reduceSub, Nat.reduceMul, Nat.reduceLeDiff, ne_eq, not_false_eq_true, Int.reduceEq, Int.reduceLT, Int.reduceLE, Int.reduceNeg, Int.reduceToNat, Int.reduceGT, Int.reduceGE, Nat.reduceLT, Nat.lt_add_one, Nat.zero_lt_succ, Nat.succ_pos, Nat.zero_le, beq_self_eq_true, e0, e6, e7, q, q1, p', decide_true, k_gatepostref03_Request_5, z1, z2]
  refine Cf.pu (I1 _) fun u1 => ?_
  cases c1 : isTok (s.take i) with
  | false =>
    simp (maxSteps := 4000000) only [vm, vl, Arg.get, cells, stor, boundO, resultsV, resV, partK, loadV, Vm.part, fillC, splice, reduceIte, reduceCtorEq, Nat.reduceEqDiff, Nat.reduceAdd, Nat.reduceSub, Nat.reduceMul, Nat.reduceLeDiff, ne_eq, not_false_eq_true, Int.reduceEq, Int.reduceLT, Int.reduceLE, Int.reduceNeg, Int.reduceToNat, Int.reduceGT, Int.reduceGE, Nat.reduceLT, Nat.lt_add_one, Nat.zero_lt_succ, Nat.succ_pos, Nat.zero_le, beq_self_eq_true, e6, e7, k_gatepostref03_Request_6, w2]
    exact ⟨s.length - (k + 1), by omega, k + 1, rfl, by omega, by omega, e0, rfl, ⟨_, rfl⟩, nx (fun h => by have := h.2.2.2.2.1; rw [c1] at this; cases this)⟩
  | true =>
    simp (maxSteps := 4000000) only [vm, vl, Arg.get, cells, stor, boundO, resultsV, resV, partK, loadV, Vm.part, fillC, splice, reduceIte, reduceCtorEq, Nat.reduceEqDiff, Nat.reduceAdd, Nat.reduceSub, Nat.reduceMul, Nat.reduceLeDiff, ne_eq, not_false_eq_true, Int.reduceEq, Int.reduceLT, Int.reduceLE, Int.reduceNeg, Int.reduceToNat, Int.reduceGT, Int.reduceGE, Nat.reduceLT, Nat.lt_add_one, Nat.zero_lt_succ, Nat.succ_pos, Nat.zero_le, beq_self_eq_true, w1, z2, z3, z4, z5]
    refine Cf.pu (I2 _) fun u2 => ?_
    cases c2 : tgtS ((s.take k).drop (i + 1)) with
    | false =>
      simp (maxSteps := 4000000) only [vm, vl, Arg.get, cells, stor, boundO, resultsV, resV, partK, loadV, Vm.part, fillC, splice, reduceIte, reduceCtorEq, Nat.reduceEqDiff, Nat.reduceAdd, Nat.reduceSub, Nat.reduceMul, Nat.reduceLeDiff, ne_eq, not_false_eq_true, Int.reduceEq, Int.reduceLT, Int.reduceLE, Int.reduceNeg, Int.reduceToNat, Int.reduceGT, Int.reduceGE, Nat.reduceLT, Nat.lt_add_one, Nat.zero_lt_succ, Nat.succ_pos, Nat.zero_le, beq_self_eq_true, e6, e7, k_gatepostref03_Request_6, w2]
      exact ⟨s.length - (k + 1), by omega, k + 1, rfl, by omega, by omega, e0, rfl, ⟨_, rfl⟩, nx (fun h => by have := h.2.2.2.2.2.1; rw [c2] at this; cases this)⟩
    | true =>
      simp (maxSteps := 4000000) only [vm, vl, Arg.get, cells, stor, boundO, resultsV, resV, partK, loadV, Vm.part, fillC, splice, reduceIte, reduceCtorEq, Nat.reduceEqDiff, Nat.reduceAdd, Nat.reduceSub, Nat.reduceMul, Nat.reduceLeDiff, ne_eq, not_false_eq_true, Int.reduceEq, Int.reduceLT, Int.reduceLE, Int.reduceNeg, Int.reduceToNat, Int.reduceGT, Int.reduceGE, Nat.reduceLT, Nat.lt_add_one, Nat.zero_lt_succ, Nat.succ_pos, Nat.zero_le, beq_self_eq_true, w2, z6, z5, List.take_length]
      refine Cf.pu rversion_ok fun u3 => ?_
      by_cases c3 : versS (s.drop (k + 1)) ≥ 0
      · have P1 := hP k ⟨by omega, q, h32, p, c1, c2, c3⟩
        simp (maxSteps := 4000000) only [vm, vl, Arg.get, cells, stor, boundO, resultsV, resV, partK, loadV, Vm.part, fillC, splice, reduceIte, reduceCtorEq, Nat.reduceEqDiff, Nat.reduceAdd, Nat.reduceSub, Nat.reduceMul, Nat.reduceLeDiff, ne_eq, not_false_eq_true, Int.reduceEq, Int.reduceLT, Int.reduceLE, Int.reduceNeg, Int.reduceToNat, Int.reduceGT, Int.reduceGE, Nat.reduceLT, Nat.lt_add_one, Nat.zero_lt_succ, Nat.succ_pos, Nat.zero_le, beq_self_eq_true, c3, decide_true, z1, z2, w1, z3, z4, z5, w2, z6, List.take_length]
        refine Cf.pu rversion_ok fun u4 => ?_
        simp (maxSteps := 4000000) only [vm, vl, Arg.get, cells, stor, boundO, resultsV, resV, partK, loadV, Vm.part, fillC, splice, reduceIte, reduceCtorEq, Nat.reduceEqDiff, Nat.reduceAdd, Nat.reduceSub, Nat.reduceMul, Nat.reduceLeDiff, ne_eq, not_false_eq_true, Int.reduceEq, Int.reduceLT, Int.reduceLE, Int.reduceNeg, Int.reduceToNat, Int.reduceGT, Int.reduceGE, Nat.reduceLT, Nat.lt_add_one, Nat.zero_lt_succ, Nat.succ_pos, Nat.zero_le, beq_self_eq_true]
        exact P1 _
      · simp (maxSteps := 4000000) only [vm, vl, Arg.get, cells, stor, boundO, resultsV, resV, partK, loadV, Vm.part, fillC, splice, reduceIte, reduceCtorEq, Nat.reduceEqDiff, Nat.reduceAdd, Nat.reduceSub, Nat.reduceMul, Nat.reduceLeDiff, ne_eq, not_false_eq_true, Int.reduceEq, Int.reduceLT, Int.reduceLE, Int.reduceNeg, Int.reduceToNat, Int.reduceGT, Int.reduceGE, Nat.reduceLT, Nat.lt_add_one, Nat.zero_lt_succ, Nat.succ_pos, Nat.zero_le, beq_self_eq_true, c3, decide_false, e6, e7, k_gatepostref03_Request_6, w2]
        exact ⟨s.length - (k + 1), by omega, k + 1, rfl, by omega, by omega, e0, rfl, ⟨_, rfl⟩, nx (fun h => c3 h.2.2.2.2.2.2)⟩
theorem rRequest_ok {s : Bs} (hs : s.length ≤ 140737488351232) : Cf F L i_gatepostref03_Request [.str s] h (Pu h (reqRV s)) := by
  refine run_gatepostref03_Request ?_
  simp only [p_gatepostref03_Request]
  
  unfold reqRV
  by_cases c : s.length > 1024
  · have c' : (s.length : Int) > 1024 := by omega
    rw [if_pos c]
    simp (maxSteps := 4000000) only [vm, vl, Arg.get, cells, stor, boundO, resultsV, resV, partK, loadV, Vm.part, fillC, splice, reduceIte, reduceCtorEq, Nat.reduceEqDiff, Nat.reduceAdd, Nat.reduceSub, Nat.reduceMul, Nat.reduceLeDiff, ne_eq, not_false_eq_true, Int.reduceEq, Int.reduceLT, Int.reduceLE, Int.reduceNeg, Int.reduceToNat, Int.reduceGT, Int.reduceGE, Nat.reduceLT, Nat.lt_add_one, Nat.zero_lt_succ, Nat.succ_pos, Nat.zero_le, beq_self_eq_true, c', decide_true]
  have c' : ¬ (s.length : Int) > 1024 := by omega
  rw [if_neg c]
  have oR := fun i k (q : okAt s i k) => ok_req q
  have nR := req_none (s := s)
  generalize reqW (splitB s) = R at *
  simp (maxSteps := 4000000) only [vm, vl, Arg.get, cells, stor, boundO, resultsV, resV, partK, loadV, Vm.part, fillC, splice, reduceIte, reduceCtorEq, Nat.reduceEqDiff, Nat.reduceAdd, Nat.reduceSub, Nat.reduceMul, Nat.reduceLeDiff, ne_eq, not_false_eq_true, Int.reduceEq, Int.reduceLT, Int.reduceLE, Int.reduceNeg, Int.reduceToNat, Int.reduceGT, Int.reduceGE, Nat.reduceLT, Nat.lt_add_one, Nat.zero_lt_succ, Nat.succ_pos, Nat.zero_le, beq_self_eq_true, c', decide_false, k_gatepostref03_Request_0]
  refine l_gatepostref03_Request_0 (fun n e h' => ∃ i : Nat, n = s.length - i ∧ i ≤ s.length ∧ e 0 = .str s ∧ e 6 = .int .i64 i ∧ (∃ u, h' = h ++ u) ∧ ∀ j, j < i → ∀ k, ¬ okAt s j k) ?_ (n := s.length) ⟨0, rfl, by omega, rfl, rfl, ⟨[], by simp⟩, by simp⟩
  rintro n e h' ⟨i, rfl, hi, e0, e6, ⟨u, rfl⟩, hn⟩
  simp only [b_gatepostref03_Request_0]
  by_cases q : i < s.length
  case neg =>
    have q1 : ¬ (i : Int) < s.length := by omega
    rw [nR (fun j k h => by
      rcases Nat.lt_or_ge j i with h1 | h1
      · exact hn j h1 k h
      · have := h.1; have := h.2.1; omega)]
    simp (maxSteps := 4000000) only [vm, vl, Arg.get, cells, stor, boundO, resultsV, resV, partK, loadV, Vm.part, fillC, splice, reduceIte, reduceCtorEq, Nat.reduceEqDiff, Nat.reduceAdd, Nat.reduceSub, Nat.reduceMul, Nat.reduceLeDiff, ne_eq, not_false_eq_true, Int.reduceEq, Int.reduceLT, Int.reduceLE, Int.reduceNeg, Int.reduceToNat, Int.reduceGT, Int.reduceGE, Nat.reduceLT, Nat.lt_add_one, Nat.zero_lt_succ, Nat.succ_pos, Nat.zero_le, beq_self_eq_true, e0, e6, q1, decide_false, k_gatepostref03_Request_1, reqO]
  have q1 : (i : Int) < s.length := by omega
  have w1 : IntKind.i64.wrap ((i : Int) + 1) = ((i + 1 : Nat) : Int) := by rw [wrap64 (by omega) (by omega)]; omega
  have nx : (∀ k, ¬ okAt s i k) → ∀ j, j < i + 1 → ∀ k, ¬ okAt s j k := fun hk j hj => by
    rcases Nat.lt_or_ge j i with h1 | h1
    · exact hn j h1
    · rw [show j = i by omega]; exact hk
  by_cases p : s.getD i 0 = 32
  case neg =>
    have p' : ¬ ((s.getD i 0).toNat : Int) = 32 := fun e => p (UInt8.toNat_inj.1 (by have : (32 : UInt8).toNat = 32 := rfl; omega))
    simp (maxSteps := 4000000) only [vm, vl, Arg.get, cells, stor, boundO, resultsV, resV, partK, loadV, Vm.part, fillC, splice, reduceIte, reduceCtorEq, Nat.reduceEqDiff, Nat.reduceAdd, Nat.reduceSub, Nat.reduceMul, Nat.reduceLeDiff, ne_eq, not_false_eq_true, Int.reduceEq, Int.reduceLT, Int.reduceLE, Int.reduceNeg, Int.reduceToNat, Int.reduceGT, Int.reduceGE, Nat.reduceLT, Nat.lt_add_one, Nat.zero_lt_succ, Nat.succ_pos, Nat.zero_le, beq_self_eq_true, e0, e6, q, q1, p', decide_true, decide_false, Bool.not_false, k_gatepostref03_Request_2, k_gatepostref03_Request_3, w1]
    exact ⟨s.length - (i + 1), by omega, i + 1, rfl, by omega, rfl, ⟨_, rfl⟩, nx (fun k h => p h.2.2.1)⟩
  have p' : ((s.getD i 0).toNat : Int) = 32 := by rw [p]; rfl
  simp (maxSteps := 4000000) only [vm, vl, Arg.get, cells, stor, boundO, resultsV, resV, partK, loadV, Vm.part, fillC, splice, reduceIte, reduceCtorEq, Nat.reduceEqDiff, Nat.reduceAdd, Nat.reduceSub, Nat.reduceMul, Nat.reduceLeDiff, ne_eq, not_false_eq_true, Int.reduceEq, Int.reduceLT, Int.reduceLE, Int.reduceNeg, Int.reduceToNat, Int.reduceGT, Int.reduceGE, Nat.reduceLT, Nat.lt_add_one, Nat.zero_lt_succ, Nat.succ_pos, Nat.zero_le, beq_self_eq_true, e0, e6, q, q1, p', decide_true, Bool.not_true, k_gatepostref03_Request_2]
  refine inner_ok (by omega) q p (by simp [upd, e0]) (fun k hk u' => ?_) (fun hk e' u' e0' e6' => ?_) (by simp [upd, e6])
  · rw [oR i k hk]
    exact ⟨rfl, _, by rw [List.append_assoc]⟩
  · exact ⟨s.length - (i + 1), by omega, i + 1, rfl, by omega, e0', e6', ⟨_, by rw [List.append_assoc]⟩, nx hk⟩
theorem pos_getD {c : UInt8} : ∀ {s : Bs}, pos c s < s.length → s.getD (pos c s) 0 = c
  | [], h => by simp at h
  | x :: r, h => by
    rw [pos_cons] at h ⊢
    by_cases hc : x = c
    · rw [if_pos hc]; exact hc
    · rw [if_neg hc] at h ⊢
      exact pos_getD (by simpa using h)
theorem num_three {d : Bs} (h : d.length = 3) : numS d 1024 = numS d 1000 := by
  match d, h with
  | [a, b, c], _ =>
    unfold numS
    by_cases hd : [a, b, c].all digB = true
    · have h3 := hd
      simp only [List.all_cons, List.all_nil, Bool.and_true, Bool.and_eq_true] at h3
      have d1 := dig_in h3.1
      have d2 := dig_in h3.2.1
      have d3 := dig_in h3.2.2
      rw [hd]
      have g : ∀ most : Int, 999 ≤ most → numG [a, b, c] 0 most = 100 * ((a.toNat : Int) - 48) + 10 * ((b.toNat : Int) - 48) + ((c.toNat : Int) - 48) := by
        intro most hm
        simp only [numG]
        rw [if_neg (by omega), if_neg (by omega), if_neg (by omega)]; omega
      rw [g 1024 (by omega), g 1000 (by omega)]; rfl
    · have : [a, b, c].all digB = false := by cases h : [a, b, c].all digB; rfl; exact absurd h hd
      rw [this]; rfl
def rst (s : Bs) : Option (Int × Int × Bs) :=
  if s.length < 12 ∨ versS (s.take 8) < 0 ∨ s.getD 8 0 ≠ 32 then none
  else if (numS ((s.take 12).drop 9) 1000).2 = false ∨ (numS ((s.take 12).drop 9) 1000).1 < 100 ∨ (numS ((s.take 12).drop 9) 1000).1 > 599 then none
  else if s.length = 12 then some (versS (s.take 8), (numS ((s.take 12).drop 9) 1000).1, [])
  else if s.getD 12 0 ≠ 32 ∨ rsnS (s.drop 13) = false then none
  else some (versS (s.take 8), (numS ((s.take 12).drop 9) 1000).1, s.drop 13)
theorem vers_len {c : Bs} (h : 0 ≤ versS c) : c.length = 8 ∧ ∀ x ∈ c, x ≠ 32 := by
  obtain ⟨v1, v2⟩ := vers_is h
  rw [v2]
  exact ⟨rfl, vers_sp v1⟩
theorem getD_mem {s : Bs} {j : Nat} (h : j < s.length) : s.getD j 0 ∈ s := by
  rw [List.getD_eq_getElem?_getD, List.getElem?_eq_getElem h]; exact List.getElem_mem _
theorem getD_take' {s : Bs} {j k : Nat} (h : j < k) : (s.take k).getD j 0 = s.getD j 0 := by
  simp only [List.getD_eq_getElem?_getD, List.getElem?_take, if_pos h]
theorem st_ref (s : Bs) : stP s = rst s := by
  have pl := pos_le 32 s
  unfold rst
  by_cases A : s.length < 12 ∨ versS (s.take 8) < 0 ∨ s.getD 8 0 ≠ 32
  · rw [if_pos A]
    unfold stP
    simp only
    rw [if_neg]
    rintro ⟨h1, h2, h3, h4, h5, h6⟩
    have f8 := (vers_len h1).1
    rw [List.length_take, Nat.min_eq_left pl] at f8
    rw [f8] at h1 h3
    have ql := pos_le 32 (s.drop (8 + 1))
    rw [List.length_take, Nat.min_eq_left ql] at h3
    rw [List.length_drop] at ql
    have := pos_getD (c := 32) (s := s) (by omega)
    rw [f8] at this
    rcases A with A | A | A
    · omega
    · omega
    · exact A this
  rw [if_neg A]
  have A1 : ¬ s.length < 12 := fun h => A (.inl h)
  have A2 : 0 ≤ versS (s.take 8) := Classical.byContradiction fun h => A (.inr (.inl (by omega)))
  have A3 : s.getD 8 0 = 32 := Classical.byContradiction fun h => A (.inr (.inr h))
  obtain ⟨v8, vn⟩ := vers_len A2
  have p8 : pos 32 s = 8 := pos_at (by omega) (fun j hj => by
    rw [← getD_take' (k := 8) hj]; exact vn _ (getD_mem (by omega))) A3
  have ed : (s.take 12).drop 9 = (s.drop 9).take 3 := by rw [List.drop_take]
  have er : s.drop 13 = (s.drop 9).drop 4 := by rw [List.drop_drop]
  have eg : s.getD 12 0 = (s.drop 9).getD 3 0 := by simp [List.getD_eq_getElem?_getD, List.getElem?_drop]
  have el : (s.drop 9).length = s.length - 9 := List.length_drop
  unfold stP
  simp only [p8]
  rw [ed, er, eg]
  generalize hr : s.drop 9 = rest at *
  have ql := pos_le 32 rest
  have l3 : (rest.take 3).length = 3 := by rw [List.length_take]; omega
  have n3 := num_three l3
  rw [← n3]
  have q3 : ¬ pos 32 rest = 3 → ¬ (rest.take (pos 32 rest)).length = 3 := fun h q => by
    rw [List.length_take, Nat.min_eq_left ql] at q; exact h q
  by_cases B : (numS (rest.take 3) 1024).2 = false ∨ (numS (rest.take 3) 1024).1 < 100 ∨ (numS (rest.take 3) 1024).1 > 599
  · rw [if_pos B, if_neg]
    rintro ⟨h1, h2, h3, h4, h5, h6⟩
    by_cases q : pos 32 rest = 3
    · rw [q] at h2 h4 h5
      rcases B with B | B | B
      · rw [B] at h2; cases h2
      · omega
      · omega
    · exact q3 q h3
  rw [if_neg B]
  have B1 : (numS (rest.take 3) 1024).2 = true := by cases h : (numS (rest.take 3) 1024).2; exact absurd (.inl h) B; rfl
  have B2 : 100 ≤ (numS (rest.take 3) 1024).1 := Classical.byContradiction fun h => B (.inr (.inl (by omega)))
  have B3 : (numS (rest.take 3) 1024).1 ≤ 599 := Classical.byContradiction fun h => B (.inr (.inr (by omega)))
  have dg : (rest.take 3).all digB = true := by
    unfold numS at B1
    split at B1
    · cases B1
    · rename_i q
      simp only [Bool.or_eq_true, Bool.not_eq_true', not_or, Bool.not_eq_false] at q
      exact q.2
  have ns : ∀ j, j < 3 → rest.getD j 0 ≠ 32 := fun j hj e => by
    have m := getD_mem (s := rest.take 3) (j := j) (by omega)
    rw [getD_take' hj, e] at m
    have := List.all_eq_true.1 dg _ m
    revert this; decide
  by_cases c : s.length = 12
  · rw [if_pos c]
    have q : pos 32 rest = 3 := by
      rw [pos_none (fun j hj => ns j (by omega))]; omega
    have r4 : rest.drop 4 = [] := List.drop_eq_nil_of_le (by omega)
    rw [q, r4, if_pos ⟨A2, B1, l3, B2, B3, rfl⟩]
  rw [if_neg c]
  by_cases d : rest.getD 3 0 = 32
  · have q : pos 32 rest = 3 := pos_at (by omega) (fun j hj => ns j hj) d
    rw [q]
    cases e : rsnS (rest.drop 4) with
    | false => rw [if_neg (fun h => by have := h.2.2.2.2.2; first | (cases this; done) | (rw [e] at this; cases this)), if_pos (.inr rfl)]
    | true => rw [if_pos ⟨A2, B1, l3, B2, B3, by first | rfl | exact e⟩, if_neg (fun h => h.elim (fun h => h d) (fun h => by cases h))]
  · rw [if_neg (fun h => by
      refine q3 (fun q => ?_) h.2.2.1
      have := pos_getD (c := 32) (s := rest) (by omega)
      rw [q] at this
      exact d this), if_pos (.inl d)]
theorem rStatus_ok {s : Bs} (hs : s.length ≤ 140737488351232) : Cf F L i_gatepostref03_Status [.str s] h (Pu h (stRV s)) := by
  refine run_gatepostref03_Status ?_
  simp only [p_gatepostref03_Status]
  
  unfold stRV
  by_cases c : s.length > 1024
  · have c' : (s.length : Int) > 1024 := by omega
    rw [if_pos c]
    simp (maxSteps := 4000000) only [vm, vl, Arg.get, cells, stor, boundO, resultsV, resV, partK, loadV, Vm.part, fillC, splice, reduceIte, reduceCtorEq, Nat.reduceEqDiff, Nat.reduceAdd, Nat.reduceSub, Nat.reduceMul, Nat.reduceLeDiff, ne_eq, not_false_eq_true, Int.reduceEq, Int.reduceLT, Int.reduceLE, Int.reduceNeg, Int.reduceToNat, Int.reduceGT, Int.reduceGE, Nat.reduceLT, Nat.lt_add_one, Nat.zero_lt_succ, Nat.succ_pos, Nat.zero_le, beq_self_eq_true, c', decide_true]
  have c' : ¬ (s.length : Int) > 1024 := by omega
  rw [if_neg c, st_ref]
  unfold rst
  by_cases a1 : s.length < 12
  · have a1' : (s.length : Int) < 12 := by omega
    rw [if_pos (.inl a1)]
    simp (maxSteps := 4000000) only [vm, vl, Arg.get, cells, stor, boundO, resultsV, resV, partK, loadV, Vm.part, fillC, splice, reduceIte, reduceCtorEq, Nat.reduceEqDiff, Nat.reduceAdd, Nat.reduceSub, Nat.reduceMul, Nat.reduceLeDiff, ne_eq, not_false_eq_true, Int.reduceEq, Int.reduceLT, Int.reduceLE, Int.reduceNeg, Int.reduceToNat, Int.reduceGT, Int.reduceGE, Nat.reduceLT, Nat.lt_add_one, Nat.zero_lt_succ, Nat.succ_pos, Nat.zero_le, beq_self_eq_true, c', a1', decide_true, decide_false, k_gatepostref03_Status_0, stO]
  have a1' : ¬ (s.length : Int) < 12 := by omega
  have o1 : 8 ≤ s.length := by omega
  have o2 : 8 < s.length := by omega
  have o3 : 12 ≤ s.length := by omega
  simp (maxSteps := 4000000) only [vm, vl, Arg.get, cells, stor, boundO, resultsV, resV, partK, loadV, Vm.part, fillC, splice, reduceIte, reduceCtorEq, Nat.reduceEqDiff, Nat.reduceAdd, Nat.reduceSub, Nat.reduceMul, Nat.reduceLeDiff, ne_eq, not_false_eq_true, Int.reduceEq, Int.reduceLT, Int.reduceLE, Int.reduceNeg, Int.reduceToNat, Int.reduceGT, Int.reduceGE, Nat.reduceLT, Nat.lt_add_one, Nat.zero_lt_succ, Nat.succ_pos, Nat.zero_le, beq_self_eq_true, c', a1', o1, decide_false, k_gatepostref03_Status_0]
  refine Cf.pu rversion_ok fun u1 => ?_
  by_cases a2 : versS (s.take 8) < 0
  · rw [if_pos (.inr (.inl a2))]
    simp (maxSteps := 4000000) only [vm, vl, Arg.get, cells, stor, boundO, resultsV, resV, partK, loadV, Vm.part, fillC, splice, reduceIte, reduceCtorEq, Nat.reduceEqDiff, Nat.reduceAdd, Nat.reduceSub, Nat.reduceMul, Nat.reduceLeDiff, ne_eq, not_false_eq_true, Int.reduceEq, Int.reduceLT, Int.reduceLE, Int.reduceNeg, Int.reduceToNat, Int.reduceGT, Int.reduceGE, Nat.reduceLT, Nat.lt_add_one, Nat.zero_lt_succ, Nat.succ_pos, Nat.zero_le, beq_self_eq_true, a2, decide_true, stO]
  by_cases a3 : s.getD 8 0 = 32
  case neg =>
    have a3' : ¬ ((s.getD 8 0).toNat : Int) = 32 := fun e => a3 (UInt8.toNat_inj.1 (by have : (32 : UInt8).toNat = 32 := rfl; omega))
    rw [if_pos (.inr (.inr a3))]
    simp (maxSteps := 4000000) only [vm, vl, Arg.get, cells, stor, boundO, resultsV, resV, partK, loadV, Vm.part, fillC, splice, reduceIte, reduceCtorEq, Nat.reduceEqDiff, Nat.reduceAdd, Nat.reduceSub, Nat.reduceMul, Nat.reduceLeDiff, ne_eq, not_false_eq_true, Int.reduceEq, Int.reduceLT, Int.reduceLE, Int.reduceNeg, Int.reduceToNat, Int.reduceGT, Int.reduceGE, Nat.reduceLT, Nat.lt_add_one, Nat.zero_lt_succ, Nat.succ_pos, Nat.zero_le, beq_self_eq_true, a2, a3', o2, decide_true, decide_false, Bool.not_false, stO]
  have a3' : ((s.getD 8 0).toNat : Int) = 32 := by rw [a3]; rfl
  rw [if_neg (fun h => h.elim a1 (fun h => h.elim a2 (fun h => h a3)))]
  have N1 := fun hh => rNumber_ok (L := L) (h := hh) (s := (s.take 12).drop 9) (most := 1000) (by rw [List.length_drop, List.length_take]; omega) (by omega) (by omega)
  have RS := fun hh => rreason_ok (L := L) (h := hh) (s := s.drop 13) (by rw [List.length_drop]; omega)
  generalize hD : (s.take 12).drop 9 = D at *
  generalize numS D 1000 = nd at *
  obtain ⟨n, ok⟩ := nd
  simp only at *
  simp (maxSteps := 4000000) only [vm, vl, Arg.get, cells, stor, boundO, resultsV, resV, partK, loadV, Vm.part, fillC, splice, reduceIte, reduceCtorEq, Nat.reduceEqDiff, Nat.reduceAdd, Nat.reduceSub, Nat.reduceMul, Nat.reduceLeDiff, ne_eq, not_false_eq_true, Int.reduceEq, Int.reduceLT, Int.reduceLE, Int.reduceNeg, Int.reduceToNat, Int.reduceGT, Int.reduceGE, Nat.reduceLT, Nat.lt_add_one, Nat.zero_lt_succ, Nat.succ_pos, Nat.zero_le, beq_self_eq_true, a2, a3', o2, o3, hD, decide_true, decide_false, Bool.not_true, k_gatepostref03_Status_1]
  refine Cf.pu (N1 _) fun u2 => ?_
  cases ok with
  | false =>
    rw [if_pos (.inl rfl)]
    simp (maxSteps := 4000000) only [vm, vl, Arg.get, cells, stor, boundO, resultsV, resV, partK, loadV, Vm.part, fillC, splice, reduceIte, reduceCtorEq, Nat.reduceEqDiff, Nat.reduceAdd, Nat.reduceSub, Nat.reduceMul, Nat.reduceLeDiff, ne_eq, not_false_eq_true, Int.reduceEq, Int.reduceLT, Int.reduceLE, Int.reduceNeg, Int.reduceToNat, Int.reduceGT, Int.reduceGE, Nat.reduceLT, Nat.lt_add_one, Nat.zero_lt_succ, Nat.succ_pos, Nat.zero_le, beq_self_eq_true, Bool.not_false, stO]
  | true =>
    by_cases b1 : n < 100
    · rw [if_pos (.inr (.inl b1))]
      simp (maxSteps := 4000000) only [vm, vl, Arg.get, cells, stor, boundO, resultsV, resV, partK, loadV, Vm.part, fillC, splice, reduceIte, reduceCtorEq, Nat.reduceEqDiff, Nat.reduceAdd, Nat.reduceSub, Nat.reduceMul, Nat.reduceLeDiff, ne_eq, not_false_eq_true, Int.reduceEq, Int.reduceLT, Int.reduceLE, Int.reduceNeg, Int.reduceToNat, Int.reduceGT, Int.reduceGE, Nat.reduceLT, Nat.lt_add_one, Nat.zero_lt_succ, Nat.succ_pos, Nat.zero_le, beq_self_eq_true, b1, decide_true, Bool.not_true, stO]
    by_cases b2 : n > 599
    · rw [if_pos (.inr (.inr b2))]
      simp (maxSteps := 4000000) only [vm, vl, Arg.get, cells, stor, boundO, resultsV, resV, partK, loadV, Vm.part, fillC, splice, reduceIte, reduceCtorEq, Nat.reduceEqDiff, Nat.reduceAdd, Nat.reduceSub, Nat.reduceMul, Nat.reduceLeDiff, ne_eq, not_false_eq_true, Int.reduceEq, Int.reduceLT, Int.reduceLE, Int.reduceNeg, Int.reduceToNat, Int.reduceGT, Int.reduceGE, Nat.reduceLT, Nat.lt_add_one, Nat.zero_lt_succ, Nat.succ_pos, Nat.zero_le, beq_self_eq_true, b1, b2, decide_true, decide_false, Bool.not_true, stO]
    rw [if_neg (fun h => h.elim (fun h => by cases h) (fun h => h.elim b1 b2))]
    by_cases b3 : s.length = 12
    · have b3' : (s.length : Int) = 12 := by omega
      rw [if_pos b3]
      simp (maxSteps := 4000000) only [vm, vl, Arg.get, cells, stor, boundO, resultsV, resV, partK, loadV, Vm.part, fillC, splice, reduceIte, reduceCtorEq, Nat.reduceEqDiff, Nat.reduceAdd, Nat.reduceSub, Nat.reduceMul, Nat.reduceLeDiff, ne_eq, not_false_eq_true, Int.reduceEq, Int.reduceLT, Int.reduceLE, Int.reduceNeg, Int.reduceToNat, Int.reduceGT, Int.reduceGE, Nat.reduceLT, Nat.lt_add_one, Nat.zero_lt_succ, Nat.succ_pos, Nat.zero_le, beq_self_eq_true, b1, b2, b3', o1, decide_true, decide_false, Bool.not_true, k_gatepostref03_Status_2]
      refine Cf.pu rversion_ok fun u3 => ?_
      simp (maxSteps := 4000000) only [vm, vl, Arg.get, cells, stor, boundO, resultsV, resV, partK, loadV, Vm.part, fillC, splice, reduceIte, reduceCtorEq, Nat.reduceEqDiff, Nat.reduceAdd, Nat.reduceSub, Nat.reduceMul, Nat.reduceLeDiff, ne_eq, not_false_eq_true, Int.reduceEq, Int.reduceLT, Int.reduceLE, Int.reduceNeg, Int.reduceToNat, Int.reduceGT, Int.reduceGE, Nat.reduceLT, Nat.lt_add_one, Nat.zero_lt_succ, Nat.succ_pos, Nat.zero_le, beq_self_eq_true, stO]
    have b3' : ¬ (s.length : Int) = 12 := by omega
    have o4 : 12 < s.length := by omega
    have o5 : 13 ≤ s.length := by omega
    rw [if_neg b3]
    by_cases b4 : s.getD 12 0 = 32
    case neg =>
      have b4' : ¬ ((s.getD 12 0).toNat : Int) = 32 := fun e => b4 (UInt8.toNat_inj.1 (by have : (32 : UInt8).toNat = 32 := rfl; omega))
      rw [if_pos (.inl b4)]
      simp (maxSteps := 4000000) only [vm, vl, Arg.get, cells, stor, boundO, resultsV, resV, partK, loadV, Vm.part, fillC, splice, reduceIte, reduceCtorEq, Nat.reduceEqDiff, Nat.reduceAdd, Nat.reduceSub, Nat.reduceMul, Nat.reduceLeDiff, ne_eq, not_false_eq_true, Int.reduceEq, Int.reduceLT, Int.reduceLE, Int.reduceNeg, Int.reduceToNat, Int.reduceGT, Int.reduceGE, Nat.reduceLT, Nat.lt_add_one, Nat.zero_lt_succ, Nat.succ_pos, Nat.zero_le, beq_self_eq_true, b1, b2, b3', b4', o4, decide_true, decide_false, Bool.not_true, Bool.not_false, k_gatepostref03_Status_2, k_gatepostref03_Status_3, stO]
    have b4' : ((s.getD 12 0).toNat : Int) = 32 := by rw [b4]; rfl
    simp (maxSteps := 4000000) only [vm, vl, Arg.get, cells, stor, boundO, resultsV, resV, partK, loadV, Vm.part, fillC, splice, reduceIte, reduceCtorEq, Nat.reduceEqDiff, Nat.reduceAdd, Nat.reduceSub, Nat.reduceMul, Nat.reduceLeDiff, ne_eq, not_false_eq_true, Int.reduceEq, Int.reduceLT, Int.reduceLE, Int.reduceNeg, Int.reduceToNat, Int.reduceGT, Int.reduceGE, Nat.reduceLT, Nat.lt_add_one, Nat.zero_lt_succ, Nat.succ_pos, Nat.zero_le, beq_self_eq_true, b1, b2, b3', b4', o4, o5, decide_true, decide_false, Bool.not_true, Bool.not_false, k_gatepostref03_Status_2, k_gatepostref03_Status_3, List.take_length]
    refine Cf.pu (RS _) fun u3 => ?_
    cases e : rsnS (s.drop 13) with
    | false =>
      rw [if_pos (.inr rfl)]
      simp (maxSteps := 4000000) only [vm, vl, Arg.get, cells, stor, boundO, resultsV, resV, partK, loadV, Vm.part, fillC, splice, reduceIte, reduceCtorEq, Nat.reduceEqDiff, Nat.reduceAdd, Nat.reduceSub, Nat.reduceMul, Nat.reduceLeDiff, ne_eq, not_false_eq_true, Int.reduceEq, Int.reduceLT, Int.reduceLE, Int.reduceNeg, Int.reduceToNat, Int.reduceGT, Int.reduceGE, Nat.reduceLT, Nat.lt_add_one, Nat.zero_lt_succ, Nat.succ_pos, Nat.zero_le, beq_self_eq_true, Bool.not_false, stO]
    | true =>
      rw [if_neg (fun h => h.elim (fun h => h b4) (fun h => by cases h))]
      simp (maxSteps := 4000000) only [vm, vl, Arg.get, cells, stor, boundO, resultsV, resV, partK, loadV, Vm.part, fillC, splice, reduceIte, reduceCtorEq, Nat.reduceEqDiff, Nat.reduceAdd, Nat.reduceSub, Nat.reduceMul, Nat.reduceLeDiff, ne_eq, not_false_eq_true, Int.reduceEq, Int.reduceLT, Int.reduceLE, Int.reduceNeg, Int.reduceToNat, Int.reduceGT, Int.reduceGE, Nat.reduceLT, Nat.lt_add_one, Nat.zero_lt_succ, Nat.succ_pos, Nat.zero_le, beq_self_eq_true, Bool.not_true, k_gatepostref03_Status_4, o1, o5, List.take_length]
      refine Cf.pu rversion_ok fun u4 => ?_
      simp (maxSteps := 4000000) only [vm, vl, Arg.get, cells, stor, boundO, resultsV, resV, partK, loadV, Vm.part, fillC, splice, reduceIte, reduceCtorEq, Nat.reduceEqDiff, Nat.reduceAdd, Nat.reduceSub, Nat.reduceMul, Nat.reduceLeDiff, ne_eq, not_false_eq_true, Int.reduceEq, Int.reduceLT, Int.reduceLE, Int.reduceNeg, Int.reduceToNat, Int.reduceGT, Int.reduceGE, Nat.reduceLT, Nat.lt_add_one, Nat.zero_lt_succ, Nat.succ_pos, Nat.zero_le, beq_self_eq_true, stO, o5, List.take_length]
theorem reqRV_tup (s : Bs) : ∃ (a b : Bs) (m e : Int), reqRV s = .tup [.str a, .str b, .int .i64 m, .int .i64 e] := by
  unfold reqRV
  split
  · exact ⟨_, _, _, _, rfl⟩
  · rcases reqW (splitB s) with _ | ⟨a, b, m⟩ <;> exact ⟨_, _, _, _, rfl⟩
theorem stRV_tup (s : Bs) : ∃ (m c : Int) (r : Bs) (e : Int), stRV s = .tup [.int .i64 m, .int .i64 c, .str r, .int .i64 e] := by
  unfold stRV
  split
  · exact ⟨_, _, _, _, rfl⟩
  · rcases stP s with _ | ⟨a, b, m⟩ <;> exact ⟨_, _, _, _, rfl⟩
end Go.Proofs.YtnfcjeajbjcppaaDoor.Vh
end
section
set_option linter.unusedVariables false
set_option linter.unusedSimpArgs false
namespace Go.Proofs.YtnfcjeajbjcppaaDoor.Vh
open Go.Vm Go.Vt
attribute [local congr] wi_congr wg_congr wgd_congr wb_congr wl_congr cf_congr
variable {L : FuncId → List V → V → Prop} {h : Heap}
abbrev Fld := Bs × Bs
def fldV (f : Fld) : V := .agg [.str f.1, .str f.2]
def flds (l : List Fld) : List V := l.map fldV
theorem flds_len (l : List Fld) : (flds l).length = l.length := by simp [flds]
theorem flds_at {l : List Fld} {i : Nat} (hi : i < l.length) : (flds l).getD i (.tup []) = fldV (l.getD i ([], [])) := by
  unfold flds
  rw [List.getD_eq_getElem?_getD, List.getD_eq_getElem?_getD, List.getElem?_map, List.getElem?_eq_getElem hi]; rfl
theorem list_at {α : Type} {l : List α} {i : Nat} (d : α) (hi : i ≤ l.length) : (¬ (i : Int) < l.length ∧ i = l.length ∧ l.drop i = []) ∨ ((i : Int) < l.length ∧ i < l.length ∧ l.drop i = l.getD i d :: l.drop (i + 1) ∧ l.take (i + 1) = l.take i ++ [l.getD i d]) := by
  rcases Nat.lt_or_eq_of_le hi with h | h
  · have e : l.getD i d = l[i] := by rw [List.getD_eq_getElem?_getD, List.getElem?_eq_getElem h, Option.getD_some]
    exact .inr ⟨by omega, h, by rw [e]; exact List.drop_eq_getElem_cons h, by rw [e, List.take_add_one, List.getElem?_eq_getElem h]; rfl⟩
  · exact .inl ⟨by omega, h, by rw [h]; simp⟩
end Go.Proofs.YtnfcjeajbjcppaaDoor.Vh
end
section
set_option linter.unusedVariables false
set_option linter.unusedSimpArgs false
namespace Go.Proofs.YtnfcjeajbjcppaaDoor.Vh
open Go.Vm Go.Vt
attribute [local congr] wi_congr wg_congr wgd_congr wb_congr wl_congr cf_congr
variable {L : FuncId → List V → V → Prop} {h : Heap}
theorem fSame_ok {x y : V} {l m : List Fld} (hx : ListV 2 x (flds l)) (hy : ListV 2 y (flds m)) (hl : l.length < 1000000000) (hm : m.length < 1000000000) :
    Cf F L i_gatepostref04_Same [x, y] h (Pu h (.bool (decide (l = m)))) := by
  refine run_gatepostref04_Same ?_
  simp only [p_gatepostref04_Same]
  have l1 := fun {K : V → Heap → Prop} {h : Heap} => hx.len (F := F) (L := L) (e := E0) (K := K) (h := h)
  have l2 := fun {K : V → Heap → Prop} {h : Heap} => hy.len (F := F) (L := L) (e := E0) (K := K) (h := h)
  simp only [flds_len] at l1 l2
  by_cases hlm : l.length = m.length
  · have hlm' : ((l.length : Nat) : Int) = m.length := by omega
    simp (maxSteps := 4000000) only [vm, vl, Arg.get, cells, stor, boundO, resultsV, resV, partK, loadV, Vm.part, fillC, splice, reduceIte, reduceCtorEq, Nat.reduceEqDiff, Nat.reduceAdd, Nat.reduceSub, Nat.reduceMul, Nat.reduceLeDiff, ne_eq, not_false_eq_true, Int.reduceEq, Int.reduceLT, Int.reduceLE, Int.reduceNeg, Int.reduceToNat, Int.reduceGT, Int.reduceGE, Nat.reduceLT, Nat.lt_add_one, Nat.zero_lt_succ, Nat.succ_pos, Nat.zero_le, beq_self_eq_true, k_gatepostref04_Same_1, k_gatepostref04_Same_3, k_gatepostref04_Same_2, k_gatepostref04_Same_0, l1, l2, hlm']
    refine l_gatepostref04_Same_0 (fun n e h' => ∃ i, n = l.length - i ∧ i ≤ l.length ∧ e 0 = x ∧ e 1 = y ∧ e 5 = .int .i64 i ∧ l.take i = m.take i ∧ ∃ t, h' = h ++ t) ?_ (n := l.length) ⟨0, by simp, by simp, rfl, rfl, rfl, by simp, [], by simp⟩
    rintro n e h' ⟨i, rfl, hi, e0, e1, e5, ht, t, rfl⟩
    simp only [b_gatepostref04_Same_0]
    rcases list_at ([], []) hi with ⟨hn, rfl, hd⟩ | ⟨hl1, hl2, hd, htk⟩
    · have he : l = m := by rwa [List.take_of_length_le (Nat.le_refl _), List.take_of_length_le (by omega)] at ht
      have d : decide (l = m) = true := by simpa using he
      simp (maxSteps := 4000000) only [vm, vl, Arg.get, cells, stor, boundO, resultsV, resV, partK, loadV, Vm.part, fillC, splice, reduceIte, reduceCtorEq, Nat.reduceEqDiff, Nat.reduceAdd, Nat.reduceSub, Nat.reduceMul, Nat.reduceLeDiff, ne_eq, not_false_eq_true, Int.reduceEq, Int.reduceLT, Int.reduceLE, Int.reduceNeg, Int.reduceToNat, Int.reduceGT, Int.reduceGE, Nat.reduceLT, Nat.lt_add_one, Nat.zero_lt_succ, Nat.succ_pos, Nat.zero_le, beq_self_eq_true, k_gatepostref04_Same_1, k_gatepostref04_Same_3, k_gatepostref04_Same_2, k_gatepostref04_Same_0, e0, e1, e5, l1, hn, d]
    · have w := wrap64 (x := (i : Int) + 1) (by omega) (by omega)
      obtain ⟨o1, rfl⟩ : ∃ o, x = .sl 2 o (flds l) := by
        rcases hx with ⟨he, _⟩ | hx
        · have := congrArg List.length he; rw [flds_len] at this; simp only [List.length_nil] at this; omega
        · exact hx
      obtain ⟨o2, rfl⟩ : ∃ o, y = .sl 2 o (flds m) := by
        rcases hy with ⟨he, _⟩ | hy
        · have := congrArg List.length he; rw [flds_len] at this; simp only [List.length_nil] at this; omega
        · exact hy
      have z1 : (0 : Int) ≤ i := by omega
      have z2 : i < m.length := by omega
      have a1 := flds_at hl2
      have a2 := flds_at (l := m) (i := i) (by omega)
      obtain ⟨_, hm2, _⟩ | ⟨hm1, hm2, _, htm⟩ := list_at (l := m) (i := i) ([], []) (by omega)
      · omega
      have hne : l.getD i ([], []) ≠ m.getD i ([], []) → decide (l = m) = false := by
        intro hh; simp only [decide_eq_false_iff_not]; rintro rfl; exact hh rfl
      have heq : l.getD i ([], []) = m.getD i ([], []) → l.take (i + 1) = m.take (i + 1) := by intro hh; rw [htk, htm, ht, hh]
      generalize hf : l.getD i ([], []) = f at *
      generalize hg : m.getD i ([], []) = g at *
      simp (maxSteps := 4000000) only [vm, vl, Arg.get, cells, stor, boundO, resultsV, resV, partK, loadV, Vm.part, fillC, splice, reduceIte, reduceCtorEq, Nat.reduceEqDiff, Nat.reduceAdd, Nat.reduceSub, Nat.reduceMul, Nat.reduceLeDiff, ne_eq, not_false_eq_true, Int.reduceEq, Int.reduceLT, Int.reduceLE, Int.reduceNeg, Int.reduceToNat, Int.reduceGT, Int.reduceGE, Nat.reduceLT, Nat.lt_add_one, Nat.zero_lt_succ, Nat.succ_pos, Nat.zero_le, beq_self_eq_true, k_gatepostref04_Same_1, k_gatepostref04_Same_3, k_gatepostref04_Same_2, k_gatepostref04_Same_0, e0, e1, e5, l1, hl1, Int.toNat_natCast, z1, z2, hl2, flds_len, a1, a2, fldV, w]
      cases q1 : (f.1 == g.1) with
      | true =>
        cases q2 : (f.2 == g.2) with
        | true =>
          simp (maxSteps := 4000000) only [vm, vl, Arg.get, cells, stor, boundO, resultsV, resV, partK, loadV, Vm.part, fillC, splice, reduceIte, reduceCtorEq, Nat.reduceEqDiff, Nat.reduceAdd, Nat.reduceSub, Nat.reduceMul, Nat.reduceLeDiff, ne_eq, not_false_eq_true, Int.reduceEq, Int.reduceLT, Int.reduceLE, Int.reduceNeg, Int.reduceToNat, Int.reduceGT, Int.reduceGE, Nat.reduceLT, Nat.lt_add_one, Nat.zero_lt_succ, Nat.succ_pos, Nat.zero_le, beq_self_eq_true, k_gatepostref04_Same_1, k_gatepostref04_Same_3, k_gatepostref04_Same_2, k_gatepostref04_Same_0, q1, q2, Int.toNat_natCast, z1, z2, hl2, flds_len, a1, a2, and_self, true_and, fldV, w, Bool.not_true, Bool.not_false]
          exact ⟨l.length - (i + 1), by omega, i + 1, rfl, hl2, rfl, heq (Prod.ext (eq_of_beq q1) (eq_of_beq q2)), t, rfl⟩
        | false =>
          have d := hne (fun hh => by rw [hh] at q2; simp at q2)
          simp (maxSteps := 4000000) only [vm, vl, Arg.get, cells, stor, boundO, resultsV, resV, partK, loadV, Vm.part, fillC, splice, reduceIte, reduceCtorEq, Nat.reduceEqDiff, Nat.reduceAdd, Nat.reduceSub, Nat.reduceMul, Nat.reduceLeDiff, ne_eq, not_false_eq_true, Int.reduceEq, Int.reduceLT, Int.reduceLE, Int.reduceNeg, Int.reduceToNat, Int.reduceGT, Int.reduceGE, Nat.reduceLT, Nat.lt_add_one, Nat.zero_lt_succ, Nat.succ_pos, Nat.zero_le, beq_self_eq_true, k_gatepostref04_Same_1, k_gatepostref04_Same_3, k_gatepostref04_Same_2, k_gatepostref04_Same_0, q1, q2, d, Int.toNat_natCast, z1, z2, hl2, flds_len, a1, a2, and_self, true_and, fldV, w, Bool.not_true, Bool.not_false]
      | false =>
        have d := hne (fun hh => by rw [hh] at q1; simp at q1)
        simp (maxSteps := 4000000) only [vm, vl, Arg.get, cells, stor, boundO, resultsV, resV, partK, loadV, Vm.part, fillC, splice, reduceIte, reduceCtorEq, Nat.reduceEqDiff, Nat.reduceAdd, Nat.reduceSub, Nat.reduceMul, Nat.reduceLeDiff, ne_eq, not_false_eq_true, Int.reduceEq, Int.reduceLT, Int.reduceLE, Int.reduceNeg, Int.reduceToNat, Int.reduceGT, Int.reduceGE, Nat.reduceLT, Nat.lt_add_one, Nat.zero_lt_succ, Nat.succ_pos, Nat.zero_le, beq_self_eq_true, k_gatepostref04_Same_1, k_gatepostref04_Same_3, k_gatepostref04_Same_2, k_gatepostref04_Same_0, q1, d, Int.toNat_natCast, z1, z2, hl2, flds_len, a1, a2, and_self, true_and, fldV, w, Bool.not_true, Bool.not_false]
  · have hlm' : ¬ ((l.length : Nat) : Int) = m.length := by omega
    have d : decide (l = m) = false := by simp only [decide_eq_false_iff_not]; rintro rfl; exact hlm rfl
    simp (maxSteps := 4000000) only [vm, vl, Arg.get, cells, stor, boundO, resultsV, resV, partK, loadV, Vm.part, fillC, splice, reduceIte, reduceCtorEq, Nat.reduceEqDiff, Nat.reduceAdd, Nat.reduceSub, Nat.reduceMul, Nat.reduceLeDiff, ne_eq, not_false_eq_true, Int.reduceEq, Int.reduceLT, Int.reduceLE, Int.reduceNeg, Int.reduceToNat, Int.reduceGT, Int.reduceGE, Nat.reduceLT, Nat.lt_add_one, Nat.zero_lt_succ, Nat.succ_pos, Nat.zero_le, beq_self_eq_true, k_gatepostref04_Same_1, k_gatepostref04_Same_3, k_gatepostref04_Same_2, k_gatepostref04_Same_0, l1, l2, hlm', d]
end Go.Proofs.YtnfcjeajbjcppaaDoor.Vh
end
section
set_option linter.unusedVariables false
set_option linter.unusedSimpArgs false
namespace Go.Proofs.YtnfcjeajbjcppaaDoor.Vh
open Go.Vm Go.Vt
attribute [local congr] wi_congr wg_congr wgd_congr wb_congr wl_congr cf_congr
variable {L : FuncId → List V → V → Prop} {h : Heap}
end Go.Proofs.YtnfcjeajbjcppaaDoor.Vh
end
section
set_option linter.unusedVariables false
set_option linter.unusedSimpArgs false
namespace Go.Proofs.YtnfcjeajbjcppaaDoor.Vh
open Go.Vm Go.Vt
attribute [local congr] wi_congr wg_congr wgd_congr wb_congr wl_congr cf_congr
variable {L : FuncId → List V → V → Prop} {h : Heap}
/-- What Split comes to: a list, or none. -/
def SplitP (h : Heap) (o : Option (List Bs)) (v : V) (h' : Heap) : Prop := (∃ t, h' = h ++ t) ∧ ((o = none ∧ v = .tup [.nsl, .bool false]) ∨ ∃ out x, o = some out ∧ v = .tup [x, .bool true] ∧ ListV 1 x (strs out))
theorem SplitP.no {h h' : Heap} (hh : ∃ t, h' = h ++ t) : SplitP h none (.tup [.nsl, .bool false]) h' := ⟨hh, .inl ⟨rfl, rfl⟩⟩
theorem SplitP.yes {h h' : Heap} {x : V} {out : List Bs} (hh : ∃ t, h' = h ++ t) (hl : ListV 1 x (strs out)) : SplitP h (some out) (.tup [x, .bool true]) h' := ⟨hh, .inr ⟨out, x, rfl, rfl, hl⟩⟩
end Go.Proofs.YtnfcjeajbjcppaaDoor.Vh
end
section
set_option linter.unusedVariables false
set_option linter.unusedSimpArgs false
namespace Go.Proofs.YtnfcjeajbjcppaaDoor.Vh
open Go.Vm Go.Vt
attribute [local congr] wi_congr wg_congr wgd_congr wb_congr wl_congr cf_congr
variable {L : FuncId → List V → V → Prop} {h : Heap}
/-- A byte's first place; the length where it is not. -/
def valF (f : Fld) : Bool := isTok f.1 && isVal f.2
def parseF (s : Bs) : Option Fld := if pos 58 s < s.length ∧ valF (s.take (pos 58 s), trim (s.drop (pos 58 s + 1))) = true then some (s.take (pos 58 s), trim (s.drop (pos 58 s + 1))) else none
def parseV : Option Fld → V
  | some f => .tup [fldV f, .int .i64 0]
  | none => .tup [fldV ([], []), .int .i64 31]
theorem fine_ok {f : Fld} (h1 : f.1.length < 9223372036854775807) (h2 : f.2.length < 9223372036854775807) : Cf F L i_field_fine [fldV f] h (Pu h (.bool (valF f))) := by
  refine run_field_fine ?_
  simp only [p_field_fine]
  simp (maxSteps := 4000000) only [vm, vl, Arg.get, cells, stor, boundO, resultsV, resV, partK, loadV, Vm.part, fillC, splice, reduceIte, reduceCtorEq, Nat.reduceEqDiff, Nat.reduceAdd, Nat.reduceSub, Nat.reduceMul, Nat.reduceLeDiff, ne_eq, not_false_eq_true, Int.reduceEq, Int.reduceLT, Int.reduceLE, Int.reduceNeg, Int.reduceToNat, Int.reduceGT, Int.reduceGE, Nat.reduceLT, Nat.lt_add_one, Nat.zero_lt_succ, Nat.succ_pos, Nat.zero_le, beq_self_eq_true, fldV]
  refine Cf.pu (Is_ok h1) fun t => ?_
  cases q : isTok f.1 with
  | true =>
    simp (maxSteps := 4000000) only [vm, vl, Arg.get, cells, stor, boundO, resultsV, resV, partK, loadV, Vm.part, fillC, splice, reduceIte, reduceCtorEq, Nat.reduceEqDiff, Nat.reduceAdd, Nat.reduceSub, Nat.reduceMul, Nat.reduceLeDiff, ne_eq, not_false_eq_true, Int.reduceEq, Int.reduceLT, Int.reduceLE, Int.reduceNeg, Int.reduceToNat, Int.reduceGT, Int.reduceGE, Nat.reduceLT, Nat.lt_add_one, Nat.zero_lt_succ, Nat.succ_pos, Nat.zero_le, beq_self_eq_true]
    refine Cf.pu (Value_ok h2) fun t => ?_
    simp (maxSteps := 4000000) only [vm, vl, Arg.get, cells, stor, boundO, resultsV, resV, partK, loadV, Vm.part, fillC, splice, reduceIte, reduceCtorEq, Nat.reduceEqDiff, Nat.reduceAdd, Nat.reduceSub, Nat.reduceMul, Nat.reduceLeDiff, ne_eq, not_false_eq_true, Int.reduceEq, Int.reduceLT, Int.reduceLE, Int.reduceNeg, Int.reduceToNat, Int.reduceGT, Int.reduceGE, Nat.reduceLT, Nat.lt_add_one, Nat.zero_lt_succ, Nat.succ_pos, Nat.zero_le, beq_self_eq_true, valF, q, Bool.true_and]
  | false => simp (maxSteps := 4000000) only [vm, vl, Arg.get, cells, stor, boundO, resultsV, resV, partK, loadV, Vm.part, fillC, splice, reduceIte, reduceCtorEq, Nat.reduceEqDiff, Nat.reduceAdd, Nat.reduceSub, Nat.reduceMul, Nat.reduceLeDiff, ne_eq, not_false_eq_true, Int.reduceEq, Int.reduceLT, Int.reduceLE, Int.reduceNeg, Int.reduceToNat, Int.reduceGT, Int.reduceGE, Nat.reduceLT, Nat.lt_add_one, Nat.zero_lt_succ, Nat.succ_pos, Nat.zero_le, beq_self_eq_true, valF, q, Bool.false_and]
theorem Parse_ok {s : Bs} (HI : IndexOk L) (hs : s.length < 100000) : Cf F L i_field_Parse [.str s] h (Pu h (parseV (parseF s))) := by
  refine run_field_Parse ?_
  simp only [p_field_Parse]
  simp (maxSteps := 4000000) only [vm, vl, Arg.get, cells, stor, boundO, resultsV, resV, partK, loadV, Vm.part, fillC, splice, reduceIte, reduceCtorEq, Nat.reduceEqDiff, Nat.reduceAdd, Nat.reduceSub, Nat.reduceMul, Nat.reduceLeDiff, ne_eq, not_false_eq_true, Int.reduceEq, Int.reduceLT, Int.reduceLE, Int.reduceNeg, Int.reduceToNat, Int.reduceGT, Int.reduceGE, Nat.reduceLT, Nat.lt_add_one, Nat.zero_lt_succ, Nat.succ_pos, Nat.zero_le, beq_self_eq_true, k_field_Parse_0]
  refine Cf.pu (Cut_ok HI (by omega)) fun t => ?_
  unfold cutS
  simp (maxSteps := 4000000) only [vm, vl, Arg.get, cells, stor, boundO, resultsV, resV, partK, loadV, Vm.part, fillC, splice, reduceIte, reduceCtorEq, Nat.reduceEqDiff, Nat.reduceAdd, Nat.reduceSub, Nat.reduceMul, Nat.reduceLeDiff, ne_eq, not_false_eq_true, Int.reduceEq, Int.reduceLT, Int.reduceLE, Int.reduceNeg, Int.reduceToNat, Int.reduceGT, Int.reduceGE, Nat.reduceLT, Nat.lt_add_one, Nat.zero_lt_succ, Nat.succ_pos, Nat.zero_le, beq_self_eq_true, k_field_Parse_0]
  have hd : (s.drop (pos 58 s + 1)).length ≤ s.length := by rw [List.length_drop]; omega
  have ht := trim_length (s.drop (pos 58 s + 1))
  have hk : (s.take (pos 58 s)).length ≤ s.length := by rw [List.length_take]; omega
  refine Cf.pu (Trim_ok (by omega)) fun t => ?_
  by_cases hp : pos 58 s < s.length
  · have d : decide (pos 58 s < s.length) = true := by simpa using hp
    simp (maxSteps := 4000000) only [vm, vl, Arg.get, cells, stor, boundO, resultsV, resV, partK, loadV, Vm.part, fillC, splice, reduceIte, reduceCtorEq, Nat.reduceEqDiff, Nat.reduceAdd, Nat.reduceSub, Nat.reduceMul, Nat.reduceLeDiff, ne_eq, not_false_eq_true, Int.reduceEq, Int.reduceLT, Int.reduceLE, Int.reduceNeg, Int.reduceToNat, Int.reduceGT, Int.reduceGE, Nat.reduceLT, Nat.lt_add_one, Nat.zero_lt_succ, Nat.succ_pos, Nat.zero_le, beq_self_eq_true, k_field_Parse_0, d, Bool.not_true]
    have hf := fun {h : Heap} => fine_ok (L := L) (h := h) (f := (s.take (pos 58 s), trim (s.drop (pos 58 s + 1)))) (by show List.length (List.take _ _) < _; omega) (by show List.length (trim _) < _; omega)
    simp only [fldV] at hf
    refine Cf.pu hf fun t => ?_
    cases q : valF (s.take (pos 58 s), trim (s.drop (pos 58 s + 1))) with
    | true =>
      have e : parseF s = some (s.take (pos 58 s), trim (s.drop (pos 58 s + 1))) := by unfold parseF; rw [if_pos ⟨hp, q⟩]
      rw [e]
      simp (maxSteps := 4000000) only [vm, vl, Arg.get, cells, stor, boundO, resultsV, resV, partK, loadV, Vm.part, fillC, splice, reduceIte, reduceCtorEq, Nat.reduceEqDiff, Nat.reduceAdd, Nat.reduceSub, Nat.reduceMul, Nat.reduceLeDiff, ne_eq, not_false_eq_true, Int.reduceEq, Int.reduceLT, Int.reduceLE, Int.reduceNeg, Int.reduceToNat, Int.reduceGT, Int.reduceGE, Nat.reduceLT, Nat.lt_add_one, Nat.zero_lt_succ, Nat.succ_pos, Nat.zero_le, beq_self_eq_true, k_field_Parse_0, parseV, fldV, Bool.not_true]
    | false =>
      have e : parseF s = none := by unfold parseF; rw [if_neg (by rintro ⟨_, h⟩; rw [q] at h; cases h)]
      rw [e]
      simp (maxSteps := 4000000) only [vm, vl, Arg.get, cells, stor, boundO, resultsV, resV, partK, loadV, Vm.part, fillC, splice, reduceIte, reduceCtorEq, Nat.reduceEqDiff, Nat.reduceAdd, Nat.reduceSub, Nat.reduceMul, Nat.reduceLeDiff, ne_eq, not_false_eq_true, Int.reduceEq, Int.reduceLT, Int.reduceLE, Int.reduceNeg, Int.reduceToNat, Int.reduceGT, Int.reduceGE, Nat.reduceLT, Nat.lt_add_one, Nat.zero_lt_succ, Nat.succ_pos, Nat.zero_le, beq_self_eq_true, k_field_Parse_0, parseV, fldV, Bool.not_false]
  · have d : decide (pos 58 s < s.length) = false := by simpa using hp
    have e : parseF s = none := by unfold parseF; rw [if_neg (by rintro ⟨h, _⟩; exact hp h)]
    rw [e]
    simp (maxSteps := 4000000) only [vm, vl, Arg.get, cells, stor, boundO, resultsV, resV, partK, loadV, Vm.part, fillC, splice, reduceIte, reduceCtorEq, Nat.reduceEqDiff, Nat.reduceAdd, Nat.reduceSub, Nat.reduceMul, Nat.reduceLeDiff, ne_eq, not_false_eq_true, Int.reduceEq, Int.reduceLT, Int.reduceLE, Int.reduceNeg, Int.reduceToNat, Int.reduceGT, Int.reduceGE, Nat.reduceLT, Nat.lt_add_one, Nat.zero_lt_succ, Nat.succ_pos, Nat.zero_le, beq_self_eq_true, k_field_Parse_0, d, Bool.not_false, parseV, fldV]
end Go.Proofs.YtnfcjeajbjcppaaDoor.Vh
end
section
set_option linter.unusedVariables false
set_option linter.unusedSimpArgs false
namespace Go.Proofs.YtnfcjeajbjcppaaDoor.Vh
open Go.Vm Go.Vt
attribute [local congr] wi_congr wg_congr wgd_congr wb_congr wl_congr cf_congr
variable {L : FuncId → List V → V → Prop} {h : Heap}
theorem u58 {c : UInt8} : ((c.toNat : Int) = 58) = (c = 58) := propext ⟨fun h => by
  have h2 : c.toNat = (58 : UInt8).toNat := by rw [show (58 : UInt8).toNat = 58 from rfl]; omega
  exact UInt8.toNat_inj.1 h2, fun h => by rw [h]; rfl⟩
theorem rParse0_ok {s : Bs} {h0 : Heap} {i : Nat} (hs : s.length < 100000) (hi : i ≤ s.length) (hj : ∀ j, j < i → s.getD j 0 ≠ 58) (hc : i = s.length ∨ (i < s.length ∧ s.getD i 0 = 58)) (hh : ∃ t, h0 = h ++ [O.box [.str [], .str []]] ++ t) :
    k_gatepostref04_Parse_0 L (Pu h (parseV (parseF s))) (.str s) (.ptr h.length 0) (.int .i64 i) h0 := by
  obtain ⟨t, rfl⟩ := hh
  
  have hk : (s.take i).length ≤ s.length := by rw [List.length_take]; omega
  have hd : (s.drop (i + 1)).length ≤ s.length := by rw [List.length_drop]; omega
  have ht := trim_length (s.drop (i + 1))
  rcases hc with rfl | ⟨hlt, hc⟩
  · have e : pos 58 s = s.length := pos_none hj
    have e2 : parseF s = none := by unfold parseF; rw [if_neg (by rintro ⟨h, _⟩; omega)]
    rw [e2]
    have d : decide ((s.length : Int) = s.length) = true := by simp
    simp (maxSteps := 4000000) only [vm, vl, Arg.get, cells, stor, boundO, resultsV, resV, partK, loadV, Vm.part, fillC, splice, reduceIte, reduceCtorEq, Nat.reduceEqDiff, Nat.reduceAdd, Nat.reduceSub, Nat.reduceMul, Nat.reduceLeDiff, ne_eq, not_false_eq_true, Int.reduceEq, Int.reduceLT, Int.reduceLE, Int.reduceNeg, Int.reduceToNat, Int.reduceGT, Int.reduceGE, Nat.reduceLT, Nat.lt_add_one, Nat.zero_lt_succ, Nat.succ_pos, Nat.zero_le, beq_self_eq_true, k_gatepostref04_Parse_2, k_gatepostref04_Parse_1, k_gatepostref04_Parse_0, k_gatepostref04_Parse_3, d, parseV, fldV]
  · have e : pos 58 s = i := pos_at hlt hj hc
    have d : ¬ ((i : Int) = s.length) := by omega
    have g0 : (0 : Int) ≤ i := by omega
    have g1 : i ≤ s.length := hi
    simp (maxSteps := 4000000) only [vm, vl, Arg.get, cells, stor, boundO, resultsV, resV, partK, loadV, Vm.part, fillC, splice, reduceIte, reduceCtorEq, Nat.reduceEqDiff, Nat.reduceAdd, Nat.reduceSub, Nat.reduceMul, Nat.reduceLeDiff, ne_eq, not_false_eq_true, Int.reduceEq, Int.reduceLT, Int.reduceLE, Int.reduceNeg, Int.reduceToNat, Int.reduceGT, Int.reduceGE, Nat.reduceLT, Nat.lt_add_one, Nat.zero_lt_succ, Nat.succ_pos, Nat.zero_le, beq_self_eq_true, k_gatepostref04_Parse_2, k_gatepostref04_Parse_1, k_gatepostref04_Parse_0, k_gatepostref04_Parse_3, d, g0, g1, Int.toNat_natCast, List.drop_zero]
    refine Cf.pu (rIs_ok (by omega)) fun t1 => ?_
    cases q : isTok (s.take i) with
    | false =>
      have e2 : parseF s = none := by unfold parseF; rw [if_neg (by rintro ⟨_, h⟩; rw [e, valF] at h; rw [show isTok (List.take i s) = false from q] at h; cases h)]
      rw [e2]
      simp (maxSteps := 4000000) only [vm, vl, Arg.get, cells, stor, boundO, resultsV, resV, partK, loadV, Vm.part, fillC, splice, reduceIte, reduceCtorEq, Nat.reduceEqDiff, Nat.reduceAdd, Nat.reduceSub, Nat.reduceMul, Nat.reduceLeDiff, ne_eq, not_false_eq_true, Int.reduceEq, Int.reduceLT, Int.reduceLE, Int.reduceNeg, Int.reduceToNat, Int.reduceGT, Int.reduceGE, Nat.reduceLT, Nat.lt_add_one, Nat.zero_lt_succ, Nat.succ_pos, Nat.zero_le, beq_self_eq_true, k_gatepostref04_Parse_2, k_gatepostref04_Parse_1, k_gatepostref04_Parse_0, k_gatepostref04_Parse_3, Bool.not_false, parseV, fldV]
    | true =>
      have w : IntKind.i64.wrap ((i : Int) + 1) = ((i + 1 : Nat) : Int) := by rw [wrap64 (by omega) (by omega)]; omega
      have g2 : i + 1 ≤ s.length := hlt
      have g3 : (0 : Int) ≤ ((i + 1 : Nat) : Int) := by omega
      have g4 : List.take s.length s = s := List.take_of_length_le (Nat.le_refl _)
      simp (maxSteps := 4000000) only [vm, vl, Arg.get, cells, stor, boundO, resultsV, resV, partK, loadV, Vm.part, fillC, splice, reduceIte, reduceCtorEq, Nat.reduceEqDiff, Nat.reduceAdd, Nat.reduceSub, Nat.reduceMul, Nat.reduceLeDiff, ne_eq, not_false_eq_true, Int.reduceEq, Int.reduceLT, Int.reduceLE, Int.reduceNeg, Int.reduceToNat, Int.reduceGT, Int.reduceGE, Nat.reduceLT, Nat.lt_add_one, Nat.zero_lt_succ, Nat.succ_pos, Nat.zero_le, beq_self_eq_true, k_gatepostref04_Parse_2, k_gatepostref04_Parse_1, k_gatepostref04_Parse_0, k_gatepostref04_Parse_3, Bool.not_true, w, g2, g3, g4, Int.toNat_natCast]
      refine Cf.pu (rTrim_ok (by omega)) fun t2 => ?_
      refine Cf.pu (rValue_ok (by omega)) fun t3 => ?_
      cases q2 : isVal (trim (s.drop (i + 1))) with
      | true =>
        have e2 : parseF s = some (s.take i, trim (s.drop (i + 1))) := by unfold parseF; rw [e, if_pos ⟨hlt, by simp only [valF, q, q2, Bool.and_self]⟩]
        rw [e2]
        simp (maxSteps := 4000000) only [vm, vl, Arg.get, cells, stor, boundO, resultsV, resV, partK, loadV, Vm.part, fillC, splice, reduceIte, reduceCtorEq, Nat.reduceEqDiff, Nat.reduceAdd, Nat.reduceSub, Nat.reduceMul, Nat.reduceLeDiff, ne_eq, not_false_eq_true, Int.reduceEq, Int.reduceLT, Int.reduceLE, Int.reduceNeg, Int.reduceToNat, Int.reduceGT, Int.reduceGE, Nat.reduceLT, Nat.lt_add_one, Nat.zero_lt_succ, Nat.succ_pos, Nat.zero_le, beq_self_eq_true, k_gatepostref04_Parse_2, k_gatepostref04_Parse_1, k_gatepostref04_Parse_0, k_gatepostref04_Parse_3, Bool.not_true, g0, g1, Int.toNat_natCast, List.drop_zero, parseV, fldV]
      | false =>
        have e2 : parseF s = none := by unfold parseF; rw [e, if_neg (by rintro ⟨_, h⟩; simp only [valF, q2, Bool.and_false] at h; cases h)]
        rw [e2]
        simp (maxSteps := 4000000) only [vm, vl, Arg.get, cells, stor, boundO, resultsV, resV, partK, loadV, Vm.part, fillC, splice, reduceIte, reduceCtorEq, Nat.reduceEqDiff, Nat.reduceAdd, Nat.reduceSub, Nat.reduceMul, Nat.reduceLeDiff, ne_eq, not_false_eq_true, Int.reduceEq, Int.reduceLT, Int.reduceLE, Int.reduceNeg, Int.reduceToNat, Int.reduceGT, Int.reduceGE, Nat.reduceLT, Nat.lt_add_one, Nat.zero_lt_succ, Nat.succ_pos, Nat.zero_le, beq_self_eq_true, k_gatepostref04_Parse_2, k_gatepostref04_Parse_1, k_gatepostref04_Parse_0, k_gatepostref04_Parse_3, Bool.not_false, parseV, fldV]
theorem rParse_ok {s : Bs} (hs : s.length < 100000) : Cf F L i_gatepostref04_Parse [.str s] h (Pu h (parseV (parseF s))) := by
  refine run_gatepostref04_Parse ?_
  simp only [p_gatepostref04_Parse]
  
  simp (maxSteps := 4000000) only [vm, vl, Arg.get, cells, stor, boundO, resultsV, resV, partK, loadV, Vm.part, fillC, splice, reduceIte, reduceCtorEq, Nat.reduceEqDiff, Nat.reduceAdd, Nat.reduceSub, Nat.reduceMul, Nat.reduceLeDiff, ne_eq, not_false_eq_true, Int.reduceEq, Int.reduceLT, Int.reduceLE, Int.reduceNeg, Int.reduceToNat, Int.reduceGT, Int.reduceGE, Nat.reduceLT, Nat.lt_add_one, Nat.zero_lt_succ, Nat.succ_pos, Nat.zero_le, beq_self_eq_true]
  refine l_gatepostref04_Parse_0 (fun n e h' => ∃ i, n = s.length - i ∧ i ≤ s.length ∧ e 0 = .str s ∧ e 2 = .ptr h.length 0 ∧ e 4 = .int .i64 i ∧ (∃ t, h' = h ++ [O.box [.str [], .str []]] ++ t) ∧ ∀ j, j < i → s.getD j 0 ≠ 58) ?_ (n := s.length) ⟨0, by simp, by simp, rfl, rfl, rfl, ⟨[], by simp⟩, by simp⟩
  rintro n e h' ⟨i, rfl, hi, e0, e2, e4, hh, hj⟩
  simp only [b_gatepostref04_Parse_0]
  rcases Nat.lt_or_eq_of_le hi with hlt | rfl
  · have hl : (i : Int) < s.length := by omega
    have g0 : (0 : Int) ≤ i := by omega
    have w := wrap64 (x := (i : Int) + 1) (by omega) (by omega)
    by_cases hc : s.getD i 0 = 58
    · have d : (((s.getD i 0).toNat : Int) = 58) = True := by rw [u58]; exact eq_true hc
      simp (maxSteps := 4000000) only [vm, vl, Arg.get, cells, stor, boundO, resultsV, resV, partK, loadV, Vm.part, fillC, splice, reduceIte, reduceCtorEq, Nat.reduceEqDiff, Nat.reduceAdd, Nat.reduceSub, Nat.reduceMul, Nat.reduceLeDiff, ne_eq, not_false_eq_true, Int.reduceEq, Int.reduceLT, Int.reduceLE, Int.reduceNeg, Int.reduceToNat, Int.reduceGT, Int.reduceGE, Nat.reduceLT, Nat.lt_add_one, Nat.zero_lt_succ, Nat.succ_pos, Nat.zero_le, beq_self_eq_true, e0, e2, e4, hl, g0, hlt, Int.toNat_natCast, d, not_true_eq_false, decide_false]
      exact rParse0_ok hs hi hj (.inr ⟨hlt, hc⟩) hh
    · have d : (((s.getD i 0).toNat : Int) = 58) = False := by rw [u58]; exact eq_false hc
      
      simp (maxSteps := 4000000) only [vm, vl, Arg.get, cells, stor, boundO, resultsV, resV, partK, loadV, Vm.part, fillC, splice, reduceIte, reduceCtorEq, Nat.reduceEqDiff, Nat.reduceAdd, Nat.reduceSub, Nat.reduceMul, Nat.reduceLeDiff, ne_eq, not_false_eq_true, Int.reduceEq, Int.reduceLT, Int.reduceLE, Int.reduceNeg, Int.reduceToNat, Int.reduceGT, Int.reduceGE, Nat.reduceLT, Nat.lt_add_one, Nat.zero_lt_succ, Nat.succ_pos, Nat.zero_le, beq_self_eq_true, k_gatepostref04_Parse_2, k_gatepostref04_Parse_1, k_gatepostref04_Parse_0, k_gatepostref04_Parse_3, e0, e2, e4, hl, g0, hlt, Int.toNat_natCast, d, w, not_false_eq_true, decide_true]
      refine ⟨s.length - (i + 1), by omega, i + 1, rfl, hlt, rfl, by simpa using hh, ?_⟩
      intro j hj'
      rcases Nat.lt_or_ge j i with h1 | h1
      · exact hj j h1
      · have : j = i := by omega
        subst this; exact hc
  · have hn : ¬ (s.length : Int) < s.length := by omega
    
    simp (maxSteps := 4000000) only [vm, vl, Arg.get, cells, stor, boundO, resultsV, resV, partK, loadV, Vm.part, fillC, splice, reduceIte, reduceCtorEq, Nat.reduceEqDiff, Nat.reduceAdd, Nat.reduceSub, Nat.reduceMul, Nat.reduceLeDiff, ne_eq, not_false_eq_true, Int.reduceEq, Int.reduceLT, Int.reduceLE, Int.reduceNeg, Int.reduceToNat, Int.reduceGT, Int.reduceGE, Nat.reduceLT, Nat.lt_add_one, Nat.zero_lt_succ, Nat.succ_pos, Nat.zero_le, beq_self_eq_true, e0, e2, e4, hn]
    exact rParse0_ok hs hi hj (.inl rfl) hh
end Go.Proofs.YtnfcjeajbjcppaaDoor.Vh
end
section
set_option linter.unusedVariables false
set_option linter.unusedSimpArgs false
namespace Go.Proofs.YtnfcjeajbjcppaaDoor.Vh
open Go.Vm Go.Vt
attribute [local congr] wi_congr wg_congr wgd_congr wb_congr wl_congr cf_congr
variable {L : FuncId → List V → V → Prop} {h : Heap}
structure HS where
  taken : Nat
  own : Bs
  begun : Bool
  done : Bool
  e : Int
  q : V × V × V
  p : V × V × V
  fs : List Fld
def parts4 : V → (V × V × V) × Int
  | .tup [a, b, c, .int _ e] => ((a, b, c), e)
  | _ => ((.str [], .str [], .str []), 0)
def firstP (ans : Bool) (s : Bs) : (V × V × V) × Int := parts4 (if ans then stRV s else reqRV s)
def parF (s : Bs) : Fld := (parseF s).getD ([], [])
def parE (s : Bs) : Int := if (parseF s).isSome then 0 else 31
def endS (ans : Bool) (s : Bs) (st : HS) : HS :=
  if st.begun = false then (if s = [] then st else { st with begun := true, e := (firstP ans s).2, q := if ans then st.q else (firstP ans s).1, p := if ans then (firstP ans s).1 else st.p })
  else if s = [] then { st with done := true }
  else if st.fs.length = 64 then { st with e := 3 }
  else { st with e := parE s, fs := st.fs ++ [parF s] }
def cutE (b : Bs) : Bs := if b.length > 0 ∧ b.getD (b.length - 1) 0 = 13 then b.take (b.length - 1) else b
def cutL (b : Bs) : Bs := cutE (b.take (b.length - 1))
def takeS (ans : Bool) (c : UInt8) (st : HS) : HS :=
  if st.taken + 1 > 8192 ∨ (st.begun = false ∧ st.own.length + 1 > 1026) then { st with taken := st.taken + 1, own := st.own ++ [c], e := 3 }
  else if c ≠ 10 then { st with taken := st.taken + 1, own := st.own ++ [c] }
  else endS ans (cutL (st.own ++ [c])) { st with taken := st.taken + 1, own := [] }
def feedS (ans : Bool) : Bs → HS → Nat × HS
  | [], st => (0, st)
  | c :: r, st => if st.e = 0 ∧ st.done = false then ((feedS ans r (takeS ans c st)).1 + 1, (feedS ans r (takeS ans c st)).2) else (0, st)
structure HOk (st : HS) : Prop where
  own : st.own.length ≤ st.taken
  fs : st.fs.length ≤ 64
  run : st.e = 0 → st.taken ≤ 8192
  max : st.taken ≤ 8193
  dn : st.done = true → st.e = 0
theorem parseV_form (s : Bs) : parseV (parseF s) = .tup [fldV (parF s), .int .i64 (parE s)] := by
  unfold parF parE
  cases parseF s <;> rfl
theorem firstP_req (s : Bs) : ∃ a b m, firstP false s = ((.str a, .str b, .int .i64 m), (firstP false s).2) ∧ reqRV s = .tup [.str a, .str b, .int .i64 m, .int .i64 (firstP false s).2] := by
  obtain ⟨a, b, m, e, h⟩ := reqRV_tup s
  refine ⟨a, b, m, ?_, ?_⟩ <;> simp only [firstP, Bool.false_eq_true, if_false, h, parts4]
theorem firstP_res (s : Bs) : ∃ m c r, firstP true s = ((.int .i64 m, .int .i64 c, .str r), (firstP true s).2) ∧ stRV s = .tup [.int .i64 m, .int .i64 c, .str r, .int .i64 (firstP true s).2] := by
  obtain ⟨a, b, m, e, h⟩ := stRV_tup s
  refine ⟨a, b, m, ?_, ?_⟩ <;> simp only [firstP, if_true, h, parts4]
theorem endS_ok {ans : Bool} {s : Bs} {st : HS} (h : HOk st) (he : st.e = 0) (hd : st.done = false) (hf : st.taken ≤ 8192) : HOk (endS ans s st) := by
  unfold endS
  split
  · split
    · exact h
    · exact ⟨h.own, h.fs, fun _ => hf, h.max, fun hh => by rw [hd] at hh; cases hh⟩
  · split
    · exact ⟨h.own, h.fs, fun _ => hf, h.max, fun _ => he⟩
    · split
      · exact ⟨h.own, h.fs, fun hh => by simp at hh, h.max, fun hh => by rw [hd] at hh; cases hh⟩
      · rename_i hn
        exact ⟨h.own, by have := h.fs; simp; omega, fun _ => hf, h.max, fun hh => by rw [hd] at hh; cases hh⟩
theorem takeS_ok {ans : Bool} {c : UInt8} {st : HS} (h : HOk st) (he : st.e = 0) (hd : st.done = false) : HOk (takeS ans c st) := by
  have h1 := h.run he
  have h2 := h.own
  unfold takeS
  split
  · exact ⟨by simp; omega, h.fs, fun hh => by simp at hh, by simp; omega, fun hh => by simp only at hh; rw [hd] at hh; cases hh⟩
  · rename_i hn
    have h3 : st.taken + 1 ≤ 8192 := Classical.byContradiction fun hh => hn (.inl (by omega))
    split
    · exact ⟨by simp; omega, h.fs, fun _ => h3, by simp; omega, fun hh => by simp only at hh; rw [hd] at hh; cases hh⟩
    · exact endS_ok ⟨by simp, h.fs, fun _ => h3, by simp only; omega, fun hh => by simp only at hh; rw [hd] at hh; cases hh⟩ he hd h3
theorem cutE_len (b : Bs) : (cutE b).length ≤ b.length := by
  unfold cutE; split
  · rw [List.length_take]; omega
  · exact Nat.le_refl _
theorem cutL_len (b : Bs) : (cutL b).length ≤ b.length := Nat.le_trans (cutE_len _) (by rw [List.length_take]; omega)
end Go.Proofs.YtnfcjeajbjcppaaDoor.Vh
end
section
set_option linter.unusedVariables false
set_option linter.unusedSimpArgs false
namespace Go.Proofs.YtnfcjeajbjcppaaDoor.Vh
open Go.Vm Go.Vt
attribute [local congr] wi_congr wg_congr wgd_congr wb_congr wl_congr cf_congr
variable {L : FuncId → List V → V → Prop} {h : Heap}
def OwnV (h : Heap) (v : V) (S : Nat → Prop) (own : Bs) : Prop :=
  (v = .nsl ∧ own = []) ∨ ∃ k cs, v = .hsl 1 k own.length ∧ h[k]? = some (.box cs) ∧ own.length ≤ cs.length ∧ cs.take own.length = own.map ofByte ∧ S k
def FlsV (h : Heap) (v : V) (S : Nat → Prop) (fs : List Fld) : Prop :=
  (v = .nsl ∧ fs = []) ∨ ∃ k, v = .sl 2 (.tip k) (flds fs) ∧ h[k]? = some (.tip (flat (flds fs)).length) ∧ S k
def growS (S : Nat → Prop) (a b : Nat) : Nat → Prop := fun i => S i ∨ (a ≤ i ∧ i < b)
/-- All but what is S's stays. -/
def Fr (S : Nat → Prop) (h h' : Heap) : Prop := h.length ≤ h'.length ∧ ∀ i x, h[i]? = some x → ¬ S i → h'[i]? = some x
theorem lt_of_get {h : Heap} {i : Nat} {x : O} (g : h[i]? = some x) : i < h.length := (List.getElem?_eq_some_iff.1 g).1
theorem Fr.trans {S : Nat → Prop} {h h1 h2 : Heap} (a : Fr S h h1) (b : Fr (growS S h.length h1.length) h1 h2) : Fr S h h2 :=
  ⟨Nat.le_trans a.1 b.1, fun i x g hn => b.2 i x (a.2 i x g hn) fun hs => hs.elim hn fun hs => by have := lt_of_get g; omega⟩
theorem Fr.refl {S : Nat → Prop} {h : Heap} : Fr S h h := ⟨Nat.le_refl _, fun _ _ g _ => g⟩
theorem Fr.app {S : Nat → Prop} {h t : Heap} : Fr S h (h ++ t) := ⟨by simp, fun _ _ g _ => get_old g⟩
theorem Fr.set {S : Nat → Prop} {h : Heap} {k : Nat} {x : O} (hk : S k) : Fr S h (h.set k x) := ⟨by simp, fun i y g hn => by
  rw [List.getElem?_set, if_neg (fun hh => hn (by rw [← hh]; exact hk))]; exact g⟩
theorem Fr.mono {S T : Nat → Prop} {h h' : Heap} (hs : ∀ i, S i → T i) (a : Fr S h h') : Fr T h h' := ⟨a.1, fun i x g hn => a.2 i x g fun hh => hn (hs i hh)⟩
theorem OwnV.mono {S T : Nat → Prop} {h h' : Heap} {v : V} {own : Bs} (g : OwnV h v S own) (hs : ∀ i, S i → T i) (hh : ∀ i cs, h[i]? = some (.box cs) → S i → h'[i]? = some (.box cs)) : OwnV h' v T own := by
  rcases g with g | ⟨k, cs, h1, h2, h3, h4, h5⟩
  · exact .inl g
  · exact .inr ⟨k, cs, h1, hh k _ h2 h5, h3, h4, hs k h5⟩
theorem FlsV.mono {S T : Nat → Prop} {h h' : Heap} {v : V} {fs : List Fld} (g : FlsV h v S fs) (hs : ∀ i, S i → T i) (hh : ∀ i n, h[i]? = some (.tip n) → S i → h'[i]? = some (.tip n)) : FlsV h' v T fs := by
  rcases g with g | ⟨k, h1, h2, h5⟩
  · exact .inl g
  · exact .inr ⟨k, h1, hh k _ h2 h5, hs k h5⟩
/-- A byte more. -/
theorem own_app {S : Nat → Prop} {v : V} {own : Bs} {c : UInt8} (g : OwnV h v S own) (hl : own.length < 100000) :
    ∃ v' h', appV h 1 1 true v (.sl 1 .full [.int .u8 c.toNat]) = some (v', h') ∧ (∃ cs, v' = .hsl 1 h.length (own.length + 1) ∧ h'[h.length]? = some (.box cs) ∧ cs = (own ++ [c]).map ofByte) ∧ h'.length = h.length + 1 ∧ ∀ i x, h[i]? = some x → ¬ (S i ∧ ∃ cs, x = .box cs) → h'[i]? = some x := by
  rcases g with ⟨rfl, rfl⟩ | ⟨k, cs, rfl, h2, h3, h4, h5⟩
  · refine ⟨.hsl 1 h.length 1, h ++ [.box [ofByte c]], rfl, ⟨_, rfl, by simp, rfl⟩, by simp, fun i x g _ => get_old g⟩
  · have r : room (own.length + 1) 1 = true := by simp [room]; omega
    refine ⟨.hsl 1 h.length (own.length + 1), h.set k .dead ++ [.box (cs.take own.length ++ [ofByte c])], ?_, ⟨cs.take own.length ++ [ofByte c], rfl, ?_, ?_⟩, by simp, fun i x g hn => ?_⟩
    · simp only [appV, srcElems, if_true, Option.bind_some, List.length_singleton, r, and_self, h2, if_pos h3]
      rfl
    · rw [List.getElem?_append_right (by simp)]; simp
    · rw [h4]; simp
    · refine get_old ?_
      rw [List.getElem?_set]
      split
      · rename_i hk
        subst hk
        exact absurd ⟨h5, cs, Option.some.inj (g.symm.trans h2)⟩ hn
      · exact g
/-- A field more. -/
theorem fls_app {S : Nat → Prop} {v : V} {fs : List Fld} {f : Fld} (g : FlsV h v S fs) (hl : fs.length ≤ 100) :
    ∃ v' h', appV h 2 32 false v (.sl 2 .full [fldV f]) = some (v', h') ∧ FlsV h' v' (growS S h.length h'.length) (fs ++ [f]) ∧ h.length ≤ h'.length ∧ ∀ i x, h[i]? = some x → ¬ (S i ∧ ∃ n, x = .tip n) → h'[i]? = some x := by
  rcases g with ⟨rfl, rfl⟩ | ⟨k, rfl, h2, h5⟩
  · exact ⟨.sl 2 (.tip h.length) [fldV f], h ++ [.tip 2], rfl, .inr ⟨h.length, rfl, by simp; rfl, .inr (by simp)⟩, by simp, fun i x g _ => get_old g⟩
  · have hfl : flds (fs ++ [f]) = flds fs ++ [fldV f] := by simp [flds]
    have hln := flds_len fs
    have r : room ((flds fs).length + 1) 32 = true := by simp [room, hln]; omega
    have i : isTip h k (flat (flds fs)).length = true := by simp [isTip, h2]
    refine ⟨.sl 2 (.tip k) (flds fs ++ [fldV f]), h.set k (.tip (flat (flds fs ++ [fldV f])).length), ?_, .inr ⟨k, by rw [hfl], by rw [hfl, List.getElem?_set_self (lt_of_get h2)], .inl h5⟩, by simp, fun i x g hn => ?_⟩
    · simp only [appV, srcElems, if_true, Option.bind_some, List.length_singleton, r, i, Bool.and_self]
    · rw [List.getElem?_set]
      split
      · rename_i hk
        subst hk
        exact absurd ⟨h5, _, Option.some.inj (g.symm.trans h2)⟩ hn
      · exact g
theorem toBytes_map : ∀ l : Bs, toBytesL (l.map ofByte) = some l
  | [] => rfl
  | b :: r => by
    simp only [List.map_cons, toBytesL, toBytes_map r]
    simp [toByte, ofByte]
theorem take_map (l : Bs) (n : Nat) : (l.map ofByte).take n = (l.take n).map ofByte := (List.map_take).symm
theorem box_take {cs : List V} {own : Bs} {n : Nat} (h1 : cs.take own.length = own.map ofByte) (hn : n ≤ own.length) : cs.take n = (own.take n).map ofByte := by
  rw [← take_map, ← h1, List.take_take, Nat.min_eq_left hn]
theorem box_get {cs : List V} {own : Bs} {n : Nat} (h1 : cs.take own.length = own.map ofByte) (hn : n < own.length) : cs[n]? = some (.int .u8 (own.getD n 0).toNat) := by
  have h2 : (cs.take own.length)[n]? = (own.map ofByte)[n]? := by rw [h1]
  rw [List.getElem?_take, if_pos hn] at h2
  rw [h2, List.getElem?_map, List.getElem?_eq_getElem hn, List.getD_eq_getElem?_getD, List.getElem?_eq_getElem hn]
  rfl
/-- The text of a line's bytes. -/
theorem str_own {k n : Nat} {cs : List V} {own : Bs} (h1 : h[k]? = some (.box cs)) (h2 : own.length ≤ cs.length) (h3 : cs.take own.length = own.map ofByte) (hn : n ≤ own.length) : stepI (.toStr (.c (.hsl 1 k n))) E0 h = some (.str (own.take n), h) := by
  simp only [stepI, Arg.get, srcElems, h1, and_self, if_true]
  rw [if_pos (by omega)]
  simp only [Option.bind_some, box_take h3 hn, toBytes_map, Option.map_some]
theorem cut_ok {k : Nat} {cs : List V} {own : Bs} (h1 : h[k]? = some (.box cs)) (h2 : own.length ≤ cs.length) (h3 : cs.take own.length = own.map ofByte) (hl : own.length < 100000) (h0 : 0 < own.length) :
    Cf F L i_head_cut [.hsl 1 k own.length] h (Pu h (.str (cutL own))) := by
  refine run_head_cut ?_
  simp only [p_head_cut]
  
  obtain ⟨m, hm⟩ : ∃ m, own.length = m + 1 := ⟨own.length - 1, by omega⟩
  have w1 := wrap64 (x := ((m + 1 : Nat) : Int) - 1) (by omega) (by omega)
  rw [show ((m + 1 : Nat) : Int) - 1 = (m : Int) by omega] at w1
  have e1 : ((m + 1 : Nat) : Int) - 1 = (m : Int) := by omega
  have i1 : (0 : Int) ≤ (m : Int) := by omega
  have i2 : m ≤ m + 1 := by omega
  have hcl : cutL own = cutE (own.take m) := by unfold cutL; rw [hm]; rfl
  have htl : (own.take m).length = m := by rw [List.length_take]; omega
  simp (maxSteps := 4000000) only [vm, vl, Arg.get, cells, stor, boundO, resultsV, resV, partK, loadV, Vm.part, fillC, splice, reduceIte, reduceCtorEq, Nat.reduceEqDiff, Nat.reduceAdd, Nat.reduceSub, Nat.reduceMul, Nat.reduceLeDiff, ne_eq, not_false_eq_true, Int.reduceEq, Int.reduceLT, Int.reduceLE, Int.reduceNeg, Int.reduceToNat, Int.reduceGT, Int.reduceGE, Nat.reduceLT, Nat.lt_add_one, Nat.zero_lt_succ, Nat.succ_pos, Nat.zero_le, beq_self_eq_true, hm, e1, w1, i1, i2, slslV, not_true_eq_false, not_false_eq_true, Int.toNat_natCast]
  by_cases c : m = 0
  · subst c
    have hh : cutL own = own.take 0 := by rw [hcl]; rfl
    simp (maxSteps := 4000000) only [vm, vl, Arg.get, cells, stor, boundO, resultsV, resV, partK, loadV, Vm.part, fillC, splice, reduceIte, reduceCtorEq, Nat.reduceEqDiff, Nat.reduceAdd, Nat.reduceSub, Nat.reduceMul, Nat.reduceLeDiff, ne_eq, not_false_eq_true, Int.reduceEq, Int.reduceLT, Int.reduceLE, Int.reduceNeg, Int.reduceToNat, Int.reduceGT, Int.reduceGE, Nat.reduceLT, Nat.lt_add_one, Nat.zero_lt_succ, Nat.succ_pos, Nat.zero_le, beq_self_eq_true, k_head_cut_0]
    rw [str_own h1 h2 h3 (by omega)]
    exact ⟨by rw [hh], [], by simp⟩
  · obtain ⟨q, rfl⟩ : ∃ q, m = q + 1 := ⟨m - 1, by omega⟩
    have w2 := wrap64 (x := ((q + 1 : Nat) : Int) - 1) (by omega) (by omega)
    rw [show ((q + 1 : Nat) : Int) - 1 = (q : Int) by omega] at w2
    have e2 : ((q + 1 : Nat) : Int) - 1 = (q : Int) := by omega
    have c2 : ((q + 1 : Nat) : Int) > 0 := by omega
    have i3 : (0 : Int) ≤ (q : Int) := by omega
    have i4 : q < q + 1 := by omega
    have i5 : q ≤ q + 1 := by omega
    have g1 : cs.getD q (.tup []) = .int .u8 (own.getD q 0).toNat := by rw [List.getD_eq_getElem?_getD, box_get (n := q) h3 (by omega)]; rfl
    have g2 : q + 1 ≤ cs.length := by omega
    simp (maxSteps := 4000000) only [vm, vl, Arg.get, cells, stor, boundO, resultsV, resV, partK, loadV, Vm.part, fillC, splice, reduceIte, reduceCtorEq, Nat.reduceEqDiff, Nat.reduceAdd, Nat.reduceSub, Nat.reduceMul, Nat.reduceLeDiff, ne_eq, not_false_eq_true, Int.reduceEq, Int.reduceLT, Int.reduceLE, Int.reduceNeg, Int.reduceToNat, Int.reduceGT, Int.reduceGE, Nat.reduceLT, Nat.lt_add_one, Nat.zero_lt_succ, Nat.succ_pos, Nat.zero_le, beq_self_eq_true, c2, decide_true, e2, w2, i3, i4, i5, slslV, not_true_eq_false, not_false_eq_true, Int.toNat_natCast, h1, g1, g2]
    have hb : (own.take (q + 1)).getD q 0 = own.getD q 0 := by
      rw [List.getD_eq_getElem?_getD, List.getD_eq_getElem?_getD, List.getElem?_take, if_pos (by omega)]
    have hce : cutL own = if own.getD q 0 = 13 then own.take q else own.take (q + 1) := by
      rw [hcl]
      unfold cutE
      rw [htl, Nat.add_sub_cancel, hb]
      by_cases c3 : own.getD q 0 = 13
      · rw [if_pos ⟨by omega, c3⟩, if_pos c3, List.take_take, Nat.min_eq_left (by omega)]
      · rw [if_neg (fun hh => c3 hh.2), if_neg c3]
    have b13 : (((own.getD q 0).toNat : Int) = 13) = (own.getD q 0 = 13) := propext ⟨fun hh => by
      apply UInt8.toNat_inj.1
      have : (own.getD q 0).toNat = 13 := by omega
      rw [this]; rfl, fun hh => by rw [hh]; rfl⟩
    by_cases c3 : own.getD q 0 = 13
    · rw [if_pos c3] at hce
      have d3 := decide_eq_true (b13.mpr c3)
      simp (maxSteps := 4000000) only [vm, vl, Arg.get, cells, stor, boundO, resultsV, resV, partK, loadV, Vm.part, fillC, splice, reduceIte, reduceCtorEq, Nat.reduceEqDiff, Nat.reduceAdd, Nat.reduceSub, Nat.reduceMul, Nat.reduceLeDiff, ne_eq, not_false_eq_true, Int.reduceEq, Int.reduceLT, Int.reduceLE, Int.reduceNeg, Int.reduceToNat, Int.reduceGT, Int.reduceGE, Nat.reduceLT, Nat.lt_add_one, Nat.zero_lt_succ, Nat.succ_pos, Nat.zero_le, beq_self_eq_true, d3, e2, w2, i3, i5, slslV, not_true_eq_false, not_false_eq_true, Int.toNat_natCast, k_head_cut_0]
      rw [str_own h1 h2 h3 (by omega)]
      exact ⟨by rw [hce], [], by simp⟩
    · rw [if_neg c3] at hce
      have d3 := decide_eq_false (fun hh => c3 (b13.mp hh))
      simp (maxSteps := 4000000) only [vm, vl, Arg.get, cells, stor, boundO, resultsV, resV, partK, loadV, Vm.part, fillC, splice, reduceIte, reduceCtorEq, Nat.reduceEqDiff, Nat.reduceAdd, Nat.reduceSub, Nat.reduceMul, Nat.reduceLeDiff, ne_eq, not_false_eq_true, Int.reduceEq, Int.reduceLT, Int.reduceLE, Int.reduceNeg, Int.reduceToNat, Int.reduceGT, Int.reduceGE, Nat.reduceLT, Nat.lt_add_one, Nat.zero_lt_succ, Nat.succ_pos, Nat.zero_le, beq_self_eq_true, d3, k_head_cut_0]
      rw [str_own h1 h2 h3 (by omega)]
      exact ⟨by rw [hce], [], by simp⟩
end Go.Proofs.YtnfcjeajbjcppaaDoor.Vh
end
section
set_option linter.unusedVariables false
set_option linter.unusedSimpArgs false
namespace Go.Proofs.YtnfcjeajbjcppaaDoor.Vh
open Go.Vm Go.Vt
attribute [local congr] wi_congr wg_congr wgd_congr wb_congr wl_congr cf_congr
variable {L : FuncId → List V → V → Prop} {h : Heap} {kr kc : Nat} {f b1 b2 b3 e4 t5 o6 q0 q1 q2 q3 p0 p1 p2 p3 fl : V}
theorem New1_ok (HI : IndexOk L) (HC : CountOk L) {s : Bs} (hs : s.length < 100000) (gk : h[kc]? = some (.box [.ptr kr 0])) (gr : h[kr]? = some (.box [f, b1, b2, b3, e4, t5, o6, q0, q1, q2, q3, p0, p1, p2, p3, fl])) (hne : kr ≠ kc) :
    Cf F L i_head_New_1 [.str s, .ptr kc 0] h (fun v h' => v = .int .i64 (firstP false s).2 ∧ ∃ u, h' = (h ++ u).set kr (.box [f, b1, b2, b3, e4, t5, o6, (firstP false s).1.1, (firstP false s).1.2.1, (firstP false s).1.2.2, q3, p0, p1, p2, p3, fl])) := by
  refine run_head_New_1 ?_
  simp only [p_head_New_1]
  
  obtain ⟨a, b, m, hf, hr⟩ := firstP_req s
  have R := fun h' => LRequest_ok (L := L) (h := h') HI HC (s := s) (by omega)
  rw [hr] at R
  simp (maxSteps := 4000000) only [vm, vl, Arg.get, cells, stor, boundO, resultsV, resV, partK, loadV, Vm.part, fillC, splice, reduceIte, reduceCtorEq, Nat.reduceEqDiff, Nat.reduceAdd, Nat.reduceSub, Nat.reduceMul, Nat.reduceLeDiff, ne_eq, not_false_eq_true, Int.reduceEq, Int.reduceLT, Int.reduceLE, Int.reduceNeg, Int.reduceToNat, Int.reduceGT, Int.reduceGE, Nat.reduceLT, Nat.lt_add_one, Nat.zero_lt_succ, Nat.succ_pos, Nat.zero_le, beq_self_eq_true, gk]
  refine Cf.pu (R _) fun u => ?_
  refine ⟨by simp (maxSteps := 4000000) only [vm, vl, Arg.get, cells, stor, boundO, resultsV, resV, partK, loadV, Vm.part, fillC, splice, reduceIte, reduceCtorEq, Nat.reduceEqDiff, Nat.reduceAdd, Nat.reduceSub, Nat.reduceMul, Nat.reduceLeDiff, ne_eq, not_false_eq_true, Int.reduceEq, Int.reduceLT, Int.reduceLE, Int.reduceNeg, Int.reduceToNat, Int.reduceGT, Int.reduceGE, Nat.reduceLT, Nat.lt_add_one, Nat.zero_lt_succ, Nat.succ_pos, Nat.zero_le, beq_self_eq_true], ?_⟩
  have gk' := get_old (t := u) gk
  have gr' := get_old (t := u) gr
  generalize hH : h ++ u = H at *
  have s1 : ∀ X, (H.set kr X)[kr]? = some X := fun X => List.getElem?_set_self (lt_of_get gr')
  have s2 : ∀ X Y : O, (H.set kr X).set kr Y = H.set kr Y := fun X Y => List.set_set ..
  have s3 : ∀ X, (H.set kr X)[kc]? = some (.box [.ptr kr 0]) := fun X => by rw [List.getElem?_set_ne hne]; exact gk'
  simp (maxSteps := 4000000) only [vm, vl, Arg.get, cells, stor, boundO, resultsV, resV, partK, loadV, Vm.part, fillC, splice, reduceIte, reduceCtorEq, Nat.reduceEqDiff, Nat.reduceAdd, Nat.reduceSub, Nat.reduceMul, Nat.reduceLeDiff, ne_eq, not_false_eq_true, Int.reduceEq, Int.reduceLT, Int.reduceLE, Int.reduceNeg, Int.reduceToNat, Int.reduceGT, Int.reduceGE, Nat.reduceLT, Nat.lt_add_one, Nat.zero_lt_succ, Nat.succ_pos, Nat.zero_le, beq_self_eq_true, gr', s1, s2, s3]
  rw [hf]
  exact ⟨u, by rw [hH]⟩
theorem New2_ok (HI : IndexOk L) {s : Bs} (hs : s.length < 100000) (gk : h[kc]? = some (.box [.ptr kr 0])) (gr : h[kr]? = some (.box [f, b1, b2, b3, e4, t5, o6, q0, q1, q2, q3, p0, p1, p2, p3, fl])) (hne : kr ≠ kc) :
    Cf F L i_head_New_2 [.str s, .ptr kc 0] h (fun v h' => v = .int .i64 (firstP true s).2 ∧ ∃ u, h' = (h ++ u).set kr (.box [f, b1, b2, b3, e4, t5, o6, q0, q1, q2, q3, (firstP true s).1.1, (firstP true s).1.2.1, (firstP true s).1.2.2, p3, fl])) := by
  refine run_head_New_2 ?_
  simp only [p_head_New_2]
  
  obtain ⟨a, b, m, hf, hr⟩ := firstP_res s
  have R := fun h' => LStatus_ok (L := L) (h := h') HI (s := s) (by omega)
  rw [hr] at R
  simp (maxSteps := 4000000) only [vm, vl, Arg.get, cells, stor, boundO, resultsV, resV, partK, loadV, Vm.part, fillC, splice, reduceIte, reduceCtorEq, Nat.reduceEqDiff, Nat.reduceAdd, Nat.reduceSub, Nat.reduceMul, Nat.reduceLeDiff, ne_eq, not_false_eq_true, Int.reduceEq, Int.reduceLT, Int.reduceLE, Int.reduceNeg, Int.reduceToNat, Int.reduceGT, Int.reduceGE, Nat.reduceLT, Nat.lt_add_one, Nat.zero_lt_succ, Nat.succ_pos, Nat.zero_le, beq_self_eq_true, gk]
  refine Cf.pu (R _) fun u => ?_
  refine ⟨by simp (maxSteps := 4000000) only [vm, vl, Arg.get, cells, stor, boundO, resultsV, resV, partK, loadV, Vm.part, fillC, splice, reduceIte, reduceCtorEq, Nat.reduceEqDiff, Nat.reduceAdd, Nat.reduceSub, Nat.reduceMul, Nat.reduceLeDiff, ne_eq, not_false_eq_true, Int.reduceEq, Int.reduceLT, Int.reduceLE, Int.reduceNeg, Int.reduceToNat, Int.reduceGT, Int.reduceGE, Nat.reduceLT, Nat.lt_add_one, Nat.zero_lt_succ, Nat.succ_pos, Nat.zero_le, beq_self_eq_true], ?_⟩
  have gk' := get_old (t := u) gk
  have gr' := get_old (t := u) gr
  generalize hH : h ++ u = H at *
  have s1 : ∀ X, (H.set kr X)[kr]? = some X := fun X => List.getElem?_set_self (lt_of_get gr')
  have s2 : ∀ X Y : O, (H.set kr X).set kr Y = H.set kr Y := fun X Y => List.set_set ..
  have s3 : ∀ X, (H.set kr X)[kc]? = some (.box [.ptr kr 0]) := fun X => by rw [List.getElem?_set_ne hne]; exact gk'
  simp (maxSteps := 4000000) only [vm, vl, Arg.get, cells, stor, boundO, resultsV, resV, partK, loadV, Vm.part, fillC, splice, reduceIte, reduceCtorEq, Nat.reduceEqDiff, Nat.reduceAdd, Nat.reduceSub, Nat.reduceMul, Nat.reduceLeDiff, ne_eq, not_false_eq_true, Int.reduceEq, Int.reduceLT, Int.reduceLE, Int.reduceNeg, Int.reduceToNat, Int.reduceGT, Int.reduceGE, Nat.reduceLT, Nat.lt_add_one, Nat.zero_lt_succ, Nat.succ_pos, Nat.zero_le, beq_self_eq_true, gr', s1, s2, s3]
  rw [hf]
  exact ⟨u, by rw [hH]⟩
end Go.Proofs.YtnfcjeajbjcppaaDoor.Vh
end
