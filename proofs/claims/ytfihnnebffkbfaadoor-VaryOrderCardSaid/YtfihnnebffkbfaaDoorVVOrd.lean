/- VaryOrder on the small machine. -/
import Derived.Test.YtfihnnebffkbfaaDoorVVOrdP
import Derived.Test.YtfihnnebffkbfaaDoorVKeyL
set_option linter.unusedVariables false
set_option linter.unusedSimpArgs false
namespace Go.Proofs.YtfihnnebffkbfaaDoor.Vh
open Go.Vm Go.Vt
attribute [local congr] wi_congr wg_congr wgd_congr wb_congr wl_congr cf_congr
variable {L : FuncId → List V → V → Prop} {h : Heap}
def intsV (l : List Int) : List V := l.map (.int .i64)
theorem intsV_len (l : List Int) : (intsV l).length = l.length := by simp [intsV]
theorem intsV_at {l : List Int} {i : Nat} (hi : i < l.length) : (intsV l).getD i (.tup []) = .int .i64 (l.getD i 0) := by
  unfold intsV
  rw [List.getD_eq_getElem?_getD, List.getD_eq_getElem?_getD, List.getElem?_map, List.getElem?_eq_getElem hi]; rfl
theorem vints_par {x : V} (v : VPar [.sl [.i .i64]] x) : ∃ l : List Int, ListV 1 x (intsV l) ∧ l.length ≤ 140737488351232 := by
  rcases v with rfl | ⟨es, rfl, hm, hes⟩
  · exact ⟨[], .inl ⟨rfl, rfl⟩, by simp⟩
  · obtain ⟨l, rfl⟩ : ∃ l : List Int, es = intsV l := by
      clear hm
      induction es with
      | nil => exact ⟨[], rfl⟩
      | cons a es ih =>
        obtain ⟨l, rfl⟩ := ih fun e he => hes e (by simp [he])
        obtain ⟨h1, h2, _⟩ := hes a (by simp)
        rw [h2 rfl] at h1
        obtain ⟨⟨n, rfl, hn⟩, _⟩ := h1
        exact ⟨n :: l, rfl⟩
    exact ⟨l, .inr ⟨_, rfl⟩, by rwa [intsV_len] at hm⟩
theorem bin_rem {x y : Int} (hy : y ≠ 0) : binV .rem (.int .i64 x) (.int .i64 y) = some (.int .i64 (x.tmod y)) := by simp [binV, binI, hy]
theorem key_q : keyS [[113]] [] = [113, 58, 45, 44] := by decide +kernel
theorem ord_last {x z : V} {out : List Bs} (hx : HslV h x out) (hz : ListV 1 z (strs out)) {e : Env} (hl : out.length ≤ 3) (e11 : e 11 = x) (e13 : e 13 = z) :
    k_gatepostlaw11_VaryOrder_2 L (fun v _ => v = .bool true) e h := by
  
  unfold k_gatepostlaw11_VaryOrder_2
  refine l_gatepostlaw11_VaryOrder_0 (fun n e h' => ∃ i, n = out.length - i ∧ i ≤ out.length ∧ e 11 = x ∧ e 13 = z ∧ e 15 = .int .i64 i ∧ h' = h) ?_ (n := out.length) ⟨0, by simp, by simp, e11, e13, rfl, rfl⟩
  clear e11 e13
  rintro n e h' ⟨i, rfl, hi, e11, e13, e15, rfl⟩
  simp only [b_gatepostlaw11_VaryOrder_0, e11, e13, e15]
  have hsl := strs_len out
  rcases list_at [] hi with ⟨hn', hie, hd⟩ | ⟨hl1, hl2, hd, htk⟩
  · have c1 : decide ((i : Int) < (out.length : Int)) = false := decide_eq_false hn'
    rcases hz with ⟨he, rfl⟩ | ⟨o, rfl⟩
    · have hl0 : out.length = 0 := by rw [← strs_len, he]; rfl
      have c2 : decide ((i : Int) < 0) = false := decide_eq_false (by omega)
      simp (maxSteps := 4000000) only [vm, vl, Arg.get, cells, stor, boundO, resultsV, resV, partK, loadV, Vm.part, fillC, splice, reduceIte, reduceCtorEq, Nat.reduceEqDiff, Nat.reduceAdd, Nat.reduceSub, Nat.reduceMul, Nat.reduceLeDiff, ne_eq, not_false_eq_true, Int.reduceEq, Int.reduceLT, Int.reduceLE, Int.reduceNeg, Int.reduceToNat, Int.reduceGT, Int.reduceGE, Nat.reduceLT, Nat.lt_add_one, Nat.zero_lt_succ, Nat.succ_pos, Nat.zero_le, beq_self_eq_true, c2, k_gatepostlaw11_VaryOrder_3]
    · simp (maxSteps := 4000000) only [vm, vl, Arg.get, cells, stor, boundO, resultsV, resV, partK, loadV, Vm.part, fillC, splice, reduceIte, reduceCtorEq, Nat.reduceEqDiff, Nat.reduceAdd, Nat.reduceSub, Nat.reduceMul, Nat.reduceLeDiff, ne_eq, not_false_eq_true, Int.reduceEq, Int.reduceLT, Int.reduceLE, Int.reduceNeg, Int.reduceToNat, Int.reduceGT, Int.reduceGE, Nat.reduceLT, Nat.lt_add_one, Nat.zero_lt_succ, Nat.succ_pos, Nat.zero_le, beq_self_eq_true, hsl, c1, k_gatepostlaw11_VaryOrder_3]
  · have c1 : decide ((i : Int) < (out.length : Int)) = true := decide_eq_true hl1
    have i0 : (0 : Int) ≤ (i : Int) := by omega
    have w := wrap64 (x := (i : Int) + 1) (by omega) (by omega)
    have a1 := strs_at hl2
    obtain ⟨o, rfl⟩ : ∃ o, z = .sl 1 o (strs out) := by
      rcases hz with ⟨he, _⟩ | hz
      · rw [he] at hsl; simp at hsl; omega
      · exact hz
    obtain ⟨id, rfl, hb⟩ : ∃ id, x = .hsl 1 id out.length ∧ h'[id]? = some (.box (strsV out)) := by
      rcases hx with ⟨he, _⟩ | hx
      · rw [he] at hl2; simp at hl2
      · exact hx
    have hg : (strsV out).getD i (.tup []) = .str (out.getD i []) := strs_at hl2
    have hil : i + 1 ≤ (strsV out).length := by simp [strsV]; omega
    generalize out.getD i [] = s at *
    simp (maxSteps := 4000000) only [vm, vl, Arg.get, cells, stor, boundO, resultsV, resV, partK, loadV, Vm.part, fillC, splice, reduceIte, reduceCtorEq, Nat.reduceEqDiff, Nat.reduceAdd, Nat.reduceSub, Nat.reduceMul, Nat.reduceLeDiff, ne_eq, not_false_eq_true, Int.reduceEq, Int.reduceLT, Int.reduceLE, Int.reduceNeg, Int.reduceToNat, Int.reduceGT, Int.reduceGE, Nat.reduceLT, Nat.lt_add_one, Nat.zero_lt_succ, Nat.succ_pos, Nat.zero_le, beq_self_eq_true, hsl, c1, k_gatepostlaw11_VaryOrder_4, i0, hl2, a1, hb, hg, hil, Int.toNat_natCast, Nat.mul_one, k_gatepostlaw11_VaryOrder_5, w, beq_self_eq_true, Bool.not_true]
    exact ⟨out.length - (i + 1), by omega, i + 1, rfl, hl2, e11, e13, rfl⟩
theorem HslV.more {h t : Heap} {x : V} {out : List Bs} (hx : HslV h x out) : HslV (h ++ t) x out :=
  hx.imp_right fun ⟨id, e, hb⟩ => ⟨id, e, get_old hb⟩
theorem keyB_q : KeyB [[113]] [] := by
  refine ⟨by decide, by simp, by decide, by decide⟩
theorem ord_1 (HK : KeyOk L) {x z : V} {out : List Bs} (hx : HslV h x out) (hz : ListV 1 z (strs out)) {e : Env} (hl : out.length ≤ 3) (e11 : e 11 = x) (e13 : e 13 = z) :
    k_gatepostlaw11_VaryOrder_1 L (fun v _ => v = .bool true) e x (.bool true) z h := by
  
  unfold k_gatepostlaw11_VaryOrder_1
  have hsl := strs_len out
  have hk := HK (x := .sl 1 .full [.str [113]]) (y := .nsl) (names := [[113]]) (l := []) (h := h) (.inr ⟨_, rfl⟩) (.inl ⟨rfl, rfl⟩) (.inr keyB_q)
  rw [key_q] at hk
  have main : ∀ e' : Env, e' 11 = x → e' 13 = z → ∀ t, k_gatepostlaw11_VaryOrder_2 L (fun v _ => v = .bool true) e' (h ++ t) := fun e' f1 f2 t => ord_last hx.more hz hl f1 f2
  have c1 : decide (((out.length : Nat) : Int) = (out.length : Int)) = true := decide_eq_true rfl
  have c2 : decide ((0 : Int) = 0) = true := rfl
  rcases hx with ⟨he, rfl⟩ | ⟨id, rfl, hb⟩
  · have hl0 : out.length = 0 := by rw [he]; rfl
    rcases hz with ⟨he, rfl⟩ | ⟨o, rfl⟩
    · simp (maxSteps := 4000000) only [vm, vl, Arg.get, cells, stor, boundO, resultsV, resV, partK, loadV, Vm.part, fillC, splice, reduceIte, reduceCtorEq, Nat.reduceEqDiff, Nat.reduceAdd, Nat.reduceSub, Nat.reduceMul, Nat.reduceLeDiff, ne_eq, not_false_eq_true, Int.reduceEq, Int.reduceLT, Int.reduceLE, Int.reduceNeg, Int.reduceToNat, Int.reduceGT, Int.reduceGE, Nat.reduceLT, Nat.lt_add_one, Nat.zero_lt_succ, Nat.succ_pos, Nat.zero_le, beq_self_eq_true, Bool.not_true, c2]
      refine Cf.pu hk fun t => ?_
      unfold k_gatepostlaw11_VaryOrder_6
      simp (maxSteps := 4000000) only [vm, vl, Arg.get, cells, stor, boundO, resultsV, resV, partK, loadV, Vm.part, fillC, splice, reduceIte, reduceCtorEq, Nat.reduceEqDiff, Nat.reduceAdd, Nat.reduceSub, Nat.reduceMul, Nat.reduceLeDiff, ne_eq, not_false_eq_true, Int.reduceEq, Int.reduceLT, Int.reduceLE, Int.reduceNeg, Int.reduceToNat, Int.reduceGT, Int.reduceGE, Nat.reduceLT, Nat.lt_add_one, Nat.zero_lt_succ, Nat.succ_pos, Nat.zero_le, beq_self_eq_true, beq_self_eq_true, Bool.not_true]
      exact main _ (by exact e11) (by exact e13) t
    · rw [hl0] at hsl
      simp (maxSteps := 4000000) only [vm, vl, Arg.get, cells, stor, boundO, resultsV, resV, partK, loadV, Vm.part, fillC, splice, reduceIte, reduceCtorEq, Nat.reduceEqDiff, Nat.reduceAdd, Nat.reduceSub, Nat.reduceMul, Nat.reduceLeDiff, ne_eq, not_false_eq_true, Int.reduceEq, Int.reduceLT, Int.reduceLE, Int.reduceNeg, Int.reduceToNat, Int.reduceGT, Int.reduceGE, Nat.reduceLT, Nat.lt_add_one, Nat.zero_lt_succ, Nat.succ_pos, Nat.zero_le, beq_self_eq_true, Bool.not_true, c2, hsl, Int.natCast_zero]
      refine Cf.pu hk fun t => ?_
      unfold k_gatepostlaw11_VaryOrder_6
      simp (maxSteps := 4000000) only [vm, vl, Arg.get, cells, stor, boundO, resultsV, resV, partK, loadV, Vm.part, fillC, splice, reduceIte, reduceCtorEq, Nat.reduceEqDiff, Nat.reduceAdd, Nat.reduceSub, Nat.reduceMul, Nat.reduceLeDiff, ne_eq, not_false_eq_true, Int.reduceEq, Int.reduceLT, Int.reduceLE, Int.reduceNeg, Int.reduceToNat, Int.reduceGT, Int.reduceGE, Nat.reduceLT, Nat.lt_add_one, Nat.zero_lt_succ, Nat.succ_pos, Nat.zero_le, beq_self_eq_true, beq_self_eq_true, Bool.not_true]
      exact main _ (by exact e11) (by exact e13) t
  · obtain ⟨o, rfl⟩ | hz0 : (∃ o, z = .sl 1 o (strs out)) ∨ (out = [] ∧ z = .nsl) := by
      rcases hz with ⟨he, h2⟩ | hz
      · exact .inr ⟨by simpa [strs] using he, h2⟩
      · exact .inl hz
    · simp (maxSteps := 4000000) only [vm, vl, Arg.get, cells, stor, boundO, resultsV, resV, partK, loadV, Vm.part, fillC, splice, reduceIte, reduceCtorEq, Nat.reduceEqDiff, Nat.reduceAdd, Nat.reduceSub, Nat.reduceMul, Nat.reduceLeDiff, ne_eq, not_false_eq_true, Int.reduceEq, Int.reduceLT, Int.reduceLE, Int.reduceNeg, Int.reduceToNat, Int.reduceGT, Int.reduceGE, Nat.reduceLT, Nat.lt_add_one, Nat.zero_lt_succ, Nat.succ_pos, Nat.zero_le, beq_self_eq_true, Bool.not_true, c1, hsl]
      refine Cf.pu hk fun t => ?_
      unfold k_gatepostlaw11_VaryOrder_6
      simp (maxSteps := 4000000) only [vm, vl, Arg.get, cells, stor, boundO, resultsV, resV, partK, loadV, Vm.part, fillC, splice, reduceIte, reduceCtorEq, Nat.reduceEqDiff, Nat.reduceAdd, Nat.reduceSub, Nat.reduceMul, Nat.reduceLeDiff, ne_eq, not_false_eq_true, Int.reduceEq, Int.reduceLT, Int.reduceLE, Int.reduceNeg, Int.reduceToNat, Int.reduceGT, Int.reduceGE, Nat.reduceLT, Nat.lt_add_one, Nat.zero_lt_succ, Nat.succ_pos, Nat.zero_le, beq_self_eq_true, beq_self_eq_true, Bool.not_true]
      exact main _ (by exact e11) (by exact e13) t
    · obtain ⟨h1, rfl⟩ := hz0
      have hl0 : out.length = 0 := by rw [h1]; rfl
      rw [hl0] at e11 main
      rw [hl0]
      simp (maxSteps := 4000000) only [vm, vl, Arg.get, cells, stor, boundO, resultsV, resV, partK, loadV, Vm.part, fillC, splice, reduceIte, reduceCtorEq, Nat.reduceEqDiff, Nat.reduceAdd, Nat.reduceSub, Nat.reduceMul, Nat.reduceLeDiff, ne_eq, not_false_eq_true, Int.reduceEq, Int.reduceLT, Int.reduceLE, Int.reduceNeg, Int.reduceToNat, Int.reduceGT, Int.reduceGE, Nat.reduceLT, Nat.lt_add_one, Nat.zero_lt_succ, Nat.succ_pos, Nat.zero_le, beq_self_eq_true, Bool.not_true, c2, Int.natCast_zero]
      refine Cf.pu hk fun t => ?_
      unfold k_gatepostlaw11_VaryOrder_6
      simp (maxSteps := 4000000) only [vm, vl, Arg.get, cells, stor, boundO, resultsV, resV, partK, loadV, Vm.part, fillC, splice, reduceIte, reduceCtorEq, Nat.reduceEqDiff, Nat.reduceAdd, Nat.reduceSub, Nat.reduceMul, Nat.reduceLeDiff, ne_eq, not_false_eq_true, Int.reduceEq, Int.reduceLT, Int.reduceLE, Int.reduceNeg, Int.reduceToNat, Int.reduceGT, Int.reduceGE, Nat.reduceLT, Nat.lt_add_one, Nat.zero_lt_succ, Nat.succ_pos, Nat.zero_le, beq_self_eq_true, beq_self_eq_true, Bool.not_true]
      exact main _ (by exact e11) (by exact e13) t
/-- What is wanted of the first j names. -/
def wantT (ks : List Nat) (j : Nat) : List Bs := (([0, 1, 2].take j).filter fun k => decide (k ∈ ks)).map wN
theorem wantT_len (ks : List Nat) (j : Nat) : (wantT ks j).length ≤ 3 := by
  unfold wantT
  rw [List.length_map]
  refine Nat.le_trans (List.length_filter_le _ _) ?_
  rw [List.length_take]
  exact Nat.min_le_right _ _
theorem wantT_add (ks : List Nat) (j : Nat) (hj : j < 3) : wantT ks (j + 1) = wantT ks j ++ (if j ∈ ks then [wN j] else []) := by
  obtain rfl | rfl | rfl : j = 0 ∨ j = 1 ∨ j = 2 := by omega
  all_goals
    unfold wantT
    simp only [List.take, List.filter_cons, List.filter_nil, decide_eq_true_eq]
    repeat' split
    all_goals simp_all
def namesV : V := .sl 1 .full [.str (wN 0), .str (wN 1), .str (wN 2)]
def seenV (ks : List Nat) : List V := [.bool (decide (0 ∈ ks)), .bool (decide (1 ∈ ks)), .bool (decide (2 ∈ ks))]
theorem seen_at (ks : List Nat) (j : Nat) (hj : j < 3) : (seenV ks).getD j (.tup []) = .bool (decide (j ∈ ks)) := by
  obtain rfl | rfl | rfl : j = 0 ∨ j = 1 ∨ j = 2 := by omega
  all_goals rfl
theorem names_at (j : Nat) (hj : j < 3) : [V.str (wN 0), .str (wN 1), .str (wN 2)].getD j (.tup []) = .str (wN j) := by
  obtain rfl | rfl | rfl : j = 0 ∨ j = 1 ∨ j = 2 := by omega
  all_goals rfl
theorem ord_want (HK : KeyOk L) {x : V} {ks : List Nat} {ib : Nat} (hx : HslV h x (wantL ks)) (hib : h[ib]? = some (.box (seenV ks))) {e : Env} (e5 : e 5 = namesV) (e7 : e 7 = .ptr ib 0) (e11 : e 11 = x) (e12 : e 12 = .bool true) (e13 : e 13 = .nsl) (e14 : e 14 = .int .i64 0) :
    Wl F L lc_gatepostlaw11_VaryOrder_1 (q_gatepostlaw11_VaryOrder_1 L fun v _ => v = .bool true) e h := by
  
  refine l_gatepostlaw11_VaryOrder_1 (fun n e h' => ∃ j, n = 3 - j ∧ j ≤ 3 ∧ e 5 = namesV ∧ e 7 = .ptr ib 0 ∧ e 11 = x ∧ e 12 = .bool true ∧ e 14 = .int .i64 j ∧ Grow 1 h h' (e 13) (strs (wantT ks j))) ?_ (n := 3) ⟨0, by simp, by simp, e5, e7, e11, e12, e14, by rw [e13]; exact .nil0⟩
  clear e5 e7 e11 e12 e13 e14
  rintro n e h' ⟨j, rfl, hj, e5, e7, e11, e12, e14, G⟩
  obtain ⟨⟨t, rfl⟩, _⟩ := id G
  simp only [b_gatepostlaw11_VaryOrder_1]
  generalize e13 : e 13 = z at *
  have hwl := wantT_len ks j
  by_cases hj3 : j < 3
  case neg =>
    obtain rfl : j = 3 := by omega
    have c1 : decide (((3 : Nat) : Int) < 3) = false := by decide
    have hm := fun (e' : Env) => ord_1 (L := L) (h := h ++ t) (out := wantT ks 3) (e := e') HK hx.more G.list hwl
    simp (maxSteps := 4000000) only [vm, vl, Arg.get, cells, stor, boundO, resultsV, resV, partK, loadV, Vm.part, fillC, splice, reduceIte, reduceCtorEq, Nat.reduceEqDiff, Nat.reduceAdd, Nat.reduceSub, Nat.reduceMul, Nat.reduceLeDiff, ne_eq, not_false_eq_true, Int.reduceEq, Int.reduceLT, Int.reduceLE, Int.reduceNeg, Int.reduceToNat, Int.reduceGT, Int.reduceGE, Nat.reduceLT, Nat.lt_add_one, Nat.zero_lt_succ, Nat.succ_pos, Nat.zero_le, beq_self_eq_true, e11, e12, e13, e14, c1]
    exact hm _ (by exact e11) (by exact e13)
  have c1 : decide (((j : Nat) : Int) < 3) = true := decide_eq_true (by omega)
  have i0 : (0 : Int) ≤ (j : Int) := by omega
  have i3 : (j : Int) < 3 := by omega
  have w := wrap64 (x := (j : Int) + 1) (by omega) (by omega)
  have s1 := seen_at ks j hj3
  have s2 := names_at j hj3
  have hb := get_old (t := t) hib
  have hsl : (seenV ks).length = 3 := rfl
  have hadd := wantT_add ks j hj3
  have h13 : j + 1 ≤ 3 := by omega
  have h14 : j < 3 := hj3
  generalize seenV ks = sv at *
  by_cases hm : j ∈ ks
  · rw [if_pos hm] at hadd
    have d := decide_eq_true hm
    obtain ⟨x', h'', ha, G2⟩ := G.app (bytes := 16) (y := .str (wN j)) (by rw [strs_len]; omega)
    rw [strs_app, ← hadd] at G2
    generalize wN j = nm at *
    simp (maxSteps := 4000000) only [vm, vl, Arg.get, cells, stor, boundO, resultsV, resV, partK, loadV, Vm.part, fillC, splice, reduceIte, reduceCtorEq, Nat.reduceEqDiff, Nat.reduceAdd, Nat.reduceSub, Nat.reduceMul, Nat.reduceLeDiff, ne_eq, not_false_eq_true, Int.reduceEq, Int.reduceLT, Int.reduceLE, Int.reduceNeg, Int.reduceToNat, Int.reduceGT, Int.reduceGE, Nat.reduceLT, Nat.lt_add_one, Nat.zero_lt_succ, Nat.succ_pos, Nat.zero_le, beq_self_eq_true, e5, e7, e13, e14, c1, k_gatepostlaw11_VaryOrder_7, i0, i3, hb, hsl, s1, d, s2, h13, h14, Int.toNat_natCast, Nat.mul_one, Nat.zero_add, namesV, k_gatepostlaw11_VaryOrder_8, ha, w]
    exact ⟨3 - (j + 1), by omega, j + 1, rfl, h13, e11, e12, rfl, G2⟩
  · rw [if_neg hm, List.append_nil] at hadd
    have d := decide_eq_false hm
    simp (maxSteps := 4000000) only [vm, vl, Arg.get, cells, stor, boundO, resultsV, resV, partK, loadV, Vm.part, fillC, splice, reduceIte, reduceCtorEq, Nat.reduceEqDiff, Nat.reduceAdd, Nat.reduceSub, Nat.reduceMul, Nat.reduceLeDiff, ne_eq, not_false_eq_true, Int.reduceEq, Int.reduceLT, Int.reduceLE, Int.reduceNeg, Int.reduceToNat, Int.reduceGT, Int.reduceGE, Nat.reduceLT, Nat.lt_add_one, Nat.zero_lt_succ, Nat.succ_pos, Nat.zero_le, beq_self_eq_true, e5, e7, e13, e14, c1, k_gatepostlaw11_VaryOrder_7, i0, i3, hb, hsl, s1, d, s2, h13, h14, Int.toNat_natCast, Nat.mul_one, Nat.zero_add, k_gatepostlaw11_VaryOrder_8, w]
    exact ⟨3 - (j + 1), by omega, j + 1, rfl, h13, e11, e12, rfl, by rw [hadd]; exact G⟩
theorem ord_names (HJ : JoinOk L) (HS : SortOk L) (HK : KeyOk L) {T : Bs} {ks : List Nat} (hT : TextI T ks) (hk : ∀ k ∈ ks, k < 3) (hl : T.length ≤ 200) {e : Env} {H : Heap} (e5 : e 5 = namesV) (e7 : e 7 = .ptr H.length 0) (hh : h = H ++ [.box (seenV ks)]) :
    k_gatepostlaw11_VaryOrder_0 L (fun v _ => v = .bool true) e (.str T) h := by
  
  unfold k_gatepostlaw11_VaryOrder_0
  have hv : valsOf [([118, 97, 114, 121], T)] varyU = [T] := vals_one_same (by decide +kernel)
  have hn := VNames_ok (L := L) (h := h) (x := .sl 2 .full [.agg [.str [118, 97, 114, 121], .str T]]) (l := [([118, 97, 114, 121], T)]) HJ HS (.inr ⟨_, rfl⟩) (by simp) (by
    intro f hf
    rw [List.mem_singleton.1 hf]
    show (4 : Nat) ≤ _
    omega) (by rw [hv, join_one]; omega)
  rw [hv, join_one, order_plain hT hk] at hn
  simp (maxSteps := 4000000) only [vm, vl, Arg.get, cells, stor, boundO, resultsV, resV, partK, loadV, Vm.part, fillC, splice, reduceIte, reduceCtorEq, Nat.reduceEqDiff, Nat.reduceAdd, Nat.reduceSub, Nat.reduceMul, Nat.reduceLeDiff, ne_eq, not_false_eq_true, Int.reduceEq, Int.reduceLT, Int.reduceLE, Int.reduceNeg, Int.reduceToNat, Int.reduceGT, Int.reduceGE, Nat.reduceLT, Nat.lt_add_one, Nat.zero_lt_succ, Nat.succ_pos, Nat.zero_le, beq_self_eq_true]
  refine hn.mono fun v h' hp => ?_
  obtain ⟨⟨t, rfl⟩, hp⟩ := hp
  rcases hp with ⟨h1, _⟩ | ⟨x, out, h1, rfl, hx⟩
  · cases h1
  · injection h1 with h1
    subst h1
    have hib : (h ++ t)[H.length]? = some (.box (seenV ks)) := get_old (by rw [hh, get_new0]; rfl)
    simp (maxSteps := 4000000) only [vm, vl, Arg.get, cells, stor, boundO, resultsV, resV, partK, loadV, Vm.part, fillC, splice, reduceIte, reduceCtorEq, Nat.reduceEqDiff, Nat.reduceAdd, Nat.reduceSub, Nat.reduceMul, Nat.reduceLeDiff, ne_eq, not_false_eq_true, Int.reduceEq, Int.reduceLT, Int.reduceLE, Int.reduceNeg, Int.reduceToNat, Int.reduceGT, Int.reduceGE, Nat.reduceLT, Nat.lt_add_one, Nat.zero_lt_succ, Nat.succ_pos, Nat.zero_le, beq_self_eq_true]
    exact ord_want HK hx hib (by exact e5) (by exact e7) rfl rfl rfl rfl
theorem tm3 (x : Int) : ∃ k : Nat, k < 3 ∧ IntKind.i64.wrap (x.tmod 3 + 3) = x.tmod 3 + 3 ∧ (x.tmod 3 + 3).tmod 3 = k := by
  have h1 : -3 < x.tmod 3 := Int.lt_tmod_of_pos x (by decide)
  have h2 : x.tmod 3 < 3 := Int.tmod_lt_of_pos x (by decide)
  have h3 : (x.tmod 3 + 3).tmod 3 < 3 := Int.tmod_lt_of_pos _ (by decide)
  have h4 : 0 ≤ (x.tmod 3 + 3).tmod 3 := Int.tmod_nonneg 3 (by omega)
  exact ⟨((x.tmod 3 + 3).tmod 3).toNat, by omega, wrap64 (by omega) (by omega), by omega⟩
theorem seen_set (ks : List Nat) (k : Nat) (hk : k < 3) : (seenV ks).take k ++ .bool true :: (seenV ks).drop (k + 1) = seenV (ks ++ [k]) := by
  obtain rfl | rfl | rfl : k = 0 ∨ k = 1 ∨ k = 2 := by omega
  all_goals simp [seenV]
theorem wN_len (k : Nat) : (wN k).length ≤ 6 := by
  unfold wN; split <;> decide
theorem wU_len (k : Nat) : (wU k).length ≤ 6 := by
  unfold wU; split <;> decide
def upperV : V := .sl 1 .full [.str (wU 0), .str (wU 1), .str (wU 2)]
theorem upper_at (j : Nat) (hj : j < 3) : [V.str [65, 67, 67, 69, 80, 84], .str [66], .str [88, 45, 89]].getD j (.tup []) = .str (wU j) := by
  obtain rfl | rfl | rfl : j = 0 ∨ j = 1 ∨ j = 2 := by omega
  all_goals rfl
theorem VaryOrder_ok (HJ : JoinOk L) (HS : SortOk L) (HK : KeyOk L) {x : V} {l : List Int} {up : Bool} (hx : ListV 1 x (intsV l)) (hl : l.length ≤ 140737488351232) :
    Cf F L i_gatepostlaw11_VaryOrder [x, .bool up] h (fun v _ => v = .bool true) := by
  refine run_gatepostlaw11_VaryOrder ?_
  simp only [p_gatepostlaw11_VaryOrder]
  
  simp (maxSteps := 4000000) only [vm, vl, Arg.get, cells, stor, boundO, resultsV, resV, partK, loadV, Vm.part, fillC, splice, reduceIte, reduceCtorEq, Nat.reduceEqDiff, Nat.reduceAdd, Nat.reduceSub, Nat.reduceMul, Nat.reduceLeDiff, ne_eq, not_false_eq_true, Int.reduceEq, Int.reduceLT, Int.reduceLE, Int.reduceNeg, Int.reduceToNat, Int.reduceGT, Int.reduceGE, Nat.reduceLT, Nat.lt_add_one, Nat.zero_lt_succ, Nat.succ_pos, Nat.zero_le, beq_self_eq_true]
  refine l_gatepostlaw11_VaryOrder_2 (fun n e h' => ∃ (i : Nat) (T : Bs) (ks : List Nat), n = l.length - i ∧ i ≤ l.length ∧ i ≤ 12 ∧ e 0 = x ∧ e 1 = .bool up ∧ e 5 = namesV ∧ e 6 = .str T ∧ e 7 = .ptr h.length 0 ∧ e 8 = .int .i64 i ∧ TextI T ks ∧ (∀ k ∈ ks, k < 3) ∧ T.length ≤ 8 * i ∧ h' = h ++ [.box (seenV ks)]) ?_ (n := l.length) ⟨0, [], [], by simp, by simp, by simp, rfl, rfl, rfl, rfl, rfl, rfl, .nil, by simp, by simp, rfl⟩
  rintro n e h' ⟨i, T, ks, rfl, hi, hi12, e0, e1, e5, e6, e7, e8, hT, hk, hTl, rfl⟩
  simp only [b_gatepostlaw11_VaryOrder_2]
  have hil := intsV_len l
  have done := fun (e' : Env) => ord_names (L := L) (h := h ++ [.box (seenV ks)]) (H := h) (e := e') HJ HS HK hT hk (by omega)
  have fin0 : ¬ ((i : Int) < 12 ∧ i < l.length) → b_gatepostlaw11_VaryOrder_2 L (fun v _ => v = .bool true) (fun e' h' => ∃ m, m < l.length - i ∧ True) e (h ++ [.box (seenV ks)]) → True := fun _ _ => trivial
  clear fin0
  rcases list_at 0 hi with ⟨hn', hie, hd⟩ | ⟨hl1, hl2, hd, htk⟩
  · rcases hx with ⟨he, rfl⟩ | ⟨o, rfl⟩
    · have hl0 : l.length = 0 := by rw [← intsV_len, he]; rfl
      have c2 : decide ((i : Int) < 0) = false := decide_eq_false (by omega)
      simp (maxSteps := 4000000) only [vm, vl, Arg.get, cells, stor, boundO, resultsV, resV, partK, loadV, Vm.part, fillC, splice, reduceIte, reduceCtorEq, Nat.reduceEqDiff, Nat.reduceAdd, Nat.reduceSub, Nat.reduceMul, Nat.reduceLeDiff, ne_eq, not_false_eq_true, Int.reduceEq, Int.reduceLT, Int.reduceLE, Int.reduceNeg, Int.reduceToNat, Int.reduceGT, Int.reduceGE, Nat.reduceLT, Nat.lt_add_one, Nat.zero_lt_succ, Nat.succ_pos, Nat.zero_le, beq_self_eq_true, e0, e6, e8, c2]
      exact done _ (by exact e5) (by exact e7) rfl
    · have c1 : decide ((i : Int) < (l.length : Int)) = false := decide_eq_false hn'
      simp (maxSteps := 4000000) only [vm, vl, Arg.get, cells, stor, boundO, resultsV, resV, partK, loadV, Vm.part, fillC, splice, reduceIte, reduceCtorEq, Nat.reduceEqDiff, Nat.reduceAdd, Nat.reduceSub, Nat.reduceMul, Nat.reduceLeDiff, ne_eq, not_false_eq_true, Int.reduceEq, Int.reduceLT, Int.reduceLE, Int.reduceNeg, Int.reduceToNat, Int.reduceGT, Int.reduceGE, Nat.reduceLT, Nat.lt_add_one, Nat.zero_lt_succ, Nat.succ_pos, Nat.zero_le, beq_self_eq_true, e0, e6, e8, hil, c1]
      exact done _ (by exact e5) (by exact e7) rfl
  obtain ⟨o, rfl⟩ : ∃ o, x = .sl 1 o (intsV l) := by
    rcases hx with ⟨he, _⟩ | hx
    · rw [he] at hil; simp at hil; omega
    · exact hx
  have c1 : decide ((i : Int) < (l.length : Int)) = true := decide_eq_true hl1
  by_cases hi2 : (i : Int) < 12
  case neg =>
    have c2 := decide_eq_false hi2
    simp (maxSteps := 4000000) only [vm, vl, Arg.get, cells, stor, boundO, resultsV, resV, partK, loadV, Vm.part, fillC, splice, reduceIte, reduceCtorEq, Nat.reduceEqDiff, Nat.reduceAdd, Nat.reduceSub, Nat.reduceMul, Nat.reduceLeDiff, ne_eq, not_false_eq_true, Int.reduceEq, Int.reduceLT, Int.reduceLE, Int.reduceNeg, Int.reduceToNat, Int.reduceGT, Int.reduceGE, Nat.reduceLT, Nat.lt_add_one, Nat.zero_lt_succ, Nat.succ_pos, Nat.zero_le, beq_self_eq_true, e0, e6, e8, hil, c1, c2]
    exact done _ (by exact e5) (by exact e7) rfl
  clear done
  have c2 := decide_eq_true hi2
  have i0 : (0 : Int) ≤ (i : Int) := by omega
  have a1 := intsV_at hl2
  generalize l.getD i 0 = z at *
  obtain ⟨k, k3, w3, hkz⟩ := tm3 z
  have r1 := bin_rem (x := z) (y := 3) (by decide)
  have r2 := bin_rem (x := z.tmod 3 + 3) (y := 3) (by decide)
  rw [hkz] at r2
  generalize z.tmod 3 = z3 at *
  have k0 : (0 : Int) ≤ (k : Int) := by omega
  have k4 : (k : Int) < 3 := by omega
  have hsl : (seenV ks).length = 3 := rfl
  have hset := seen_set ks k k3
  have hnm := names_at k k3
  have hup := upper_at k k3
  have w := wrap64 (x := (i : Int) + 1) (by omega) (by omega)
  have kn : k + 1 ≤ 3 := by omega
  have hks : ∀ j ∈ ks ++ [k], j < 3 := by
    intro j hj
    rcases List.mem_append.1 hj with hj | hj
    · exact hk j hj
    · rw [List.mem_singleton.1 hj]; exact k3
  have next : ∀ (nm : Bs), nm.length ≤ 6 → TextI (T ++ nm ++ [32, 44]) (ks ++ [k]) → ∀ (e' : Env), e' 0 = .sl 1 o (intsV l) → e' 1 = .bool up → e' 5 = namesV → e' 7 = .ptr h.length 0 → e' 8 = .int .i64 i → ∀ hh, hh = h ++ [.box (seenV (ks ++ [k]))] →
      k_gatepostlaw11_VaryOrder_11 L (fun v _ => v = .bool true) (fun e' h' => ∃ m, m < l.length - i ∧ ∃ (i : Nat) (T : Bs) (ks : List Nat), m = l.length - i ∧ i ≤ l.length ∧ i ≤ 12 ∧ e' 0 = .sl 1 o (intsV l) ∧ e' 1 = .bool up ∧ e' 5 = namesV ∧ e' 6 = .str T ∧ e' 7 = .ptr h.length 0 ∧ e' 8 = .int .i64 i ∧ TextI T ks ∧ (∀ k ∈ ks, k < 3) ∧ T.length ≤ 8 * i ∧ h' = h ++ [.box (seenV ks)]) e' (.str T) (.int .i64 i) (.str nm) hh := by
    intro nm hn hT' e' f0 f1 f5 f7 f8 hh hhe
    subst hhe
    unfold k_gatepostlaw11_VaryOrder_11
    have b1 := bin_sadd (s := T) (t := nm) (by omega)
    have b2 := bin_sadd (s := T ++ nm) (t := [32, 44]) (by simp; omega)
    simp (maxSteps := 4000000) only [vm, vl, Arg.get, cells, stor, boundO, resultsV, resV, partK, loadV, Vm.part, fillC, splice, reduceIte, reduceCtorEq, Nat.reduceEqDiff, Nat.reduceAdd, Nat.reduceSub, Nat.reduceMul, Nat.reduceLeDiff, ne_eq, not_false_eq_true, Int.reduceEq, Int.reduceLT, Int.reduceLE, Int.reduceNeg, Int.reduceToNat, Int.reduceGT, Int.reduceGE, Nat.reduceLT, Nat.lt_add_one, Nat.zero_lt_succ, Nat.succ_pos, Nat.zero_le, beq_self_eq_true, b1, b2, k_gatepostlaw11_VaryOrder_10, w]
    exact ⟨l.length - (i + 1), by omega, i + 1, T ++ nm ++ [32, 44], ks ++ [k], rfl, hl2, by omega, by exact f0, by exact f1, by exact f5, by rw [List.append_assoc], by exact f7, rfl, hT', hks, by simp; omega, rfl⟩
  have nN := next (wN k) (wN_len k) (hT.addN k3)
  have nU := next (wU k) (wU_len k) (hT.addU k3)
  clear next
  generalize hsv : seenV ks = sv at *
  generalize seenV (ks ++ [k]) = sv2 at *
  generalize wN k = nm at *
  generalize wU k = nu at *
  cases up with
  | false =>
    simp (maxSteps := 4000000) only [vm, vl, Arg.get, cells, stor, boundO, resultsV, resV, partK, loadV, Vm.part, fillC, splice, reduceIte, reduceCtorEq, Nat.reduceEqDiff, Nat.reduceAdd, Nat.reduceSub, Nat.reduceMul, Nat.reduceLeDiff, ne_eq, not_false_eq_true, Int.reduceEq, Int.reduceLT, Int.reduceLE, Int.reduceNeg, Int.reduceToNat, Int.reduceGT, Int.reduceGE, Nat.reduceLT, Nat.lt_add_one, Nat.zero_lt_succ, Nat.succ_pos, Nat.zero_le, beq_self_eq_true, e0, e1, e6, e7, e8, hil, c1, c2, k_gatepostlaw11_VaryOrder_9, i0, hl2, a1, r1, w3, r2, k0, k4, hsl, kn, k3, e5, namesV, hnm, Int.toNat_natCast, Nat.mul_one, Nat.zero_add]
    exact nN _ (by exact e0) (by exact e1) (by exact e5) (by exact e7) (by exact e8) _ (by rw [hset])
  | true =>
    have r4 := bin_rem (x := (i : Int)) (y := 2) (by decide)
    by_cases hev : (i : Int).tmod 2 = 0
    · have c4 := decide_eq_true hev
      simp (maxSteps := 4000000) only [vm, vl, Arg.get, cells, stor, boundO, resultsV, resV, partK, loadV, Vm.part, fillC, splice, reduceIte, reduceCtorEq, Nat.reduceEqDiff, Nat.reduceAdd, Nat.reduceSub, Nat.reduceMul, Nat.reduceLeDiff, ne_eq, not_false_eq_true, Int.reduceEq, Int.reduceLT, Int.reduceLE, Int.reduceNeg, Int.reduceToNat, Int.reduceGT, Int.reduceGE, Nat.reduceLT, Nat.lt_add_one, Nat.zero_lt_succ, Nat.succ_pos, Nat.zero_le, beq_self_eq_true, e0, e1, e6, e7, e8, hil, c1, c2, k_gatepostlaw11_VaryOrder_9, i0, hl2, a1, r1, w3, r2, k0, k4, hsl, kn, k3, e5, namesV, hnm, hup, r4, c4, Int.toNat_natCast, Nat.mul_one, Nat.zero_add]
      exact nU _ (by exact e0) (by exact e1) (by exact e5) (by exact e7) (by exact e8) _ (by rw [hset])
    · have c4 := decide_eq_false hev
      simp (maxSteps := 4000000) only [vm, vl, Arg.get, cells, stor, boundO, resultsV, resV, partK, loadV, Vm.part, fillC, splice, reduceIte, reduceCtorEq, Nat.reduceEqDiff, Nat.reduceAdd, Nat.reduceSub, Nat.reduceMul, Nat.reduceLeDiff, ne_eq, not_false_eq_true, Int.reduceEq, Int.reduceLT, Int.reduceLE, Int.reduceNeg, Int.reduceToNat, Int.reduceGT, Int.reduceGE, Nat.reduceLT, Nat.lt_add_one, Nat.zero_lt_succ, Nat.succ_pos, Nat.zero_le, beq_self_eq_true, e0, e1, e6, e7, e8, hil, c1, c2, k_gatepostlaw11_VaryOrder_9, i0, hl2, a1, r1, w3, r2, k0, k4, hsl, kn, k3, e5, namesV, hnm, hup, r4, c4, Int.toNat_natCast, Nat.mul_one, Nat.zero_add]
      exact nN _ (by exact e0) (by exact e1) (by exact e5) (by exact e7) (by exact e8) _ (by rw [hset])
def LV : FuncId → List V → V → Prop := fun f a v => LJoin f a v ∨ LKey f a v ∨ LSort f a v
theorem lv_at {w : World} (ht : TabAt w) : LibAt Tryd.prog w LV := fun f a v h => h.elim (join_at w f a v) fun h => h.elim (key_at ht f a v) (sort_at0 w f a v)
theorem lv_sort (w : World) : SortAt Tryd.prog w LV := by
  rintro f (⟨_, x, l, _, _, _, h, _⟩ | ⟨_, x, y, n, l, _, _, _, h, _⟩ | h)
  · cases h
  · cases h
  · exact sort_at w f h
theorem sortOk : SortOk LV := ⟨.inr (.inr ⟨rfl, rfl, .inl rfl⟩), .inr (.inr ⟨rfl, rfl, .inr rfl⟩)⟩
theorem VaryOrder_row {x0 x1 : V} (v0 : VPar [.sl [.i .i64]] x0) (v1 : VPar [.l .b] x1) (w : World) (ht : TabAt w) (vs : List Value) (hv : Rvs w.heap.size G0 w [x0, x1] vs) :
    Calls Tryd.prog i_gatepostlaw11_VaryOrder vs.toArray w fun e w' => e = .returned (.bool true) ∧ RowKit.Below w.heap.size w w' := by
  obtain ⟨l, l1, l2⟩ := vints_par v0
  obtain ⟨b, rfl⟩ := v1
  exact calls_at hm hF (lv_at ht) (lv_sort w) (VaryOrder_ok (joinOk fun _ _ _ h => .inl h) sortOk (keyOk fun _ _ _ h => .inr (.inl h)) l1 l2) hv
end Go.Proofs.YtfihnnebffkbfaaDoor.Vh
