/- vary.Names on the small machine: its list is a box, that slices.Sort sorts. -/
import Derived.Test.YtfihnnebffkbfaaDoorVNamesE
import Derived.Test.YtfihnnebffkbfaaDoorVSortL
set_option linter.unusedVariables false
set_option linter.unusedSimpArgs false
namespace Go.Proofs.YtfihnnebffkbfaaDoor.Vh
open Go.Vm Go.Vt
attribute [local congr] wi_congr wg_congr wgd_congr wb_congr wl_congr cf_congr
variable {L : FuncId → List V → V → Prop} {h : Heap}
def varyU : Bs := [86, 97, 114, 121]
def dedS (all : List Bs) : List Bs := all.foldl insK []
/-- The names on which a response hangs. -/
def vnO (s : Bs) : Option (List Bs) := match namesO s with
  | some all => if [42] ∈ all then none else some (sortS (dedS all))
  | none => none
/-- A list of texts in a box of its own. -/
def HslV (h' : Heap) (x : V) (out : List Bs) : Prop := (out = [] ∧ x = .nsl) ∨ ∃ id, x = .hsl 1 id out.length ∧ h'[id]? = some (.box (strsV out))
def VNamesP (h : Heap) (o : Option (List Bs)) (v : V) (h' : Heap) : Prop := (∃ t, h' = h ++ t) ∧ ((o = none ∧ v = .tup [.nsl, .bool false]) ∨ ∃ x out, o = some out ∧ v = .tup [x, .bool true] ∧ HslV h' x out)
structure NamS (h : Heap) (m : Nat) (D : List Bs) (x : V) (h' : Heap) : Prop where
  grow : ∃ t, h' = h ++ t
  map : h'[m]? = some (.map (mapK D))
  new : h.length ≤ m
  out : (D = [] ∧ x = .nsl) ∨ ∃ id, h.length ≤ id ∧ id ≠ m ∧ x = .hsl 1 id D.length ∧ h'[id]? = some (.box (strsV D))
theorem set_grow {h h' : Heap} {i : Nat} {o : O} (hg : ∃ t, h' = h ++ t) (hi : h.length ≤ i) : ∃ t, h'.set i o = h ++ t := by
  obtain ⟨t, rfl⟩ := hg
  exact ⟨_, List.set_append_right _ _ hi⟩
theorem app_grow {h h' t2 : Heap} (hg : ∃ t, h' = h ++ t) : ∃ t, h' ++ t2 = h ++ t := by
  obtain ⟨t, rfl⟩ := hg
  exact ⟨_, List.append_assoc ..⟩
theorem NamS.app {h h' : Heap} {m : Nat} {D : List Bs} {x : V} {k : Bs} (s : NamS h m D x h') (hk : k ∉ D) (hl : D.length < 1000000) :
    ∃ x' h'', appV (h'.set m (.map (mapK (insK D k)))) 1 16 true x (.sl 1 .full [.str k]) = some (x', h'') ∧ NamS h m (insK D k) x' h'' := by
  obtain ⟨hg, hm, hn, ho⟩ := s
  have e : insK D k = D ++ [k] := by unfold insK; rw [if_neg hk]
  rw [e]
  have hlt : m < h'.length := (List.getElem?_eq_some_iff.1 hm).1
  generalize hM : O.map (mapK (D ++ [k])) = M
  have hg2 := set_grow (o := M) hg hn
  have r1 : room 1 16 = true := by decide
  rcases ho with ⟨rfl, rfl⟩ | ⟨id, i1, i2, rfl, i4⟩
  · refine ⟨_, _, by simp only [appV, srcElems, if_true, Option.bind_some, List.isEmpty_cons, Bool.false_eq_true, if_false, List.length_singleton, r1, newRowV]; rfl, app_grow hg2, ?_, hn, .inr ⟨_, ?_, ?_, rfl, ?_⟩⟩
    · rw [List.getElem?_append_left (by simpa using hlt), List.getElem?_set_self hlt, hM]
    · rw [List.length_set]; omega
    · rw [List.length_set]; omega
    · rw [List.getElem?_append_right (Nat.le_refl _)]; simp [strsV, flat, cells]
  · have hil : id < h'.length := (List.getElem?_eq_some_iff.1 i4).1
    have r2 : room (D.length + 1) 16 = true := by unfold room; simp; omega
    have g1 : (h'.set m M)[id]? = some (.box (strsV D)) := by rw [List.getElem?_set_ne (Ne.symm i2)]; exact i4
    have g2 : D.length ≤ (strsV D).length := by simp [strsV]
    refine ⟨_, _, by simp only [appV, srcElems, if_true, Option.bind_some, List.length_singleton, r2, true_and, g1, g2]; rfl, app_grow (set_grow hg2 i1), ?_, hn, .inr ⟨_, ?_, ?_, by rw [List.length_append]; rfl, ?_⟩⟩
    · rw [List.getElem?_append_left (by simpa using hlt), List.getElem?_set_ne i2, List.getElem?_set_self hlt, hM]
    · rw [List.length_set]; omega
    · rw [List.length_set]; omega
    · have ht : (strsV D).take D.length = strsV D := List.take_of_length_le (by simp [strsV])
      rw [List.getElem?_append_right (by simp), ht]
      simp [strsV, flat, cells]
theorem foldl_ins (all : List Bs) (i : Nat) (hi : i < all.length) : dedS (all.take (i + 1)) = insK (dedS (all.take i)) (all.getD i []) := by
  have e : all.getD i [] = all[i] := by rw [List.getD_eq_getElem?_getD, List.getElem?_eq_getElem hi, Option.getD_some]
  unfold dedS
  rw [List.take_add_one, List.getElem?_eq_getElem hi, e, List.foldl_append]
  rfl
theorem ded_len : ∀ (all ks : List Bs), (all.foldl insK ks).length ≤ ks.length + all.length
  | [], ks => by simp
  | a :: r, ks => by
    rw [List.foldl_cons, List.length_cons]
    have h1 := ded_len r (insK ks a)
    have h2 : (insK ks a).length ≤ ks.length + 1 := by unfold insK; split <;> simp
    omega
theorem mem_ded_aux {x : Bs} : ∀ {all ks : List Bs}, x ∈ all.foldl insK ks ↔ x ∈ ks ∨ x ∈ all
  | [], ks => by simp
  | a :: r, ks => by
    rw [List.foldl_cons, mem_ded_aux (all := r), mem_ins]
    simp [or_assoc]
theorem mem_ded {x : Bs} {all : List Bs} : x ∈ dedS all ↔ x ∈ all := by unfold dedS; rw [mem_ded_aux]; simp
def SortOk (L : FuncId → List V → V → Prop) : Prop := L i_slices_Sort___string_string_ sortTag (.tup []) ∧ L i_slices_Sort___string_string_ [.nsl] (.tup [])
theorem wi_clear_map {m : Nat} {es : List (V × V)} {e : Env} {h : Heap} {K : V → Heap → Prop} (hm : h[m]? = some (.map es)) : wi F L (.clear (.c (.map m))) e h K = K (.tup []) (h.set m (.map [])) := by
  have hs : stepI (.clear (.c (.map m))) e h = some (.tup [], h.set m (.map [])) := by simp only [stepI, Arg.get, hm]
  rw [wi_clear, hs]
theorem VNames1_ok (HS : SortOk L) {b : Bool} {D : List Bs} {m : Nat} {x : V} {h h' : Heap} {o : Option (List Bs)} (hs : NamS h m D x h') (hl : D.length < 1000000) (ho : o = if b = true then (if [42] ∈ D then none else some (sortS D)) else none) :
    k_vary_Names_0 L (VNamesP h o) (.bool b) (.map m) x h' := by
  
  obtain ⟨hg, hm, hn, hout⟩ := hs
  unfold k_vary_Names_0
  have hclr := fun {K : V → Heap → Prop} => wi_clear_map (L := L) (e := E0) (K := K) hm
  obtain ⟨r, h1, h2⟩ := find_mapK (k := [42]) (ks := D) (n := 0)
  cases b with
  | false =>
    have hp : VNamesP h o (.tup [.nsl, .bool false]) (h'.set m (.map [])) := ⟨set_grow hg hn, .inl ⟨ho, rfl⟩⟩
    simp (maxSteps := 4000000) only [vm, vl, Arg.get, cells, stor, boundO, resultsV, resV, partK, loadV, Vm.part, fillC, splice, reduceIte, reduceCtorEq, Nat.reduceEqDiff, Nat.reduceAdd, Nat.reduceSub, Nat.reduceMul, Nat.reduceLeDiff, ne_eq, not_false_eq_true, Int.reduceEq, Int.reduceLT, Int.reduceLE, Int.reduceNeg, Int.reduceToNat, Int.reduceGT, Int.reduceGE, Nat.reduceLT, Nat.lt_add_one, Nat.zero_lt_succ, Nat.succ_pos, Nat.zero_le, beq_self_eq_true, hm, hclr]
    exact hp
  | true =>
    rw [if_pos rfl] at ho
    rcases h2 with ⟨h3, i, rfl, h5⟩ | ⟨h3, rfl⟩
    · rw [if_pos h3] at ho
      have hp : VNamesP h o (.tup [.nsl, .bool false]) (h'.set m (.map [])) := ⟨set_grow hg hn, .inl ⟨ho, rfl⟩⟩
      simp (maxSteps := 4000000) only [vm, vl, Arg.get, cells, stor, boundO, resultsV, resV, partK, loadV, Vm.part, fillC, splice, reduceIte, reduceCtorEq, Nat.reduceEqDiff, Nat.reduceAdd, Nat.reduceSub, Nat.reduceMul, Nat.reduceLeDiff, ne_eq, not_false_eq_true, Int.reduceEq, Int.reduceLT, Int.reduceLE, Int.reduceNeg, Int.reduceToNat, Int.reduceGT, Int.reduceGE, Nat.reduceLT, Nat.lt_add_one, Nat.zero_lt_succ, Nat.succ_pos, Nat.zero_le, beq_self_eq_true, hm, h1, hclr]
      exact hp
    · rw [if_neg h3] at ho
      simp (maxSteps := 4000000) only [vm, vl, Arg.get, cells, stor, boundO, resultsV, resV, partK, loadV, Vm.part, fillC, splice, reduceIte, reduceCtorEq, Nat.reduceEqDiff, Nat.reduceAdd, Nat.reduceSub, Nat.reduceMul, Nat.reduceLeDiff, ne_eq, not_false_eq_true, Int.reduceEq, Int.reduceLT, Int.reduceLE, Int.reduceNeg, Int.reduceToNat, Int.reduceGT, Int.reduceGE, Nat.reduceLT, Nat.lt_add_one, Nat.zero_lt_succ, Nat.succ_pos, Nat.zero_le, beq_self_eq_true, hm, h1, k_vary_Names_1]
      rcases hout with ⟨rfl, rfl⟩ | ⟨id, i1, i2, rfl, i4⟩
      · refine wlib HS.2 ?_
        have hp : VNamesP h o (.tup [.nsl, .bool true]) h' := ⟨hg, .inr ⟨_, _, ho, rfl, .inl ⟨by simp [sortS], rfl⟩⟩⟩
        exact hp
      · refine wlibS HS.1 i4 (by omega) ?_
        have hil : id < h'.length := (List.getElem?_eq_some_iff.1 i4).1
        have hp : VNamesP h o (.tup [.hsl 1 id D.length, .bool true]) (h'.set id (.box (strsV (sortS D)))) := ⟨set_grow hg i1, .inr ⟨_, _, ho, rfl, .inr ⟨id, by rw [sortS_len], by rw [List.getElem?_set_self hil]⟩⟩⟩
        exact hp
theorem VNames_ok (HJ : JoinOk L) (HS : SortOk L) {x : V} {l : List Fld} (hx : ListV 2 x (flds l)) (hl : l.length < 100000) (hln : ∀ f ∈ l, f.1.length ≤ 140737488355328) (hj : (joinS (valsOf l varyU)).length ≤ 100000) :
    Cf F L i_vary_Names [x] h (VNamesP h (vnO (joinS (valsOf l varyU)))) := by
  refine run_vary_Names ?_
  simp only [p_vary_Names]
  
  refine (Names_ok (name := varyU) HJ hx hl hln (by decide) hj).mono fun v h' hp => ?_
  generalize hs : joinS (valsOf l varyU) = s at *
  unfold k_vary_Names_5
  rcases hp with ⟨q, rfl, t, rfl⟩ | ⟨out, y, q, rfl, G⟩
  · simp (maxSteps := 4000000) only [vm, vl, Arg.get, cells, stor, boundO, resultsV, resV, partK, loadV, Vm.part, fillC, splice, reduceIte, reduceCtorEq, Nat.reduceEqDiff, Nat.reduceAdd, Nat.reduceSub, Nat.reduceMul, Nat.reduceLeDiff, ne_eq, not_false_eq_true, Int.reduceEq, Int.reduceLT, Int.reduceLE, Int.reduceNeg, Int.reduceToNat, Int.reduceGT, Int.reduceGE, Nat.reduceLT, Nat.lt_add_one, Nat.zero_lt_succ, Nat.succ_pos, Nat.zero_le, beq_self_eq_true]
    refine l_vary_Names_0 (fun n e h' => e 5 = .bool false ∧ e 17 = .int .i64 0 ∧ e 18 = .int .i64 0 ∧ ∃ m, e 6 = .map m ∧ NamS h m [] (e 7) h') ?_ (n := 0) ⟨rfl, rfl, rfl, _, rfl, ⟨_, rfl⟩, by rw [← List.append_assoc, ← List.length_append, List.getElem?_append_right (Nat.le_refl _)]; simp [mapK], by simp, .inl ⟨rfl, rfl⟩⟩
    rintro n e h' ⟨e5, e17, e18, m, e6, hN⟩
    have hK := VNames1_ok (L := L) (b := false) (o := vnO s) HS hN (by simp) (by unfold vnO; rw [q]; rfl)
    simp only [b_vary_Names_0]
    have c1 : decide ((0 : Int) < 0) = false := by decide
    simp (maxSteps := 4000000) only [vm, vl, Arg.get, cells, stor, boundO, resultsV, resV, partK, loadV, Vm.part, fillC, splice, reduceIte, reduceCtorEq, Nat.reduceEqDiff, Nat.reduceAdd, Nat.reduceSub, Nat.reduceMul, Nat.reduceLeDiff, ne_eq, not_false_eq_true, Int.reduceEq, Int.reduceLT, Int.reduceLE, Int.reduceNeg, Int.reduceToNat, Int.reduceGT, Int.reduceGE, Nat.reduceLT, Nat.lt_add_one, Nat.zero_lt_succ, Nat.succ_pos, Nat.zero_le, beq_self_eq_true, e5, e6, e17, e18, c1]
    exact hK
  · obtain ⟨⟨t, rfl⟩, _⟩ := id G
    have hy := G.list
    have hol : out.length ≤ 100001 := by
      unfold namesO at q
      split at q
      · rename_i a qa
        split at q
        · simp only [Option.some.injEq] at q
          subst q
          rw [List.length_map]
          have := mem_split_len qa
          omega
        · cases q
      · cases q
    have main : ∀ (e : Env) (h' : Heap) (m : Nat), e 5 = .bool true → e 16 = y → e 17 = .int .i64 out.length → e 18 = .int .i64 0 → e 6 = .map m → NamS h m [] (e 7) h' → Wl F L lc_vary_Names_0 (q_vary_Names_0 L (VNamesP h (vnO s))) e h' := by
      intro e h' m f5 f16 f17 f18 f6 fN
      refine l_vary_Names_0 (fun n e h' => ∃ i, n = out.length - i ∧ i ≤ out.length ∧ e 5 = .bool true ∧ e 16 = y ∧ e 17 = .int .i64 out.length ∧ e 18 = .int .i64 i ∧ ∃ m, e 6 = .map m ∧ NamS h m (dedS (out.take i)) (e 7) h') ?_ (n := out.length) ⟨0, by simp, by simp, f5, f16, f17, f18, m, f6, fN⟩
      clear f5 f16 f17 f18 f6 fN
      rintro n e h' ⟨i, rfl, hi, e5, e16, e17, e18, m, e6, hN⟩
      have hdl := ded_len (out.take i) []
      rw [List.length_take] at hdl
      have hdl : (dedS (out.take i)).length ≤ 100001 := by unfold dedS; simp at hdl; omega
      simp only [b_vary_Names_0]
      rcases list_at [] hi with ⟨hn', rfl, hd⟩ | ⟨hl1, hl2, hd, htk⟩
      · rw [List.take_of_length_le (Nat.le_refl _)] at hN hdl
        have hK := VNames1_ok (L := L) (b := true) (o := vnO s) HS hN (by omega) (by
          unfold vnO; rw [q]
          simp only [mem_ded, if_true])
        simp (maxSteps := 4000000) only [vm, vl, Arg.get, cells, stor, boundO, resultsV, resV, partK, loadV, Vm.part, fillC, splice, reduceIte, reduceCtorEq, Nat.reduceEqDiff, Nat.reduceAdd, Nat.reduceSub, Nat.reduceMul, Nat.reduceLeDiff, ne_eq, not_false_eq_true, Int.reduceEq, Int.reduceLT, Int.reduceLE, Int.reduceNeg, Int.reduceToNat, Int.reduceGT, Int.reduceGE, Nat.reduceLT, Nat.lt_add_one, Nat.zero_lt_succ, Nat.succ_pos, Nat.zero_le, beq_self_eq_true, e5, e6, e17, e18, hn', decide_false]
        exact hK
      · have w := wrap64 (x := (i : Int) + 1) (by omega) (by omega)
        have i1 := fun {K : V → Heap → Prop} {h : Heap} => hy.at (F := F) (L := L) (e := E0) (K := K) (h := h) (i := i) (by rw [strs_len]; exact hl2)
        have a1 := strs_at hl2
        have hf := foldl_ins out i hl2
        generalize out.getD i [] = k at *
        generalize dedS (out.take i) = D at *
        generalize hx7 : e 7 = x7 at *
        obtain ⟨r, h1, h2⟩ := find_mapK (k := k) (ks := D) (n := 0)
        have hm := hN.map
        rcases h2 with ⟨h3, j, rfl, h5⟩ | ⟨h3, rfl⟩
        · simp (maxSteps := 4000000) only [vm, vl, Arg.get, cells, stor, boundO, resultsV, resV, partK, loadV, Vm.part, fillC, splice, reduceIte, reduceCtorEq, Nat.reduceEqDiff, Nat.reduceAdd, Nat.reduceSub, Nat.reduceMul, Nat.reduceLeDiff, ne_eq, not_false_eq_true, Int.reduceEq, Int.reduceLT, Int.reduceLE, Int.reduceNeg, Int.reduceToNat, Int.reduceGT, Int.reduceGE, Nat.reduceLT, Nat.lt_add_one, Nat.zero_lt_succ, Nat.succ_pos, Nat.zero_le, beq_self_eq_true, e5, e6, e16, e17, e18, hl1, decide_true, k_vary_Names_2, i1, a1, hm, h1, k_vary_Names_4, k_vary_Names_3, w]
          refine ⟨out.length - (i + 1), by omega, i + 1, rfl, hl2, rfl, m, rfl, ?_⟩
          rw [hf, show insK D k = D from by unfold insK; rw [if_pos h3]]
          simp only [hx7]
          exact hN
        · obtain ⟨x', h'', ha, hN2⟩ := hN.app h3 (by omega)
          have hset := set_mapK (k := k) (ks := D)
          simp (maxSteps := 4000000) only [vm, vl, Arg.get, cells, stor, boundO, resultsV, resV, partK, loadV, Vm.part, fillC, splice, reduceIte, reduceCtorEq, Nat.reduceEqDiff, Nat.reduceAdd, Nat.reduceSub, Nat.reduceMul, Nat.reduceLeDiff, ne_eq, not_false_eq_true, Int.reduceEq, Int.reduceLT, Int.reduceLE, Int.reduceNeg, Int.reduceToNat, Int.reduceGT, Int.reduceGE, Nat.reduceLT, Nat.lt_add_one, Nat.zero_lt_succ, Nat.succ_pos, Nat.zero_le, beq_self_eq_true, e5, e6, e16, e17, e18, hl1, decide_true, k_vary_Names_2, i1, a1, hm, h1, k_vary_Names_4, k_vary_Names_3, hset, ha, w]
          refine ⟨out.length - (i + 1), by omega, i + 1, rfl, hl2, rfl, m, rfl, ?_⟩
          rw [hf]
          exact hN2
    have hN0 : NamS h (h.length + t.length) [] .nsl (h ++ (t ++ [.map []])) := ⟨⟨_, rfl⟩, by rw [← List.append_assoc, ← List.length_append, List.getElem?_append_right (Nat.le_refl _)]; simp [mapK], by simp, .inl ⟨rfl, rfl⟩⟩
    rcases hy with ⟨he, rfl⟩ | ⟨own, rfl⟩
    · have hl0 : out.length = 0 := by rw [← strs_len, he]; rfl
      rw [hl0] at main
      simp (maxSteps := 4000000) only [vm, vl, Arg.get, cells, stor, boundO, resultsV, resV, partK, loadV, Vm.part, fillC, splice, reduceIte, reduceCtorEq, Nat.reduceEqDiff, Nat.reduceAdd, Nat.reduceSub, Nat.reduceMul, Nat.reduceLeDiff, ne_eq, not_false_eq_true, Int.reduceEq, Int.reduceLT, Int.reduceLE, Int.reduceNeg, Int.reduceToNat, Int.reduceGT, Int.reduceGE, Nat.reduceLT, Nat.lt_add_one, Nat.zero_lt_succ, Nat.succ_pos, Nat.zero_le, beq_self_eq_true]
      exact main _ _ _ rfl rfl rfl rfl rfl hN0
    · have hsl := strs_len out
      simp (maxSteps := 4000000) only [vm, vl, Arg.get, cells, stor, boundO, resultsV, resV, partK, loadV, Vm.part, fillC, splice, reduceIte, reduceCtorEq, Nat.reduceEqDiff, Nat.reduceAdd, Nat.reduceSub, Nat.reduceMul, Nat.reduceLeDiff, ne_eq, not_false_eq_true, Int.reduceEq, Int.reduceLT, Int.reduceLE, Int.reduceNeg, Int.reduceToNat, Int.reduceGT, Int.reduceGE, Nat.reduceLT, Nat.lt_add_one, Nat.zero_lt_succ, Nat.succ_pos, Nat.zero_le, beq_self_eq_true, hsl]
      exact main _ _ _ rfl rfl rfl rfl rfl hN0
end Go.Proofs.YtfihnnebffkbfaaDoor.Vh
