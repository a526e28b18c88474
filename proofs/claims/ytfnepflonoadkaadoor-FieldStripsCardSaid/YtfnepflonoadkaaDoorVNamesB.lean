/- Package field's Names and Strip, and the reference's Get, Del, Set, Names, Strip. -/
import Derived.Test.YtfnepflonoadkaaDoorVNamesA
set_option linter.unusedVariables false
set_option linter.unusedSimpArgs false
namespace Go.Proofs.YtfnepflonoadkaaDoor.Vh
open Go.Vm Go.Vt
attribute [local congr] wi_congr wg_congr wgd_congr wb_congr wl_congr cf_congr
variable {L : FuncId → List V → V → Prop} {h : Heap}
def seven : List Bs := [[67, 111, 110, 110, 101, 99, 116, 105, 111, 110], [75, 101, 101, 112, 45, 65, 108, 105, 118, 101], [80, 114, 111, 120, 121, 45, 67, 111, 110, 110, 101, 99, 116, 105, 111, 110], [84, 69], [84, 114, 97, 105, 108, 101, 114], [84, 114, 97, 110, 115, 102, 101, 114, 45, 69, 110, 99, 111, 100, 105, 110, 103], [85, 112, 103, 114, 97, 100, 101]]
def sevenL : List Bs := [[99, 111, 110, 110, 101, 99, 116, 105, 111, 110], [107, 101, 101, 112, 45, 97, 108, 105, 118, 101], [112, 114, 111, 120, 121, 45, 99, 111, 110, 110, 101, 99, 116, 105, 111, 110], [116, 101], [116, 114, 97, 105, 108, 101, 114], [116, 114, 97, 110, 115, 102, 101, 114, 45, 101, 110, 99, 111, 100, 105, 110, 103], [117, 112, 103, 114, 97, 100, 101]]
def connS : Bs := [67, 111, 110, 110, 101, 99, 116, 105, 111, 110]
def namesL (l : List Fld) (name : Bs) : List Bs := (namesO (joinS (valsOf l name))).getD []
def stripL (l : List Fld) : List Fld := l.filter (stays (namesL l connS ++ seven))
theorem low_len (s : Bs) : (low s).length = s.length := by unfold low; exact List.length_map ..
theorem names_bound {s : Bs} {out : List Bs} (h : namesO s = some out) : out.length ≤ s.length + 1 ∧ ∀ n ∈ out, n.length ≤ s.length := by
  unfold namesO at h
  split at h
  · rename_i a q
    split at h
    · simp only [Option.some.injEq] at h
      subst h
      refine ⟨by rw [List.length_map]; exact mem_split_len q, fun n hn => ?_⟩
      obtain ⟨m, hm, rfl⟩ := List.mem_map.1 hn
      rw [low_len]; exact split_mem q hm
    · cases h
  · cases h
theorem Strip_ok (HJ : JoinOk L) {x : V} {l : List Fld} (hx : ListV 2 x (flds l)) (hl : l.length < 100000) (hln : ∀ f ∈ l, f.1.length ≤ 140737488355328) (hj : (joinS (valsOf l connS)).length ≤ 100000) :
    Cf F L i_field_Strip [x] h (fun v h' => Grow 2 h h' v (flds (stripL l))) := by
  refine run_field_Strip ?_
  simp only [p_field_Strip]
  simp (maxSteps := 4000000) only [vm, vl, Arg.get, cells, stor, boundO, resultsV, resV, partK, loadV, Vm.part, fillC, splice, reduceIte, reduceCtorEq, Nat.reduceEqDiff, Nat.reduceAdd, Nat.reduceSub, Nat.reduceMul, Nat.reduceLeDiff, ne_eq, not_false_eq_true, Int.reduceEq, Int.reduceLT, Int.reduceLE, Int.reduceNeg, Int.reduceToNat, Int.reduceGT, Int.reduceGE, Nat.reduceLT, Nat.lt_add_one, Nat.zero_lt_succ, Nat.succ_pos, Nat.zero_le, beq_self_eq_true]
  refine (Names_ok (name := connS) HJ hx hl hln (Nat.le_trans (show connS.length ≤ 100 by decide) (by omega)) hj).mono fun v h' hp => ?_
  have main : ∀ (y : V) (nm : List Bs) (h1 : Heap), namesL l connS = nm → nm.length ≤ 100001 → (∀ n ∈ nm, n.length ≤ 100000) → Ow 1 h h1 y (strs nm) → ∃ x' h'', appV h1 1 16 false y (.sl 1 .full (strs seven)) = some (x', h'') ∧ Cf F L i_field_without [x, x'] h'' (fun v h' => Grow 2 h h' v (flds (stripL l))) := by
    intro y nm h1 hnm hlen hmem O
    obtain ⟨x', h'', ha, O2⟩ := O.app (bytes := 16) (y := .sl 1 .full (strs seven)) (ys := strs seven) (.inr ⟨_, rfl⟩) (by rw [strs_len, strs_len]; have : seven.length = 7 := rfl; omega)
    refine ⟨x', h'', ha, ?_⟩
    obtain ⟨⟨t2, rfl⟩, _⟩ := id O2
    have hlist := O2.list
    have e : strs nm ++ strs seven = (nm ++ seven).map V.str := by simp [strs]
    rw [e] at hlist
    refine (without_ok (names := nm ++ seven) hx hlist (by omega) (by rw [List.length_append]; have : seven.length = 7 := rfl; omega) hln ?_).mono fun v h' G => ?_
    · intro n hn
      rcases List.mem_append.1 hn with hn | hn
      · have := hmem n hn; omega
      · have : ∀ n ∈ seven, n.length ≤ 100 := by decide
        exact Nat.le_trans (this n hn) (by omega)
    · have := G.less
      unfold stripL
      rw [hnm]; exact this
  rcases hp with ⟨q, rfl, t, rfl⟩ | ⟨out, y, q, rfl, G⟩
  · obtain ⟨x', h'', ha, hc⟩ := main .nsl [] (h ++ t) (by unfold namesL; rw [show namesO (joinS (valsOf l connS)) = none from q]; rfl) (by simp) (by simp) Ow.nil
    simp only [strs, seven, List.map_cons, List.map_nil] at ha
    simp (maxSteps := 4000000) only [vm, vl, Arg.get, cells, stor, boundO, resultsV, resV, partK, loadV, Vm.part, fillC, splice, reduceIte, reduceCtorEq, Nat.reduceEqDiff, Nat.reduceAdd, Nat.reduceSub, Nat.reduceMul, Nat.reduceLeDiff, ne_eq, not_false_eq_true, Int.reduceEq, Int.reduceLT, Int.reduceLE, Int.reduceNeg, Int.reduceToNat, Int.reduceGT, Int.reduceGE, Nat.reduceLT, Nat.lt_add_one, Nat.zero_lt_succ, Nat.succ_pos, Nat.zero_le, beq_self_eq_true, ha]
    exact hc
  · obtain ⟨b1, b2⟩ := names_bound q
    obtain ⟨x', h'', ha, hc⟩ := main y out h' (by unfold namesL; rw [show namesO (joinS (valsOf l connS)) = some out from q]; rfl) (by have : (joinS (valsOf l connS)).length ≤ 100000 := hj; exact Nat.le_trans b1 (by unfold connS at this; omega)) (fun n hn => Nat.le_trans (b2 n hn) hj) G.ow
    simp only [strs, seven, List.map_cons, List.map_nil] at ha
    simp (maxSteps := 4000000) only [vm, vl, Arg.get, cells, stor, boundO, resultsV, resV, partK, loadV, Vm.part, fillC, splice, reduceIte, reduceCtorEq, Nat.reduceEqDiff, Nat.reduceAdd, Nat.reduceSub, Nat.reduceMul, Nat.reduceLeDiff, ne_eq, not_false_eq_true, Int.reduceEq, Int.reduceLT, Int.reduceLE, Int.reduceNeg, Int.reduceToNat, Int.reduceGT, Int.reduceGE, Nat.reduceLT, Nat.lt_add_one, Nat.zero_lt_succ, Nat.succ_pos, Nat.zero_le, beq_self_eq_true, ha]
    exact hc
theorem stays_map {ns ms : List Bs} (e : ns.map low = ms.map low) (f : Fld) : stays ns f = stays ms f := by
  have : ∀ ns : List Bs, stays ns f = !((ns.map low).any fun n => n == low f.1) := by intro ns; simp [stays, List.any_map, Function.comp_def]
  rw [this, this, e]
theorem stays_cons (n : Bs) (r : List Bs) (f : Fld) : stays (n :: r) f = (stays [n] f && stays r f) := by simp [stays]
theorem stays_comm (ns ms : List Bs) (f : Fld) : stays (ns ++ ms) f = stays (ms ++ ns) f := by simp [stays, Bool.and_comm, Bool.or_comm]
theorem stays_app (ns ms : List Bs) (f : Fld) : stays (ns ++ ms) f = (stays ns f && stays ms f) := by simp [stays]
theorem foldl_without : ∀ (ns : List Bs) (l : List Fld), ns.foldl without l = l.filter (stays ns)
  | [], l => by
    rw [List.foldl_nil]
    exact (List.filter_eq_self.2 fun f _ => by simp [stays]).symm
  | n :: r, l => by
    rw [List.foldl_cons, foldl_without r, without, List.filter_filter]
    apply List.filter_congr
    intro f _
    rw [stays_cons n r, Bool.and_comm]
def connL : Bs := [99, 111, 110, 110, 101, 99, 116, 105, 111, 110]
theorem vals_conn (l : List Fld) : valsOf l connL = valsOf l connS := by
  have e : low connL = low connS := by decide +kernel
  unfold valsOf; rw [e]
theorem fold_mem {ns : List Bs} {l : List Fld} {f : Fld} (h : f ∈ ns.foldl without l) : f ∈ l := by
  rw [foldl_without] at h; exact (List.mem_filter.1 h).1
theorem fold_len (ns : List Bs) (l : List Fld) : (ns.foldl without l).length ≤ l.length := by
  rw [foldl_without]; exact List.length_filter_le _ _
theorem rStrip_ok {x : V} {l : List Fld} (hx : ListV 2 x (flds l)) (hl : l.length < 100000) (hln : ∀ f ∈ l, f.1.length ≤ 140737488355328) (hsm : sumF l < 100000) (hj : (joinS (valsOf l connS)).length ≤ 100000) :
    Cf F L i_gatepostref04_Strip [x] h (fun v h' => Ow 2 h h' v (flds (stripL l))) := by
  refine run_gatepostref04_Strip ?_
  simp only [p_gatepostref04_Strip]
  
  simp (maxSteps := 4000000) only [vm, vl, Arg.get, cells, stor, boundO, resultsV, resV, partK, loadV, Vm.part, fillC, splice, reduceIte, reduceCtorEq, Nat.reduceEqDiff, Nat.reduceAdd, Nat.reduceSub, Nat.reduceMul, Nat.reduceLeDiff, ne_eq, not_false_eq_true, Int.reduceEq, Int.reduceLT, Int.reduceLE, Int.reduceNeg, Int.reduceToNat, Int.reduceGT, Int.reduceGE, Nat.reduceLT, Nat.lt_add_one, Nat.zero_lt_succ, Nat.succ_pos, Nat.zero_le, beq_self_eq_true]
  have hn1 := rNames_ok (L := L) (h := h) (name := connL) hx hl hln (Nat.le_trans (show connL.length ≤ 100 by decide) (by omega)) hsm (by rw [vals_conn]; exact hj)
  rw [vals_conn] at hn1
  refine hn1.mono fun v h' hp => ?_
  have main : ∀ (y : V) (nm : List Bs) (h1 : Heap), namesL l connS = nm → nm.length ≤ 100001 → (∀ n ∈ nm, n.length ≤ 100000) → (∃ t, h1 = h ++ t) → ListV 1 y (strs nm) → ∃ x' h'', appV h1 1 16 false (.sl 1 .full (strs sevenL)) y = some (x', h'') ∧ ∀ (e : Env), e 5 = x' → e 6 = x → e 7 = .int .i64 0 → Wl F L lc_gatepostref04_Strip_0 (q_gatepostref04_Strip_0 L (fun v h' => Ow 2 h h' v (flds (stripL l)))) e h'' := by
    rintro y nm h1 hnm hlen hmem ⟨t1, rfl⟩ hy
    have O : Ow 1 h (h ++ t1) (.sl 1 .full (strs sevenL)) (strs sevenL) := Ow.full
    obtain ⟨x', h'', ha, O2⟩ := O.app (bytes := 16) hy (by rw [strs_len, strs_len]; have : sevenL.length = 7 := rfl; omega)
    refine ⟨x', h'', ha, fun e e5 e6 e7 => ?_⟩
    obtain ⟨⟨t2, rfl⟩, _⟩ := id O2
    have hlist := O2.list
    have es : strs sevenL ++ strs nm = strs (sevenL ++ nm) := by simp [strs]
    rw [es] at hlist
    have hns : (sevenL ++ nm).length ≤ 100008 := by rw [List.length_append]; have : sevenL.length = 7 := rfl; omega
    have hnb : ∀ n ∈ sevenL ++ nm, n.length ≤ 140737488355328 := by
      intro n hn
      rcases List.mem_append.1 hn with hn | hn
      · have : ∀ n ∈ sevenL, n.length ≤ 100 := by decide
        exact Nat.le_trans (this n hn) (by omega)
      · have := hmem n hn; omega
    have fin : (sevenL ++ nm).foldl without l = stripL l := by
      rw [foldl_without]
      unfold stripL
      rw [hnm]
      apply List.filter_congr
      intro f _
      rw [stays_comm]
      have e7 : sevenL.map low = seven.map low := by decide +kernel
      exact stays_map (by rw [List.map_append, List.map_append, e7]) f
    generalize sevenL ++ nm = ns at *
    have l1 := fun {K : V → Heap → Prop} {h : Heap} => hlist.len (F := F) (L := L) (e := E0) (K := K) (h := h)
    simp only [strs_len] at l1
    refine l_gatepostref04_Strip_0 (fun n e h' => ∃ i, n = ns.length - i ∧ i ≤ ns.length ∧ e 5 = x' ∧ ListV 2 (e 6) (flds ((ns.take i).foldl without l)) ∧ e 7 = .int .i64 i ∧ ∃ t, h' = h ++ t) ?_ (n := ns.length) ⟨0, by simp, by simp, e5, by rw [e6]; exact hx, e7, t2, rfl⟩
    rintro n e h' ⟨i, rfl, hi, e5, G, e7, t, rfl⟩
    simp only [b_gatepostref04_Strip_0]
    generalize e6 : e 6 = x6 at *
    have fl := fold_len (ns.take i) l
    rcases list_at [] hi with ⟨hn', rfl, hd⟩ | ⟨hl1, hl2, hd, htk⟩
    · rw [List.take_of_length_le (Nat.le_refl _), fin] at G
      rw [List.take_of_length_le (Nat.le_refl _), fin] at fl
      obtain ⟨x3, h3, ha3, O3⟩ := (Ow.nil (sz := 2) (h := h) (t := t)).app (bytes := 32) G (by rw [flds_len]; simp; omega)
      
      simp (maxSteps := 4000000) only [vm, vl, Arg.get, cells, stor, boundO, resultsV, resV, partK, loadV, Vm.part, fillC, splice, reduceIte, reduceCtorEq, Nat.reduceEqDiff, Nat.reduceAdd, Nat.reduceSub, Nat.reduceMul, Nat.reduceLeDiff, ne_eq, not_false_eq_true, Int.reduceEq, Int.reduceLT, Int.reduceLE, Int.reduceNeg, Int.reduceToNat, Int.reduceGT, Int.reduceGE, Nat.reduceLT, Nat.lt_add_one, Nat.zero_lt_succ, Nat.succ_pos, Nat.zero_le, beq_self_eq_true, k_gatepostref04_Strip_0, k_gatepostref04_Strip_2, k_gatepostref04_Strip_1, e5, e6, e7, l1, hn', ha3]
      simpa using O3
    · have w := wrap64 (x := (i : Int) + 1) (by omega) (by omega)
      have i1 := fun {K : V → Heap → Prop} {h : Heap} => hlist.at (F := F) (L := L) (e := E0) (K := K) (h := h) (i := i) (by rw [strs_len]; exact hl2)
      have a1 := strs_at hl2
      have hmem : ns.getD i [] ∈ ns := getD_mem hl2
      generalize hf : ns.getD i [] = f at *
      
      simp (maxSteps := 4000000) only [vm, vl, Arg.get, cells, stor, boundO, resultsV, resV, partK, loadV, Vm.part, fillC, splice, reduceIte, reduceCtorEq, Nat.reduceEqDiff, Nat.reduceAdd, Nat.reduceSub, Nat.reduceMul, Nat.reduceLeDiff, ne_eq, not_false_eq_true, Int.reduceEq, Int.reduceLT, Int.reduceLE, Int.reduceNeg, Int.reduceToNat, Int.reduceGT, Int.reduceGE, Nat.reduceLT, Nat.lt_add_one, Nat.zero_lt_succ, Nat.succ_pos, Nat.zero_le, beq_self_eq_true, k_gatepostref04_Strip_0, k_gatepostref04_Strip_2, k_gatepostref04_Strip_1, e5, e6, e7, l1, hl1, i1, a1, cells]
      refine (rDel_ok G (by omega) (fun f hf => hln f (fold_mem hf)) (hnb f hmem)).mono fun v h2 G2 => ?_
      obtain ⟨⟨t4, rfl⟩, _⟩ := id G2
      have G3 := G2.list
      simp (maxSteps := 4000000) only [vm, vl, Arg.get, cells, stor, boundO, resultsV, resV, partK, loadV, Vm.part, fillC, splice, reduceIte, reduceCtorEq, Nat.reduceEqDiff, Nat.reduceAdd, Nat.reduceSub, Nat.reduceMul, Nat.reduceLeDiff, ne_eq, not_false_eq_true, Int.reduceEq, Int.reduceLT, Int.reduceLE, Int.reduceNeg, Int.reduceToNat, Int.reduceGT, Int.reduceGE, Nat.reduceLT, Nat.lt_add_one, Nat.zero_lt_succ, Nat.succ_pos, Nat.zero_le, beq_self_eq_true, k_gatepostref04_Strip_0, k_gatepostref04_Strip_2, k_gatepostref04_Strip_1, w]
      exact ⟨ns.length - (i + 1), by omega, i + 1, rfl, hl2, by rw [htk, List.foldl_append]; exact G3, rfl, _, rfl⟩
  rcases hp with ⟨q, rfl, t, rfl⟩ | ⟨out, y, q, rfl, G⟩
  · obtain ⟨x', h'', ha, hc⟩ := main .nsl [] (h ++ t) (by unfold namesL; rw [show namesO (joinS (valsOf l connS)) = none from q]; rfl) (by simp) (by simp) ⟨t, rfl⟩ (.inl ⟨rfl, rfl⟩)
    simp only [strs, sevenL, List.map_cons, List.map_nil] at ha
    
    simp (maxSteps := 4000000) only [vm, vl, Arg.get, cells, stor, boundO, resultsV, resV, partK, loadV, Vm.part, fillC, splice, reduceIte, reduceCtorEq, Nat.reduceEqDiff, Nat.reduceAdd, Nat.reduceSub, Nat.reduceMul, Nat.reduceLeDiff, ne_eq, not_false_eq_true, Int.reduceEq, Int.reduceLT, Int.reduceLE, Int.reduceNeg, Int.reduceToNat, Int.reduceGT, Int.reduceGE, Nat.reduceLT, Nat.lt_add_one, Nat.zero_lt_succ, Nat.succ_pos, Nat.zero_le, beq_self_eq_true, ha]
    exact hc _ rfl rfl rfl
  · obtain ⟨b1, b2⟩ := names_bound q
    obtain ⟨x', h'', ha, hc⟩ := main y out h' (by unfold namesL; rw [show namesO (joinS (valsOf l connS)) = some out from q]; rfl) (Nat.le_trans b1 (by omega)) (fun n hn => Nat.le_trans (b2 n hn) hj) G.1 G.list
    simp only [strs, sevenL, List.map_cons, List.map_nil] at ha
    
    simp (maxSteps := 4000000) only [vm, vl, Arg.get, cells, stor, boundO, resultsV, resV, partK, loadV, Vm.part, fillC, splice, reduceIte, reduceCtorEq, Nat.reduceEqDiff, Nat.reduceAdd, Nat.reduceSub, Nat.reduceMul, Nat.reduceLeDiff, ne_eq, not_false_eq_true, Int.reduceEq, Int.reduceLT, Int.reduceLE, Int.reduceNeg, Int.reduceToNat, Int.reduceGT, Int.reduceGE, Nat.reduceLT, Nat.lt_add_one, Nat.zero_lt_succ, Nat.succ_pos, Nat.zero_le, beq_self_eq_true, ha]
    exact hc _ rfl rfl rfl
end Go.Proofs.YtfnepflonoadkaaDoor.Vh
