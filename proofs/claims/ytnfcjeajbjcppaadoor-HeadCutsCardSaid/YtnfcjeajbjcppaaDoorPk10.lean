/- HeadCuts on the machine. -/
import Derived.Test.YtnfcjeajbjcppaaDoorPk9
section
set_option linter.unusedVariables false
set_option linter.unusedSimpArgs false
namespace Go.Proofs.YtnfcjeajbjcppaaDoor.Vh
open Go.Vm Go.Vt
attribute [local congr] wi_congr wg_congr wgd_congr wb_congr wl_congr cf_congr
variable {L : FuncId → List V → V → Prop} {h : Heap} {kr kc : Nat} {S : Nat → Prop} {ans : Bool} {st : HS}
def LstP (H : Heap) (x y : V) (l : List Fld) : Prop :=
  (∃ k1 k2, x = .hsl 2 k1 l.length ∧ y = .hsl 2 k2 l.length ∧ H[k1]? = some (.box (flat (flds l))) ∧ H[k2]? = some (.box (flat (flds l)))) ∨ (x = .nsl ∧ y = .nsl)
theorem LstP.same {H : Heap} {x y : V} {l : List Fld} (g : LstP H x y l) (hl : l.length < 1000000) : ∀ t, Cf F L i_gatepostref04_Same [x, y] (H ++ t) (Pu (H ++ t) (.bool true)) := by
  intro t
  rcases g with ⟨k1, k2, rfl, rfl, h1, h2⟩ | ⟨rfl, rfl⟩
  · exact hSame_ok hl (get_old h1) (get_old h2)
  · have := fSame_ok (L := L) (h := H ++ t) (x := .nsl) (y := .nsl) (l := []) (m := []) (.inl ⟨rfl, rfl⟩) (.inl ⟨rfl, rfl⟩) (by simp) (by simp)
    exact this
theorem LstP.old {H H' : Heap} {x y : V} {l : List Fld} (g : LstP H x y l) (f : ∀ (i : Nat) (cs : List V), H[i]? = some (.box cs) → H'[i]? = some (.box cs)) : LstP H' x y l := by
  rcases g with ⟨k1, k2, h1, h2, h3, h4⟩ | g
  · exact .inl ⟨k1, k2, h1, h2, f _ _ h3, f _ _ h4⟩
  · exact .inr g
theorem Cuts5_ok {H : Heap} {n e e1 e2 : Int} {d d' : Bool} {x3 : Int} {k18 k20 k22 k24 : Nat} {a b r : Bs} {m c q : Int} {x1 x2 y1 y2 : V} {l : List Fld}
    (g18 : H[k18]? = some (.box [.str a, .str b, .int .i64 m, x1])) (g20 : H[k20]? = some (.box [.str a, .str b, .int .i64 m, x2])) (g22 : H[k22]? = some (.box [.int .i64 c, .int .i64 q, .str r, y1])) (g24 : H[k24]? = some (.box [.int .i64 c, .int .i64 q, .str r, y2]))
    (hl : l.length < 1000000) (L1 : LstP H x1 x2 l) (L2 : LstP H y1 y2 l) :
    k_gatepostlaw05_HeadCuts_5 L (fun v _ => v = .bool true) (.int .i64 n) (.bool d) (.int .i64 e) (.int .i64 n) (.bool d) (.int .i64 e) (.ptr k18 0) (.ptr k20 0) (.ptr k22 0) (.ptr k24 0) (.int .i64 e1) (.int .i64 e1) (.int .i64 e2) (.int .i64 e2) (.tup [.int .i64 18, .bool d', .int .i64 x3]) H := by
  
  unfold k_gatepostlaw05_HeadCuts_5
  have bd : (d == d) = true := by cases d <;> rfl
  have S1 := L1.same (L := L) hl
  have S2 := fun u t => (L2.old (H' := H ++ u) (fun i cs hx => get_old hx)).same (L := L) hl t
  have g22' := fun u => get_old (t := u) g22
  have g24' := fun u => get_old (t := u) g24
  simp (maxSteps := 4000000) only [vm, vl, Arg.get, cells, stor, boundO, resultsV, resV, partK, loadV, Vm.part, fillC, splice, reduceIte, reduceCtorEq, Nat.reduceEqDiff, Nat.reduceAdd, Nat.reduceSub, Nat.reduceMul, Nat.reduceLeDiff, ne_eq, not_false_eq_true, Int.reduceEq, Int.reduceLT, Int.reduceLE, Int.reduceNeg, Int.reduceToNat, Int.reduceGT, Int.reduceGE, Nat.reduceLT, Nat.lt_add_one, Nat.zero_lt_succ, Nat.succ_pos, Nat.zero_le, beq_self_eq_true, bd, decide_true, g18, g20]
  refine Cf.pu (SameReq_ok S1) fun u => ?_
  unfold k_gatepostlaw05_HeadCuts_4
  simp (maxSteps := 4000000) only [vm, vl, Arg.get, cells, stor, boundO, resultsV, resV, partK, loadV, Vm.part, fillC, splice, reduceIte, reduceCtorEq, Nat.reduceEqDiff, Nat.reduceAdd, Nat.reduceSub, Nat.reduceMul, Nat.reduceLeDiff, ne_eq, not_false_eq_true, Int.reduceEq, Int.reduceLT, Int.reduceLE, Int.reduceNeg, Int.reduceToNat, Int.reduceGT, Int.reduceGE, Nat.reduceLT, Nat.lt_add_one, Nat.zero_lt_succ, Nat.succ_pos, Nat.zero_le, beq_self_eq_true, decide_true, g22', g24']
  refine Cf.pu (SameRes_ok (S2 u)) fun u2 => ?_
  unfold k_gatepostlaw05_HeadCuts_3
  simp (maxSteps := 4000000) only [vm, vl, Arg.get, cells, stor, boundO, resultsV, resV, partK, loadV, Vm.part, fillC, splice, reduceIte, reduceCtorEq, Nat.reduceEqDiff, Nat.reduceAdd, Nat.reduceSub, Nat.reduceMul, Nat.reduceLeDiff, ne_eq, not_false_eq_true, Int.reduceEq, Int.reduceLT, Int.reduceLE, Int.reduceNeg, Int.reduceToNat, Int.reduceGT, Int.reduceGE, Nat.reduceLT, Nat.lt_add_one, Nat.zero_lt_succ, Nat.succ_pos, Nat.zero_le, beq_self_eq_true, decide_true]
def conB : Bs := [71, 69, 84, 32, 47, 32, 72, 84, 84, 80, 47, 49, 46, 49, 13, 10, 13, 10, 120]
theorem con_18 : (feedS false conB st0).1 = 18 := by decide +kernel
def One (h' : Heap) (c : Bool) (x : V) (l : List Fld) : Prop := (c = true ∧ ∃ k, x = .hsl 2 k l.length ∧ h'[k]? = some (.box (flat (flds l)))) ∨ (c = false ∧ x = .nsl)
theorem One.two {H : Heap} {c : Bool} {x y : V} {l : List Fld} (g1 : One H c x l) (g2 : One H c y l) : LstP H x y l := by
  rcases g1 with ⟨h1, k1, h2, h3⟩ | ⟨h1, h2⟩ <;> rcases g2 with ⟨h4, k2, h5, h6⟩ | ⟨h4, h5⟩
  · exact .inl ⟨k1, k2, h2, h5, h3, h6⟩
  · rw [h1] at h4; cases h4
  · rw [h1] at h4; cases h4
  · exact .inr ⟨h2, h5⟩
theorem One.old {H H' : Heap} {c : Bool} {x : V} {l : List Fld} (g : One H c x l) (f : ∀ (i : Nat) (cs : List V), H[i]? = some (.box cs) → H'[i]? = some (.box cs)) : One H' c x l := by
  rcases g with ⟨h1, k, h2, h3⟩ | g
  · exact .inl ⟨h1, k, h2, f _ _ h3⟩
  · exact .inr g
theorem req_told {c : Bool} {a b : Bs} {m : Int} {fs : List Fld} {v : V} {h' : Heap} (g : TellP h c (.str a) (.str b) (.int .i64 m) (.str []) (.str []) (.int .i64 0) fs v h') :
    (∃ t, h' = h ++ t) ∧ ∃ x, v = .tup [.agg [.str (if c then a else []), .str (if c then b else []), .int .i64 (if c then m else 0), x], .int .i64 (if c then 0 else 16)] ∧ One h' c x fs := by
  obtain ⟨h1, ⟨hc, k, hv, hk⟩ | ⟨hc, hv⟩⟩ := g
  · subst hc; exact ⟨h1, _, hv, .inl ⟨rfl, k, rfl, hk⟩⟩
  · subst hc; exact ⟨h1, _, hv, .inr ⟨rfl, rfl⟩⟩
theorem res_told {c : Bool} {a b : Int} {m : Bs} {fs : List Fld} {v : V} {h' : Heap} (g : TellP h c (.int .i64 a) (.int .i64 b) (.str m) (.int .i64 0) (.int .i64 0) (.str []) fs v h') :
    (∃ t, h' = h ++ t) ∧ ∃ x, v = .tup [.agg [.int .i64 (if c then a else 0), .int .i64 (if c then b else 0), .str (if c then m else []), x], .int .i64 (if c then 0 else 16)] ∧ One h' c x fs := by
  obtain ⟨h1, ⟨hc, k, hv, hk⟩ | ⟨hc, hv⟩⟩ := g
  · subst hc; exact ⟨h1, _, hv, .inl ⟨rfl, k, rfl, hk⟩⟩
  · subst hc; exact ⟨h1, _, hv, .inr ⟨rfl, rfl⟩⟩
theorem at_end {X : O} : (h ++ [X])[h.length]? = some X := by rw [List.getElem?_append_right (Nat.le_refl _), Nat.sub_self]; rfl
theorem Cuts6_ok (HI : IndexOk L) (HC : CountOk L) {H : Heap} {n e e1 e2 : Int} {d : Bool} {k18 k20 k22 k24 : Nat} {a b r : Bs} {m c q : Int} {x1 x2 y1 y2 : V} {l : List Fld}
    (g18 : H[k18]? = some (.box [.str a, .str b, .int .i64 m, x1])) (g20 : H[k20]? = some (.box [.str a, .str b, .int .i64 m, x2])) (g22 : H[k22]? = some (.box [.int .i64 c, .int .i64 q, .str r, y1])) (g24 : H[k24]? = some (.box [.int .i64 c, .int .i64 q, .str r, y2]))
    (hl : l.length < 1000000) (L1 : LstP H x1 x2 l) (L2 : LstP H y1 y2 l) :
    Cf F L i_head_New [.bool false] H fun v118 h => k_gatepostlaw05_HeadCuts_6 L (fun v _ => v = .bool true) (.int .i64 n) (.bool d) (.int .i64 e) (.int .i64 n) (.bool d) (.int .i64 e) (.ptr k18 0) (.ptr k20 0) (.ptr k22 0) (.ptr k24 0) (.int .i64 e1) (.int .i64 e1) (.int .i64 e2) (.int .i64 e2) v118 h := by
  
  refine New_ok.mono fun v h1 hv => ?_
  obtain ⟨rfl, _, R, t, rfl⟩ := hv
  unfold k_gatepostlaw05_HeadCuts_6
  have hm : ∀ X, stepI (.mark (.c (.hsl 1 (H ++ t).length 19))) E0 ((H ++ t) ++ [O.box X]) = some (.hsl 1 (H ++ t).length 19, (H ++ t) ++ [O.box X]) := fun X => by simp [stepI, Arg.get]
  have f1 : ∀ (i : Nat) (cs : List V), H[i]? = some (.box cs) → (H ++ t)[i]? = some (.box cs) := fun i cs hx => get_old hx
  have hlt : ∀ (i : Nat) (cs : List V), H[i]? = some (.box cs) → i ≠ H.length := fun i cs hx hh => by have := lt_of_get hx; omega
  have B := bv_new (s := conB) R.lt
  have R2 := R.more (t := [O.box (conB.map ofByte)])
  have FF := Feed_ok HI HC R2 st0_ok B (by decide)
  have h19 : conB.length = 19 := rfl
  rw [h19] at FF
  have hcon : conB.map ofByte = flat [V.int .u8 71, .int .u8 69, .int .u8 84, .int .u8 32, .int .u8 47, .int .u8 32, .int .u8 72, .int .u8 84, .int .u8 84, .int .u8 80, .int .u8 47, .int .u8 49, .int .u8 46, .int .u8 49, .int .u8 13, .int .u8 10, .int .u8 13, .int .u8 10, .int .u8 120] := rfl
  rw [hcon] at FF
  generalize H ++ t = H1 at *
  simp (maxSteps := 4000000) only [vm, vl, Arg.get, cells, stor, boundO, resultsV, resV, partK, loadV, Vm.part, fillC, splice, reduceIte, reduceCtorEq, Nat.reduceEqDiff, Nat.reduceAdd, Nat.reduceSub, Nat.reduceMul, Nat.reduceLeDiff, ne_eq, not_false_eq_true, Int.reduceEq, Int.reduceLT, Int.reduceLE, Int.reduceNeg, Int.reduceToNat, Int.reduceGT, Int.reduceGE, Nat.reduceLT, Nat.lt_add_one, Nat.zero_lt_succ, Nat.succ_pos, Nat.zero_le, beq_self_eq_true, hm]
  refine FF.mono fun v h2 hv => ?_
  obtain ⟨rfl, _, _, fr⟩ := hv
  rw [con_18]
  have f2 : ∀ (i : Nat) (cs : List V), H[i]? = some (.box cs) → h2[i]? = some (.box cs) := fun i cs hx => fr.2 i _ (get_old (f1 i cs hx)) fun hh => by
    rcases hh with hh | hh
    · exact hh
    · exact hlt i cs hx hh
  exact Cuts5_ok (f2 _ _ g18) (f2 _ _ g20) (f2 _ _ g22) (f2 _ _ g24) hl (L1.old f2) (L2.old f2)
theorem Cuts2_ok (HI : IndexOk L) (HC : CountOk L) {H : Heap} {kx kxc ky kyc : Nat} {Sx Sy : Nat → Prop} {n e : Int} {d : Bool} (gx : RD H Sx kx kxc ans st) (gy : RD H Sy ky kyc ans st) (ho : HOk st) (ht : HTy st) :
    k_gatepostlaw05_HeadCuts_2 L (fun v _ => v = .bool true) (.ptr kx 0) (.ptr ky 0) (.int .i64 n) (.bool d) (.int .i64 e) (.int .i64 n) (.bool d) (.int .i64 e) H := by
  
  unfold k_gatepostlaw05_HeadCuts_2
  obtain ⟨⟨a, b, m, hq⟩, ⟨c, q, r, hp⟩⟩ := ht
  have hfs := ho.fs
  have Rq := fun {h' : Heap} {S' : Nat → Prop} {k kc' : Nat} (g : RD h' S' k kc' ans st) => Request_ok (L := L) g hfs
  have Rp := fun {h' : Heap} {S' : Nat → Prop} {k kc' : Nat} (g : RD h' S' k kc' ans st) => Response_ok (L := L) g hfs
  simp only [hq, hp] at Rq Rp
  simp (maxSteps := 4000000) only [vm, vl, Arg.get, cells, stor, boundO, resultsV, resV, partK, loadV, Vm.part, fillC, splice, reduceIte, reduceCtorEq, Nat.reduceEqDiff, Nat.reduceAdd, Nat.reduceSub, Nat.reduceMul, Nat.reduceLeDiff, ne_eq, not_false_eq_true, Int.reduceEq, Int.reduceLT, Int.reduceLE, Int.reduceNeg, Int.reduceToNat, Int.reduceGT, Int.reduceGE, Nat.reduceLT, Nat.lt_add_one, Nat.zero_lt_succ, Nat.succ_pos, Nat.zero_le, beq_self_eq_true]
  refine (Rq gx).mono fun v h1 hv => ?_
  obtain ⟨⟨t1, rfl⟩, x1, rfl, O1⟩ := req_told hv
  unfold k_gatepostlaw05_HeadCuts_10
  have gx1 := gx.more (t := t1)
  have gy1 := gy.more (t := t1)
  generalize H ++ t1 = H1 at *
  generalize (st.done && (ans == false)) = cq at *
  generalize (st.done && (ans == true)) = cp at *
  generalize hA : (if cq then a else []) = A at *
  generalize hB : (if cq then b else []) = B at *
  generalize hM : (if cq then m else 0) = M at *
  generalize hE : (if cq then (0 : Int) else 16) = E at *
  simp (maxSteps := 4000000) only [vm, vl, Arg.get, cells, stor, boundO, resultsV, resV, partK, loadV, Vm.part, fillC, splice, reduceIte, reduceCtorEq, Nat.reduceEqDiff, Nat.reduceAdd, Nat.reduceSub, Nat.reduceMul, Nat.reduceLeDiff, ne_eq, not_false_eq_true, Int.reduceEq, Int.reduceLT, Int.reduceLE, Int.reduceNeg, Int.reduceToNat, Int.reduceGT, Int.reduceGE, Nat.reduceLT, Nat.lt_add_one, Nat.zero_lt_succ, Nat.succ_pos, Nat.zero_le, beq_self_eq_true]
  refine (Rq gy1.more).mono fun v h2 hv => ?_
  obtain ⟨⟨t2, rfl⟩, x2, rfl, O2⟩ := req_told hv
  rw [hA, hB, hM, hE]
  unfold k_gatepostlaw05_HeadCuts_9
  have g18 := get_old (t := t2) (at_end (h := H1) (X := .box [.str A, .str B, .int .i64 M, x1]))
  have O1b := O1.old (H' := H1 ++ [.box [.str A, .str B, .int .i64 M, x1]] ++ t2) (fun i cs hx => get_old (get_old hx))
  have gx2 := gx1.more (t := [.box [.str A, .str B, .int .i64 M, x1]]).more (t := t2)
  have gy2 := gy1.more (t := [.box [.str A, .str B, .int .i64 M, x1]]).more (t := t2)
  generalize H1 ++ [O.box [.str A, .str B, .int .i64 M, x1]] ++ t2 = H2 at *
  simp (maxSteps := 4000000) only [vm, vl, Arg.get, cells, stor, boundO, resultsV, resV, partK, loadV, Vm.part, fillC, splice, reduceIte, reduceCtorEq, Nat.reduceEqDiff, Nat.reduceAdd, Nat.reduceSub, Nat.reduceMul, Nat.reduceLeDiff, ne_eq, not_false_eq_true, Int.reduceEq, Int.reduceLT, Int.reduceLE, Int.reduceNeg, Int.reduceToNat, Int.reduceGT, Int.reduceGE, Nat.reduceLT, Nat.lt_add_one, Nat.zero_lt_succ, Nat.succ_pos, Nat.zero_le, beq_self_eq_true]
  refine (Rp gx2.more).mono fun v h3 hv => ?_
  obtain ⟨⟨t3, rfl⟩, y1, rfl, P1⟩ := res_told hv
  unfold k_gatepostlaw05_HeadCuts_8
  have g18' := get_old (t := t3) (get_old (t := [.box [.str A, .str B, .int .i64 M, x2]]) g18)
  have g20 := get_old (t := t3) (at_end (h := H2) (X := .box [.str A, .str B, .int .i64 M, x2]))
  have O1c := O1b.old (H' := H2 ++ [.box [.str A, .str B, .int .i64 M, x2]] ++ t3) (fun i cs hx => get_old (get_old hx))
  have O2c := O2.old (H' := H2 ++ [.box [.str A, .str B, .int .i64 M, x2]] ++ t3) (fun i cs hx => get_old (get_old hx))
  have gy3 := gy2.more (t := [.box [.str A, .str B, .int .i64 M, x2]]).more (t := t3)
  generalize H2 ++ [O.box [.str A, .str B, .int .i64 M, x2]] ++ t3 = H3 at *
  generalize hC : (if cp then c else 0) = C at *
  generalize hQ : (if cp then q else 0) = Q at *
  generalize hR : (if cp then r else []) = R at *
  generalize hF : (if cp then (0 : Int) else 16) = G at *
  simp (maxSteps := 4000000) only [vm, vl, Arg.get, cells, stor, boundO, resultsV, resV, partK, loadV, Vm.part, fillC, splice, reduceIte, reduceCtorEq, Nat.reduceEqDiff, Nat.reduceAdd, Nat.reduceSub, Nat.reduceMul, Nat.reduceLeDiff, ne_eq, not_false_eq_true, Int.reduceEq, Int.reduceLT, Int.reduceLE, Int.reduceNeg, Int.reduceToNat, Int.reduceGT, Int.reduceGE, Nat.reduceLT, Nat.lt_add_one, Nat.zero_lt_succ, Nat.succ_pos, Nat.zero_le, beq_self_eq_true]
  refine (Rp gy3.more).mono fun v h4 hv => ?_
  obtain ⟨⟨t4, rfl⟩, y2, rfl, P2⟩ := res_told hv
  rw [hC, hQ, hR, hF]
  unfold k_gatepostlaw05_HeadCuts_7
  have w18 := get_old (t := t4) (get_old (t := [.box [.int .i64 C, .int .i64 Q, .str R, y1]]) g18')
  have w20 := get_old (t := t4) (get_old (t := [.box [.int .i64 C, .int .i64 Q, .str R, y1]]) g20)
  have w22 := get_old (t := t4) (at_end (h := H3) (X := .box [.int .i64 C, .int .i64 Q, .str R, y1]))
  have O1d := O1c.old (H' := H3 ++ [.box [.int .i64 C, .int .i64 Q, .str R, y1]] ++ t4) (fun i cs hx => get_old (get_old hx))
  have O2d := O2c.old (H' := H3 ++ [.box [.int .i64 C, .int .i64 Q, .str R, y1]] ++ t4) (fun i cs hx => get_old (get_old hx))
  have P1d := P1.old (H' := H3 ++ [.box [.int .i64 C, .int .i64 Q, .str R, y1]] ++ t4) (fun i cs hx => get_old (get_old hx))
  generalize H3 ++ [O.box [.int .i64 C, .int .i64 Q, .str R, y1]] ++ t4 = H4 at *
  have w24 := at_end (h := H4) (X := .box [.int .i64 C, .int .i64 Q, .str R, y2])
  simp (maxSteps := 4000000) only [vm, vl, Arg.get, cells, stor, boundO, resultsV, resV, partK, loadV, Vm.part, fillC, splice, reduceIte, reduceCtorEq, Nat.reduceEqDiff, Nat.reduceAdd, Nat.reduceSub, Nat.reduceMul, Nat.reduceLeDiff, ne_eq, not_false_eq_true, Int.reduceEq, Int.reduceLT, Int.reduceLE, Int.reduceNeg, Int.reduceToNat, Int.reduceGT, Int.reduceGE, Nat.reduceLT, Nat.lt_add_one, Nat.zero_lt_succ, Nat.succ_pos, Nat.zero_le, beq_self_eq_true]
  have fo : ∀ (i : Nat) (cs : List V), H4[i]? = some (.box cs) → (H4 ++ [O.box [.int .i64 C, .int .i64 Q, .str R, y2]])[i]? = some (.box cs) := fun i cs hx => get_old hx
  exact Cuts6_ok HI HC (get_old w18) (get_old w20) (get_old w22) w24 (by omega) ((O1d.two O2d).old fo) ((P1d.two P2).old fo)
theorem Cuts0_ok (HI : IndexOk L) (HC : CountOk L) {H : Heap} {kx kxc ky kyc : Nat} {Sx : Nat → Prop} {e : Env} {x0 x1 : V} {bs : Bs} {m : Nat} (gx : RD H Sx kx kxc ans (feedS ans bs st0).2) (hox : HOk (feedS ans bs st0).2) (gy : RD H (fun _ => False) ky kyc ans st0)
    (hky : ¬ Sx ky) (hkyc : ¬ Sx kyc) (hk1 : kx ≠ ky) (hk2 : kxc ≠ ky) (hb : (x0 = .nsl ∧ bs = []) ∨ ∃ o, x0 = .sl 1 o (bs.map ofByte)) (hl : bs.length ≤ 9000) (hx : Ints x1 m) (hm : m ≤ 140737488351232)
    (e0 : e 0 = x0) (e1 : e 1 = x1) (e7 : e 7 = .ptr kx 0) (e8 : e 8 = .ptr ky 0) (e9 : e 9 = .int .i64 (feedS ans bs st0).1) (e10 : e 10 = .bool (feedS ans bs st0).2.done) (e11 : e 11 = .int .i64 (feedS ans bs st0).2.e) (e12 : e 12 = .int .i64 (0 : Nat)) (e13 : e 13 = .bool st0.done) (e14 : e 14 = .int .i64 st0.e) (e15 : e 15 = .int .i64 (0 : Nat)) :
    Wl F L lc_gatepostlaw05_HeadCuts_0 (q_gatepostlaw05_HeadCuts_0 L (fun v _ => v = .bool true)) e H := by
  
  have ht0 : HTy st0 := ⟨⟨_, _, _, rfl⟩, _, _, _, rfl⟩
  have htx : HTy (feedS ans bs st0).2 := feedS_ty ht0
  have hxl : ∀ i, Sx i → i < H.length := by obtain ⟨_, _, _, _, _, _, _, _, _, h8⟩ := gx; exact h8
  have hkx := gx.lt
  have hkxc : kxc < H.length := by obtain ⟨_, _, _, h2, _⟩ := gx; exact lt_of_get h2
  refine l_gatepostlaw05_HeadCuts_0 (fun n e h' => ∃ (i at_ : Nat) (s' : HS) (Sy : Nat → Prop), n = (if at_ < bs.length ∧ s'.done = false ∧ s'.e = 0 then m + 1 - i else 0) ∧ (at_ < bs.length ∧ s'.done = false ∧ s'.e = 0 → i ≤ m) ∧ i ≤ m + 1 ∧ at_ ≤ bs.length ∧ e 0 = x0 ∧ e 1 = x1 ∧ e 7 = .ptr kx 0 ∧ e 8 = .ptr ky 0 ∧ e 9 = .int .i64 (feedS ans bs st0).1 ∧ e 10 = .bool (feedS ans bs st0).2.done ∧ e 11 = .int .i64 (feedS ans bs st0).2.e ∧
    e 12 = .int .i64 at_ ∧ e 13 = .bool s'.done ∧ e 14 = .int .i64 s'.e ∧ e 15 = .int .i64 i ∧ RD h' Sx kx kxc ans (feedS ans bs st0).2 ∧ RD h' Sy ky kyc ans s' ∧ (∀ i, Sy i → H.length ≤ i) ∧ H.length ≤ h'.length ∧ HOk s' ∧ feedS ans bs st0 = (at_ + (feedS ans (bs.drop at_) s').1, (feedS ans (bs.drop at_) s').2)) ?_
    (n := if 0 < bs.length ∧ st0.done = false ∧ st0.e = 0 then m + 1 - 0 else 0) ⟨0, 0, st0, fun _ => False, rfl, fun _ => Nat.zero_le _, by omega, Nat.zero_le _, e0, e1, e7, e8, e9, e10, e11, e12, e13, e14, e15, gx, gy, fun i hh => hh.elim, Nat.le_refl _, st0_ok, by simp⟩
  clear e0 e1 e7 e8 e9 e10 e11 e12 e13 e14 e15 gx gy
  rintro n e h' ⟨i, at_, s', Sy, rfl, hi, him, hat, e0, e1, e7, e8, e9, e10, e11, e12, e13, e14, e15, gx, gy, hSy, hHl, ho, hfe⟩
  simp only [b_gatepostlaw05_HeadCuts_0]
  have hbv : Bv h' x0 (fun _ => False) bs := by
    rcases hb with hb | hb
    · exact .inl hb
    · exact .inr (.inl hb)
  simp only [e0]
  refine bv_len hbv ?_
  by_cases run : at_ < bs.length ∧ s'.done = false ∧ s'.e = 0
  case neg =>
    have hst : feedS ans (bs.drop at_) s' = (0, s') := by
      by_cases hlt : at_ < bs.length
      · exact feed_stop (fun hh => run ⟨hlt, hh.2, hh.1⟩)
      · rw [List.drop_eq_nil_of_le (by omega)]; rfl
    rw [hst] at hfe
    have K2 := Cuts2_ok (L := L) (n := (at_ : Int)) (e := s'.e) (d := s'.done) HI HC (gx) (by rw [hfe]; exact gy) hox htx
    rw [hfe] at e9 e10 e11
    simp only [Nat.add_zero] at e9 e10 e11
    clear hfe hst
    by_cases hlt : at_ < bs.length
    · have c1 : decide (((at_ : Nat) : Int) < ((bs.length : Nat) : Int)) = true := decide_eq_true (by omega)
      cases hd : s'.done with
      | true =>
        rw [hd] at e10 e13 K2
        simp (maxSteps := 4000000) only [vm, vl, Arg.get, cells, stor, boundO, resultsV, resV, partK, loadV, Vm.part, fillC, splice, reduceIte, reduceCtorEq, Nat.reduceEqDiff, Nat.reduceAdd, Nat.reduceSub, Nat.reduceMul, Nat.reduceLeDiff, ne_eq, not_false_eq_true, Int.reduceEq, Int.reduceLT, Int.reduceLE, Int.reduceNeg, Int.reduceToNat, Int.reduceGT, Int.reduceGE, Nat.reduceLT, Nat.lt_add_one, Nat.zero_lt_succ, Nat.succ_pos, Nat.zero_le, beq_self_eq_true, e12, c1, e13, e7, e8, e9, e10, e11, e14, Bool.not_true]
        exact K2
      | false =>
        have he : ¬ s'.e = 0 := fun hh => run ⟨hlt, hd, hh⟩
        have c2 : decide (s'.e = 0) = false := decide_eq_false he
        rw [hd] at e10 e13 K2
        simp (maxSteps := 4000000) only [vm, vl, Arg.get, cells, stor, boundO, resultsV, resV, partK, loadV, Vm.part, fillC, splice, reduceIte, reduceCtorEq, Nat.reduceEqDiff, Nat.reduceAdd, Nat.reduceSub, Nat.reduceMul, Nat.reduceLeDiff, ne_eq, not_false_eq_true, Int.reduceEq, Int.reduceLT, Int.reduceLE, Int.reduceNeg, Int.reduceToNat, Int.reduceGT, Int.reduceGE, Nat.reduceLT, Nat.lt_add_one, Nat.zero_lt_succ, Nat.succ_pos, Nat.zero_le, beq_self_eq_true, e12, c1, e13, e7, e8, e9, e10, e11, e14, c2, Bool.not_false]
        exact K2
    · have c1 : decide (((at_ : Nat) : Int) < ((bs.length : Nat) : Int)) = false := decide_eq_false (by omega)
      simp (maxSteps := 4000000) only [vm, vl, Arg.get, cells, stor, boundO, resultsV, resV, partK, loadV, Vm.part, fillC, splice, reduceIte, reduceCtorEq, Nat.reduceEqDiff, Nat.reduceAdd, Nat.reduceSub, Nat.reduceMul, Nat.reduceLeDiff, ne_eq, not_false_eq_true, Int.reduceEq, Int.reduceLT, Int.reduceLE, Int.reduceNeg, Int.reduceToNat, Int.reduceGT, Int.reduceGE, Nat.reduceLT, Nat.lt_add_one, Nat.zero_lt_succ, Nat.succ_pos, Nat.zero_le, beq_self_eq_true, e12, c1, e13, e7, e8, e9, e10, e11, e14]
      exact K2
  obtain ⟨r1, r2, r3⟩ := run
  have him2 := hi ⟨r1, r2, r3⟩
  have c1 : decide (((at_ : Nat) : Int) < ((bs.length : Nat) : Int)) = true := decide_eq_true (by omega)
  have c2 : decide (s'.e = 0) = true := decide_eq_true r3
  rw [r2] at e13
  simp (maxSteps := 4000000) only [vm, vl, Arg.get, cells, stor, boundO, resultsV, resV, partK, loadV, Vm.part, fillC, splice, reduceIte, reduceCtorEq, Nat.reduceEqDiff, Nat.reduceAdd, Nat.reduceSub, Nat.reduceMul, Nat.reduceLeDiff, ne_eq, not_false_eq_true, Int.reduceEq, Int.reduceLT, Int.reduceLE, Int.reduceNeg, Int.reduceToNat, Int.reduceGT, Int.reduceGE, Nat.reduceLT, Nat.lt_add_one, Nat.zero_lt_succ, Nat.succ_pos, Nat.zero_le, beq_self_eq_true, e12, c1, e13, e14, c2, Bool.not_false]
  unfold k_gatepostlaw05_HeadCuts_11
  rw [e1, e8, e15]
  refine bv_len hbv ?_
  simp (maxSteps := 4000000) only [vm, vl, Arg.get, cells, stor, boundO, resultsV, resV, partK, loadV, Vm.part, fillC, splice, reduceIte, reduceCtorEq, Nat.reduceEqDiff, Nat.reduceAdd, Nat.reduceSub, Nat.reduceMul, Nat.reduceLeDiff, ne_eq, not_false_eq_true, Int.reduceEq, Int.reduceLT, Int.reduceLE, Int.reduceNeg, Int.reduceToNat, Int.reduceGT, Int.reduceGE, Nat.reduceLT, Nat.lt_add_one, Nat.zero_lt_succ, Nat.succ_pos, Nat.zero_le, beq_self_eq_true]
  refine (piece_ok hx (by omega) hl (by omega)).mono fun v h2 hv => ?_
  obtain ⟨rfl, tt, rfl, p1, p2, p3⟩ := hv
  obtain ⟨o, hx0⟩ : ∃ o, x0 = .sl 1 o (bs.map ofByte) := by
    rcases hb with ⟨_, hb⟩ | hb
    · rw [hb] at r1; simp at r1
    · exact hb
  have hsl : slslV 1 x0 at_ (some tt) none = some (.sl 1 .no (((bs.take tt).drop at_).map ofByte)) := by
    rw [hx0]
    simp only [slslV, ne_eq, not_true_eq_false, if_false, List.length_map]
    rw [if_pos ⟨p1, p2⟩, List.map_drop, List.map_take]
  have i0 : (0 : Int) ≤ (at_ : Int) := by omega
  have i1 : (0 : Int) ≤ (tt : Int) := by omega
  have hbl : ((bs.take tt).drop at_).length = tt - at_ := by rw [List.length_drop, List.length_take]; omega
  have hdr : bs.drop at_ = (bs.take tt).drop at_ ++ bs.drop tt := by
    rw [← List.drop_append_of_le_length (by rw [List.length_take]; omega), List.take_append_drop]
  generalize (bs.take tt).drop at_ = cs at *
  simp (maxSteps := 4000000) only [vm, vl, Arg.get, cells, stor, boundO, resultsV, resV, partK, loadV, Vm.part, fillC, splice, reduceIte, reduceCtorEq, Nat.reduceEqDiff, Nat.reduceAdd, Nat.reduceSub, Nat.reduceMul, Nat.reduceLeDiff, ne_eq, not_false_eq_true, Int.reduceEq, Int.reduceLT, Int.reduceLE, Int.reduceNeg, Int.reduceToNat, Int.reduceGT, Int.reduceGE, Nat.reduceLT, Nat.lt_add_one, Nat.zero_lt_succ, Nat.succ_pos, Nat.zero_le, beq_self_eq_true, i0, i1, hsl, Int.toNat_natCast]
  refine (Feed_ok HI HC gy ho (bs := cs) (.inr (.inl ⟨_, rfl⟩)) (by omega)).mono fun v h3 hv => ?_
  obtain ⟨rfl, R, O2, F⟩ := hv
  have hall := feed_all (ans := ans) (bs := cs) (st := s')
  have hle := feed_le (ans := ans) (bs := cs) (st := s')
  have happ := feed_app (ans := ans) (a := cs) (b := bs.drop tt) (st := s')
  rw [← hdr] at happ
  generalize feedS ans cs s' = r at *
  obtain ⟨rn, rs⟩ := r
  simp only at hall hle happ R O2 F ⊢
  have w1 := wrap64 (x := (tt : Int) - at_) (by omega) (by omega)
  have w2 := wrap64 (x := (at_ : Int) + rn) (by omega) (by omega)
  have w3 := wrap64 (x := (i : Int) + 1) (by omega) (by omega)
  have gx3 : RD h3 Sx kx kxc ans (feedS ans bs st0).2 := gx.fr F (fun hh => by
    rcases hh with hh | hh
    · have := hSy _ hh; omega
    · exact hk1 hh) (fun hh => by
    rcases hh with hh | hh
    · have := hSy _ hh; omega
    · exact hk2 hh) (fun j hj hh => by
    rcases hh with hh | hh
    · have := hSy _ hh; have := hxl _ hj; omega
    · exact hky (by rw [← hh]; exact hj))
  have hfin : feedS ans bs st0 = (at_ + rn + (feedS ans (bs.drop (at_ + rn)) rs).1, (feedS ans (bs.drop (at_ + rn)) rs).2) := by
    rw [hfe, happ]
    by_cases hr : rs.e = 0 ∧ rs.done = false
    · have : at_ + rn = tt := by have := hall hr.1 hr.2; omega
      rw [this]
      exact Prod.ext (by simp only; omega) rfl
    · rw [feed_stop (bs := bs.drop tt) hr, feed_stop (bs := bs.drop (at_ + rn)) hr]
      exact Prod.ext (by simp only; omega) rfl
  have fin : ∃ m_1, (m_1 < if at_ < bs.length ∧ s'.done = false ∧ s'.e = 0 then m + 1 - i else 0) ∧ (m_1 = if at_ + rn < bs.length ∧ rs.done = false ∧ rs.e = 0 then m + 1 - (i + 1) else 0) := by
    refine ⟨if at_ + rn < bs.length ∧ rs.done = false ∧ rs.e = 0 then m + 1 - (i + 1) else 0, ?_, rfl⟩
    have hp : (if at_ < bs.length ∧ s'.done = false ∧ s'.e = 0 then m + 1 - i else 0) = m + 1 - i := if_pos ⟨r1, r2, r3⟩
    rw [hp]
    split <;> omega
  obtain ⟨m1, f1, f2⟩ := fin
  have hnext : at_ + rn < bs.length ∧ rs.done = false ∧ rs.e = 0 → i + 1 ≤ m := by
    rintro ⟨q1, q2, q3⟩
    have := hall q3 q2
    rcases Nat.lt_or_ge i m with h5 | h5
    · omega
    · have := p3 h5; omega
  have hgS : ∀ j, growS Sy h2.length h3.length j → H.length ≤ j := by
    rintro j (hh | hh)
    · exact hSy j hh
    · omega
  have hH3 : H.length ≤ h3.length := Nat.le_trans hHl F.1
  unfold k_gatepostlaw05_HeadCuts_14
  cases hd : rs.done with
  | true =>
    simp (maxSteps := 4000000) only [vm, vl, Arg.get, cells, stor, boundO, resultsV, resV, partK, loadV, Vm.part, fillC, splice, reduceIte, reduceCtorEq, Nat.reduceEqDiff, Nat.reduceAdd, Nat.reduceSub, Nat.reduceMul, Nat.reduceLeDiff, ne_eq, not_false_eq_true, Int.reduceEq, Int.reduceLT, Int.reduceLE, Int.reduceNeg, Int.reduceToNat, Int.reduceGT, Int.reduceGE, Nat.reduceLT, Nat.lt_add_one, Nat.zero_lt_succ, Nat.succ_pos, Nat.zero_le, beq_self_eq_true, Bool.not_true, k_gatepostlaw05_HeadCuts_13, k_gatepostlaw05_HeadCuts_12, w1, w2, w3]
    exact ⟨m1, f1, i + 1, at_ + rn, rs, growS Sy h2.length h3.length, f2, hnext, by omega, by omega, e0, e1, e7, e8, e9, e10, e11, rfl, hd.symm, rfl, rfl, gx3, R, hgS, hH3, O2, hfin⟩
  | false =>
    by_cases he : rs.e = 0
    · have c4 : decide (rs.e = 0) = true := decide_eq_true he
      have c5 : decide (((rn : Nat) : Int) = (tt : Int) - at_) = true := decide_eq_true (by have := hall he hd; omega)
      simp (maxSteps := 4000000) only [vm, vl, Arg.get, cells, stor, boundO, resultsV, resV, partK, loadV, Vm.part, fillC, splice, reduceIte, reduceCtorEq, Nat.reduceEqDiff, Nat.reduceAdd, Nat.reduceSub, Nat.reduceMul, Nat.reduceLeDiff, ne_eq, not_false_eq_true, Int.reduceEq, Int.reduceLT, Int.reduceLE, Int.reduceNeg, Int.reduceToNat, Int.reduceGT, Int.reduceGE, Nat.reduceLT, Nat.lt_add_one, Nat.zero_lt_succ, Nat.succ_pos, Nat.zero_le, beq_self_eq_true, Bool.not_true, Bool.not_false, c4, c5, k_gatepostlaw05_HeadCuts_13, k_gatepostlaw05_HeadCuts_12, w1, w2, w3]
      exact ⟨m1, f1, i + 1, at_ + rn, rs, growS Sy h2.length h3.length, f2, hnext, by omega, by omega, e0, e1, e7, e8, e9, e10, e11, rfl, hd.symm, rfl, rfl, gx3, R, hgS, hH3, O2, hfin⟩
    · have c4 : decide (rs.e = 0) = false := decide_eq_false he
      simp (maxSteps := 4000000) only [vm, vl, Arg.get, cells, stor, boundO, resultsV, resV, partK, loadV, Vm.part, fillC, splice, reduceIte, reduceCtorEq, Nat.reduceEqDiff, Nat.reduceAdd, Nat.reduceSub, Nat.reduceMul, Nat.reduceLeDiff, ne_eq, not_false_eq_true, Int.reduceEq, Int.reduceLT, Int.reduceLE, Int.reduceNeg, Int.reduceToNat, Int.reduceGT, Int.reduceGE, Nat.reduceLT, Nat.lt_add_one, Nat.zero_lt_succ, Nat.succ_pos, Nat.zero_le, beq_self_eq_true, Bool.not_true, Bool.not_false, c4, k_gatepostlaw05_HeadCuts_13, k_gatepostlaw05_HeadCuts_12, w1, w2, w3]
      exact ⟨m1, f1, i + 1, at_ + rn, rs, growS Sy h2.length h3.length, f2, hnext, by omega, by omega, e0, e1, e7, e8, e9, e10, e11, rfl, hd.symm, rfl, rfl, gx3, R, hgS, hH3, O2, hfin⟩
theorem CutsA_ok (HI : IndexOk L) (HC : CountOk L) {e : Env} {x0 x1 : V} {bs : Bs} {m : Nat} (hb : (x0 = .nsl ∧ bs = []) ∨ ∃ o, x0 = .sl 1 o (bs.map ofByte)) (hl : bs.length ≤ 9000) (hx : Ints x1 m) (hm : m ≤ 140737488351232) (e0 : e 0 = x0) (e1 : e 1 = x1) :
    k_gatepostlaw05_HeadCuts_0 L (fun v _ => v = .bool true) e x0 (.bool ans) h := by
  
  unfold k_gatepostlaw05_HeadCuts_0
  simp (maxSteps := 4000000) only [vm, vl, Arg.get, cells, stor, boundO, resultsV, resV, partK, loadV, Vm.part, fillC, splice, reduceIte, reduceCtorEq, Nat.reduceEqDiff, Nat.reduceAdd, Nat.reduceSub, Nat.reduceMul, Nat.reduceLeDiff, ne_eq, not_false_eq_true, Int.reduceEq, Int.reduceLT, Int.reduceLE, Int.reduceNeg, Int.reduceToNat, Int.reduceGT, Int.reduceGE, Nat.reduceLT, Nat.lt_add_one, Nat.zero_lt_succ, Nat.succ_pos, Nat.zero_le, beq_self_eq_true]
  refine New_ok.mono fun v h1 hv => ?_
  obtain ⟨rfl, hle1, R1, t1, rfl⟩ := hv
  have hkc1 : h.length + 1 < (h ++ t1).length := by obtain ⟨_, _, _, h2, _⟩ := R1; exact lt_of_get h2
  generalize h ++ t1 = h1 at *
  refine New_ok.mono fun v h2 hv => ?_
  obtain ⟨rfl, hle2, R2, t2, rfl⟩ := hv
  have R1' := R1.more (t := t2)
  have hkc2 : h1.length + 1 < (h1 ++ t2).length := by obtain ⟨_, _, _, h2, _⟩ := R2; exact lt_of_get h2
  have hk1 := R1.lt
  have hk2 := R2.lt
  generalize h1 ++ t2 = h2 at *
  unfold k_gatepostlaw05_HeadCuts_16
  simp (maxSteps := 4000000) only [vm, vl, Arg.get, cells, stor, boundO, resultsV, resV, partK, loadV, Vm.part, fillC, splice, reduceIte, reduceCtorEq, Nat.reduceEqDiff, Nat.reduceAdd, Nat.reduceSub, Nat.reduceMul, Nat.reduceLeDiff, ne_eq, not_false_eq_true, Int.reduceEq, Int.reduceLT, Int.reduceLE, Int.reduceNeg, Int.reduceToNat, Int.reduceGT, Int.reduceGE, Nat.reduceLT, Nat.lt_add_one, Nat.zero_lt_succ, Nat.succ_pos, Nat.zero_le, beq_self_eq_true]
  unfold k_gatepostlaw05_HeadCuts_1
  have B : Bv h2 x0 (orK (fun _ => False) h.length) bs := by
    rcases hb with hb | hb
    · exact .inl hb
    · exact .inr (.inl hb)
  simp (maxSteps := 4000000) only [vm, vl, Arg.get, cells, stor, boundO, resultsV, resV, partK, loadV, Vm.part, fillC, splice, reduceIte, reduceCtorEq, Nat.reduceEqDiff, Nat.reduceAdd, Nat.reduceSub, Nat.reduceMul, Nat.reduceLeDiff, ne_eq, not_false_eq_true, Int.reduceEq, Int.reduceLT, Int.reduceLE, Int.reduceNeg, Int.reduceToNat, Int.reduceGT, Int.reduceGE, Nat.reduceLT, Nat.lt_add_one, Nat.zero_lt_succ, Nat.succ_pos, Nat.zero_le, beq_self_eq_true]
  refine (Feed_ok HI HC R1' st0_ok B (by omega)).mono fun v h3 hv => ?_
  obtain ⟨rfl, R3, O3, F3⟩ := hv
  unfold k_gatepostlaw05_HeadCuts_15
  have R2' : RD h3 (fun _ => False) h1.length (h1.length + 1) ans st0 := R2.fr F3 (fun hh => by
    rcases hh with hh | hh
    · exact hh
    · omega) (fun hh => by
    rcases hh with hh | hh
    · exact hh
    · omega) (fun i hh => hh.elim)
  simp (maxSteps := 4000000) only [vm, vl, Arg.get, cells, stor, boundO, resultsV, resV, partK, loadV, Vm.part, fillC, splice, reduceIte, reduceCtorEq, Nat.reduceEqDiff, Nat.reduceAdd, Nat.reduceSub, Nat.reduceMul, Nat.reduceLeDiff, ne_eq, not_false_eq_true, Int.reduceEq, Int.reduceLT, Int.reduceLE, Int.reduceNeg, Int.reduceToNat, Int.reduceGT, Int.reduceGE, Nat.reduceLT, Nat.lt_add_one, Nat.zero_lt_succ, Nat.succ_pos, Nat.zero_le, beq_self_eq_true]
  exact Cuts0_ok HI HC R3 O3 R2' (fun hh => by rcases hh with hh | hh; exact hh; omega) (fun hh => by rcases hh with hh | hh; exact hh; omega) (by omega) (by omega) hb hl hx hm e0 e1 rfl rfl rfl rfl rfl rfl rfl rfl rfl
theorem bytes_par {x : V} (v : VPar [.sl [.i .u8]] x) : ∃ bs : Bs, (x = .nsl ∧ bs = []) ∨ x = .sl 1 .no (bs.map ofByte) := by
  rcases v with rfl | ⟨es, rfl, hz, hes⟩
  · exact ⟨[], .inl ⟨rfl, rfl⟩⟩
  · clear hz
    suffices hk : ∃ bs : Bs, es = bs.map ofByte by
      obtain ⟨bs, rfl⟩ := hk
      exact ⟨bs, .inr rfl⟩
    induction es with
    | nil => exact ⟨[], rfl⟩
    | cons e es ih =>
      obtain ⟨bs, rfl⟩ := ih fun e he => hes e (List.mem_cons_of_mem _ he)
      obtain ⟨h1, h2, _⟩ := hes e List.mem_cons_self
      rw [h2 rfl] at h1
      obtain ⟨⟨n, rfl, hn⟩, _⟩ := h1
      simp [Lit.wf, IntKind.min, IntKind.max, IntKind.signed, IntKind.bits] at hn
      refine ⟨UInt8.ofNat n.toNat :: bs, ?_⟩
      have : ((UInt8.ofNat n.toNat).toNat : Int) = n := by
        rw [UInt8.toNat_ofNat']; omega
      simp only [List.map_cons, ofByte, this]
theorem ints_par {x : V} (v : VPar [.sl [.i .i64]] x) : ∃ m, Ints x m ∧ m ≤ 140737488351232 := by
  rcases v with rfl | ⟨es, rfl, hm, hes⟩
  · exact ⟨0, .inl ⟨rfl, rfl⟩, by omega⟩
  · refine ⟨es.length, .inr ⟨es, _, rfl, rfl, fun e he => ?_⟩, hm⟩
    obtain ⟨h1, h2, _⟩ := hes e he
    rw [h2 rfl] at h1
    obtain ⟨⟨n, rfl, hn⟩, _⟩ := h1
    exact ⟨n, rfl⟩
theorem Cuts_ok (HI : IndexOk L) (HC : CountOk L) {x0 x1 : V} {bs : Bs} {m : Nat} (hb : (x0 = .nsl ∧ bs = []) ∨ x0 = .sl 1 .no (bs.map ofByte)) (hx : Ints x1 m) (hm : m ≤ 140737488351232) :
    Cf F L i_gatepostlaw05_HeadCuts [x0, x1, .bool ans] h (fun v _ => v = .bool true) := by
  refine run_gatepostlaw05_HeadCuts ?_
  simp only [p_gatepostlaw05_HeadCuts]
  
  have hbv : Bv h x0 (fun _ => False) bs := by
    rcases hb with hb | hb
    · exact .inl hb
    · exact .inr (.inl ⟨_, hb⟩)
  refine bv_len hbv ?_
  by_cases hl : bs.length ≤ 9000
  · have c1 : decide (((bs.length : Nat) : Int) > 9000) = false := decide_eq_false (by omega)
    simp (maxSteps := 4000000) only [vm, vl, Arg.get, cells, stor, boundO, resultsV, resV, partK, loadV, Vm.part, fillC, splice, reduceIte, reduceCtorEq, Nat.reduceEqDiff, Nat.reduceAdd, Nat.reduceSub, Nat.reduceMul, Nat.reduceLeDiff, ne_eq, not_false_eq_true, Int.reduceEq, Int.reduceLT, Int.reduceLE, Int.reduceNeg, Int.reduceToNat, Int.reduceGT, Int.reduceGE, Nat.reduceLT, Nat.lt_add_one, Nat.zero_lt_succ, Nat.succ_pos, Nat.zero_le, beq_self_eq_true, c1]
    exact CutsA_ok HI HC (hb.imp id fun hh => ⟨_, hh⟩) hl hx hm rfl rfl
  · have c1 : decide (((bs.length : Nat) : Int) > 9000) = true := decide_eq_true (by omega)
    rcases hb with ⟨_, hb⟩ | hb
    · rw [hb] at hl; simp at hl
    have hsl : slslV 1 x0 0 (some 9000) none = some (.sl 1 .no ((bs.take 9000).map ofByte)) := by
      rw [hb]
      simp only [slslV, ne_eq, not_true_eq_false, if_false, List.length_map]
      rw [if_pos ⟨by omega, by omega⟩, List.map_take, List.drop_zero]
    have i1 : (0 : Int) ≤ 9000 := by omega
    have i2 : Int.toNat 9000 = 9000 := rfl
    simp (maxSteps := 4000000) only [vm, vl, Arg.get, cells, stor, boundO, resultsV, resV, partK, loadV, Vm.part, fillC, splice, reduceIte, reduceCtorEq, Nat.reduceEqDiff, Nat.reduceAdd, Nat.reduceSub, Nat.reduceMul, Nat.reduceLeDiff, ne_eq, not_false_eq_true, Int.reduceEq, Int.reduceLT, Int.reduceLE, Int.reduceNeg, Int.reduceToNat, Int.reduceGT, Int.reduceGE, Nat.reduceLT, Nat.lt_add_one, Nat.zero_lt_succ, Nat.succ_pos, Nat.zero_le, beq_self_eq_true, c1, hsl, i1, i2]
    exact CutsA_ok HI HC (bs := bs.take 9000) (.inr ⟨_, rfl⟩) (by rw [List.length_take]; omega) hx hm rfl rfl
theorem HeadCuts_row {x0 x1 x2 : V} (v0 : VPar [.sl [.i .u8]] x0) (v1 : VPar [.sl [.i .i64]] x1) (v2 : VPar [.l .b] x2) (w : World) (vs : List Value) (hv : Rvs w.heap.size G0 w [x0, x1, x2] vs) :
    Calls Tryd.prog i_gatepostlaw05_HeadCuts vs.toArray w fun e w' => e = .returned (.bool true) ∧ RowKit.Below w.heap.size w w' := by
  obtain ⟨bs, hb⟩ := bytes_par v0
  obtain ⟨m, hx, hm'⟩ := ints_par v1
  obtain ⟨b, rfl⟩ := v2
  exact calls_at hm hF (lh_at w) (Cuts_ok (indexOk fun _ _ _ h => .inl h) (countOk fun _ _ _ h => .inr h) hb hx hm') hv
end Go.Proofs.YtnfcjeajbjcppaaDoor.Vh
end
