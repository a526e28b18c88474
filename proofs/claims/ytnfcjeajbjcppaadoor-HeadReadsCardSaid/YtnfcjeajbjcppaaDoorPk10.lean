/- Several texts in one: VHead3, VHead4, VHead5, VHeadN, VHead7, VHead8, VHead9, VHeadR, VHeadS, VHeadV, VHeadC, VHeadW, VHeadX. -/
import Derived.Test.YtnfcjeajbjcppaaDoorPk9
import Derived.KernelRfl
section
set_option linter.unusedVariables false
set_option linter.unusedSimpArgs false
namespace Go.Proofs.YtnfcjeajbjcppaaDoor.Vh
open Go.Vm Go.Vt
attribute [local congr] wi_congr wg_congr wgd_congr wb_congr wl_congr cf_congr
variable {L : FuncId → List V → V → Prop} {h : Heap} {kr kc : Nat} {S : Nat → Prop} {ans : Bool} {st : HS}
def rdV (ans : Bool) (kc : Nat) (st : HS) (vo vf : V) : List V := [.fn (if ans then i_head_New_2 else i_head_New_1) [.ptr kc 0], .bool ans, .bool st.begun, .bool st.done, .int .i64 st.e, .int .i64 st.taken, vo, st.q.1, st.q.2.1, st.q.2.2, .nsl, st.p.1, st.p.2.1, st.p.2.2, .nsl, vf]
def RD (h : Heap) (S : Nat → Prop) (kr kc : Nat) (ans : Bool) (st : HS) : Prop :=
  ∃ vo vf, h[kr]? = some (.box (rdV ans kc st vo vf)) ∧ h[kc]? = some (.box [.ptr kr 0]) ∧ OwnV h vo S st.own ∧ FlsV h vf S st.fs ∧ ¬ S kr ∧ ¬ S kc ∧ kr ≠ kc ∧ (∀ i, S i → i < h.length)
def orK (S : Nat → Prop) (k : Nat) : Nat → Prop := fun i => S i ∨ i = k
/-- The reader's box is written, more stands behind. -/
theorem RD.put {u : Heap} {st' : HS} {vo vf : V} (g2 : h[kc]? = some (.box [.ptr kr 0])) (g3 : OwnV h vo S st'.own) (g4 : FlsV h vf S st'.fs) (g5 : ¬ S kr) (g6 : ¬ S kc) (g7 : kr ≠ kc) (g8 : ∀ i, S i → i < h.length) (hk : kr < h.length) :
    RD ((h ++ u).set kr (.box (rdV ans kc st' vo vf))) (growS S h.length ((h ++ u).set kr (.box (rdV ans kc st' vo vf))).length) kr kc ans st' ∧ Fr (orK S kr) h ((h ++ u).set kr (.box (rdV ans kc st' vo vf))) := by
  have hlt := lt_of_get g2
  have keep : ∀ i x, h[i]? = some x → S i → ((h ++ u).set kr (.box (rdV ans kc st' vo vf)))[i]? = some x := fun i x hx hs => by
    rw [List.getElem?_set_ne (fun hh => g5 (by rw [hh]; exact hs))]; exact get_old hx
  refine ⟨⟨vo, vf, List.getElem?_set_self (by simp; omega), ?_, g3.mono (fun i hs => .inl hs) (fun i x hx hs => keep i _ hx hs), g4.mono (fun i hs => .inl hs) (fun i n hx hs => keep i _ hx hs), ?_, ?_, g7, ?_⟩, ?_⟩
  · rw [List.getElem?_set_ne g7]; exact get_old g2
  · rintro (hh | hh)
    · exact g5 hh
    · omega
  · rintro (hh | hh)
    · exact g6 hh
    · omega
  · rintro i (hh | hh)
    · have := g8 i hh; simp; omega
    · exact hh.2
  · refine ⟨by simp, fun i x hx hn => ?_⟩
    rw [List.getElem?_set_ne (fun hh => hn (.inr hh.symm))]; exact get_old hx
theorem RD.same (g : RD h S kr kc ans st) : RD h (growS S h.length h.length) kr kc ans st := by
  obtain ⟨vo, vf, g1, g2, g3, g4, g5, g6, g7, g8⟩ := g
  refine ⟨vo, vf, g1, g2, g3.mono (fun i hs => .inl hs) (fun i x hx _ => hx), g4.mono (fun i hs => .inl hs) (fun i n hx _ => hx), ?_, ?_, g7, ?_⟩
  · rintro (hh | hh)
    · exact g5 hh
    · omega
  · rintro (hh | hh)
    · exact g6 hh
    · omega
  · rintro i (hh | hh)
    · exact g8 i hh
    · omega
def EndP (h : Heap) (S : Nat → Prop) (kr kc : Nat) (ans : Bool) (r : HS) (v : V) (h' : Heap) : Prop :=
  v = .int .i64 r.e ∧ RD h' (growS S h.length h'.length) kr kc ans { r with e := 0 } ∧ Fr (orK S kr) h h'
theorem Ended_first (HI : IndexOk L) (HC : CountOk L) {s : Bs} {tk : Nat} {own : Bs} {dn : Bool} {q p : V × V × V} {fs : List Fld} (g : RD h S kr kc ans ⟨tk, own, false, dn, 0, q, p, fs⟩) (hs : s.length < 100000) (h0 : s ≠ []) :
    Cf F L i___gatepost_head_Reader__ended [.ptr kr 0, .str s] h (EndP h S kr kc ans (endS ans s ⟨tk, own, false, dn, 0, q, p, fs⟩)) := by
  refine run___gatepost_head_Reader__ended ?_
  simp only [p___gatepost_head_Reader__ended]
  
  obtain ⟨vo, vf, g1, g2, g3, g4, g5, g6, g7, g8⟩ := g
  have hlt := lt_of_get g1
  have c1 : (s == []) = false := by cases s <;> simp_all
  have c2 : decide (s = []) = false := decide_eq_false h0
  have s1 : ∀ X, (h.set kr X)[kr]? = some X := fun X => List.getElem?_set_self hlt
  have s2 : ∀ X Y : O, (h.set kr X).set kr Y = h.set kr Y := fun X Y => List.set_set ..
  have s3 : ∀ X, (h.set kr X)[kc]? = some (.box [.ptr kr 0]) := fun X => by rw [List.getElem?_set_ne g7]; exact g2
  have hE : endS ans s ⟨tk, own, false, dn, 0, q, p, fs⟩ = ⟨tk, own, true, dn, (firstP ans s).2, if ans then q else (firstP ans s).1, if ans then (firstP ans s).1 else p, fs⟩ := by
    unfold endS; rw [if_pos rfl, if_neg h0]
  rw [hE]
  unfold rdV at g1
  simp only at g1
  cases ans with
  | false =>
    simp only [Bool.false_eq_true, if_false] at g1 ⊢
    simp (maxSteps := 4000000) only [vm, vl, Arg.get, cells, stor, boundO, resultsV, resV, partK, loadV, Vm.part, fillC, splice, reduceIte, reduceCtorEq, Nat.reduceEqDiff, Nat.reduceAdd, Nat.reduceSub, Nat.reduceMul, Nat.reduceLeDiff, ne_eq, not_false_eq_true, Int.reduceEq, Int.reduceLT, Int.reduceLE, Int.reduceNeg, Int.reduceToNat, Int.reduceGT, Int.reduceGE, Nat.reduceLT, Nat.lt_add_one, Nat.zero_lt_succ, Nat.succ_pos, Nat.zero_le, beq_self_eq_true, g1, s1, s2, c1, c2]
    refine (New1_ok HI HC hs (s3 _) (s1 _) g7).mono fun v h' hv => ?_
    obtain ⟨rfl, u, rfl⟩ := hv
    have R := RD.put (ans := false) (u := u) (st' := ⟨tk, own, true, dn, 0, (firstP false s).1, p, fs⟩) g2 g3 g4 g5 g6 g7 g8 hlt
    have hset : ∀ X Y : O, (h.set kr X ++ u).set kr Y = (h ++ u).set kr Y := fun X Y => by
      rw [List.set_append_left _ _ (by simpa using hlt), List.set_append_left _ _ hlt, List.set_set]
    refine ⟨rfl, ?_⟩
    rw [hset]
    exact R
  | true =>
    simp only [if_true] at g1 ⊢
    simp (maxSteps := 4000000) only [vm, vl, Arg.get, cells, stor, boundO, resultsV, resV, partK, loadV, Vm.part, fillC, splice, reduceIte, reduceCtorEq, Nat.reduceEqDiff, Nat.reduceAdd, Nat.reduceSub, Nat.reduceMul, Nat.reduceLeDiff, ne_eq, not_false_eq_true, Int.reduceEq, Int.reduceLT, Int.reduceLE, Int.reduceNeg, Int.reduceToNat, Int.reduceGT, Int.reduceGE, Nat.reduceLT, Nat.lt_add_one, Nat.zero_lt_succ, Nat.succ_pos, Nat.zero_le, beq_self_eq_true, g1, s1, s2, c1, c2]
    refine (New2_ok HI hs (s3 _) (s1 _) g7).mono fun v h' hv => ?_
    obtain ⟨rfl, u, rfl⟩ := hv
    have R := RD.put (ans := true) (u := u) (st' := ⟨tk, own, true, dn, 0, q, (firstP true s).1, fs⟩) g2 g3 g4 g5 g6 g7 g8 hlt
    have hset : ∀ X Y : O, (h.set kr X ++ u).set kr Y = (h ++ u).set kr Y := fun X Y => by
      rw [List.set_append_left _ _ (by simpa using hlt), List.set_append_left _ _ hlt, List.set_set]
    refine ⟨rfl, ?_⟩
    rw [hset]
    exact R
theorem Field0_ok (HI : IndexOk L) {s : Bs} {tk : Nat} {own : Bs} {dn : Bool} {q p : V × V × V} {fs : List Fld} {vo vf : V} (g1 : h[kr]? = some (.box (rdV ans kc ⟨tk, own, true, dn, 0, q, p, fs⟩ vo vf))) (g2 : h[kc]? = some (.box [.ptr kr 0])) (g3 : OwnV h vo S own) (g4 : FlsV h vf S fs) (g5 : ¬ S kr) (g6 : ¬ S kc) (g7 : kr ≠ kc) (g8 : ∀ i, S i → i < h.length) (hs : s.length < 100000) (hf : fs.length < 64) :
    k___gatepost_head_Reader__ended_0 L (EndP h S kr kc ans ⟨tk, own, true, dn, parE s, q, p, fs ++ [parF s]⟩) (.ptr kr 0) (.str s) h := by
  
  unfold k___gatepost_head_Reader__ended_0
  unfold rdV at g1
  simp only at g1
  have R := fun h' => Parse_ok (L := L) (h := h') (s := s) HI hs
  rw [parseV_form] at R
  simp (maxSteps := 4000000) only [vm, vl, Arg.get, cells, stor, boundO, resultsV, resV, partK, loadV, Vm.part, fillC, splice, reduceIte, reduceCtorEq, Nat.reduceEqDiff, Nat.reduceAdd, Nat.reduceSub, Nat.reduceMul, Nat.reduceLeDiff, ne_eq, not_false_eq_true, Int.reduceEq, Int.reduceLT, Int.reduceLE, Int.reduceNeg, Int.reduceToNat, Int.reduceGT, Int.reduceGE, Nat.reduceLT, Nat.lt_add_one, Nat.zero_lt_succ, Nat.succ_pos, Nat.zero_le, beq_self_eq_true]
  refine Cf.pu (R _) fun u => ?_
  unfold k___gatepost_head_Reader__ended_1
  have g1' := get_old (t := u) g1
  have g2' := get_old (t := u) g2
  have g3' := g3.mono (T := S) (h' := h ++ u) (fun i hh => hh) (fun i x hx _ => get_old hx)
  have g4' := g4.mono (T := S) (h' := h ++ u) (fun i hh => hh) (fun i n hx _ => get_old hx)
  have hle : h.length ≤ (h ++ u).length := by simp
  have hfr : ∀ i x, h[i]? = some x → (h ++ u)[i]? = some x := fun i x hx => get_old hx
  generalize h ++ u = H at *
  have hlt' := lt_of_get g1'
  -- the box of the field
  have g1b := get_old (t := [.box [.str (parF s).1, .str (parF s).2]]) g1'
  have g4b := g4'.mono (T := S) (h' := H ++ [.box [.str (parF s).1, .str (parF s).2]]) (fun i hh => hh) (fun i n hx _ => get_old hx)
  obtain ⟨vf', H2, ha, gf, hl2, hk2⟩ := fls_app (f := parF s) g4b (by omega)
  unfold fldV at ha
  have gr2 := hk2 kr _ g1b (fun hh => g5 hh.1)
  have gc2 := hk2 kc _ (get_old g2') (fun hh => g6 hh.1)
  have hlt2 := lt_of_get gr2
  have s1 : ∀ X, (H2.set kr X)[kr]? = some X := fun X => List.getElem?_set_self hlt2
  have hv : ∃ k', vf' = .sl 2 (.tip k') (flds (fs ++ [parF s])) := by
    rcases gf with ⟨_, hh⟩ | ⟨k', hh, _⟩
    · simp at hh
    · exact ⟨k', hh⟩
  obtain ⟨k', rfl⟩ := hv
  simp only [fldV]
  simp (maxSteps := 4000000) only [vm, vl, Arg.get, cells, stor, boundO, resultsV, resV, partK, loadV, Vm.part, fillC, splice, reduceIte, reduceCtorEq, Nat.reduceEqDiff, Nat.reduceAdd, Nat.reduceSub, Nat.reduceMul, Nat.reduceLeDiff, ne_eq, not_false_eq_true, Int.reduceEq, Int.reduceLT, Int.reduceLE, Int.reduceNeg, Int.reduceToNat, Int.reduceGT, Int.reduceGE, Nat.reduceLT, Nat.lt_add_one, Nat.zero_lt_succ, Nat.succ_pos, Nat.zero_le, beq_self_eq_true, g1b, ha, gr2, s1]
  have hl3 : H.length + 1 ≤ H2.length := by simpa using hl2
  refine ⟨rfl, ⟨vo, .sl 2 (.tip k') (flds (fs ++ [parF s])), s1 _, by rw [List.getElem?_set_ne g7]; exact gc2, ?_, ?_, ?_, ?_, g7, ?_⟩, ?_⟩
  · refine g3.mono (fun i hh => .inl hh) fun i cs hx hs => ?_
    rw [List.getElem?_set_ne (fun hh => g5 (by rw [hh]; exact hs))]
    exact hk2 i _ (get_old (hfr i _ hx)) fun hh => by obtain ⟨_, n, hn⟩ := hh; cases hn
  · refine gf.mono (fun i hh => ?_) fun i n hx hs => ?_
    · simp only [List.length_set]
      rcases hh with hh | hh
      · exact .inl hh
      · refine .inr ⟨?_, hh.2⟩
        have := hh.1
        simp only [List.length_append, List.length_singleton] at this
        omega
    · rw [List.getElem?_set_ne (fun hh => by rw [hh] at gr2; rw [gr2] at hx; cases hx)]; exact hx
  · rintro (hh | hh)
    · exact g5 hh
    · have := lt_of_get g1; omega
  · rintro (hh | hh)
    · exact g6 hh
    · have := lt_of_get g2; omega
  · rintro i (hh | hh)
    · have := g8 i hh; simp only [List.length_set]; omega
    · exact hh.2
  · refine ⟨by simp only [List.length_set]; omega, fun i x hx hn => ?_⟩
    rw [List.getElem?_set_ne (fun hh => hn (.inr hh.symm))]
    exact hk2 i x (get_old (hfr i x hx)) fun hh => hn (.inl hh.1)
theorem Ended_field (HI : IndexOk L) {s : Bs} {tk : Nat} {own : Bs} {dn : Bool} {q p : V × V × V} {fs : List Fld} (g : RD h S kr kc ans ⟨tk, own, true, dn, 0, q, p, fs⟩) (hs : s.length < 100000) (h0 : s ≠ []) (hf : fs.length < 64) :
    Cf F L i___gatepost_head_Reader__ended [.ptr kr 0, .str s] h (EndP h S kr kc ans (endS ans s ⟨tk, own, true, dn, 0, q, p, fs⟩)) := by
  have hE : endS ans s ⟨tk, own, true, dn, 0, q, p, fs⟩ = ⟨tk, own, true, dn, parE s, q, p, fs ++ [parF s]⟩ := by
    unfold endS; rw [if_neg (by simp), if_neg h0, if_neg (by simp only; omega)]
  rw [hE]
  refine run___gatepost_head_Reader__ended ?_
  simp only [p___gatepost_head_Reader__ended]
  
  obtain ⟨vo, vf, g1, g2, g3, g4, g5, g6, g7, g8⟩ := g
  have c1 : (s == []) = false := by cases s <;> simp_all
  have c2 : decide (s = []) = false := decide_eq_false h0
  have c3 : decide (((fs.length : Nat) : Int) = 64) = false := decide_eq_false (by omega)
  have K := Field0_ok HI g1 g2 g3 g4 g5 g6 g7 g8 hs hf
  unfold rdV at g1
  simp only at g1
  have hfl := flds_len fs
  rcases g4 with ⟨rfl, h5⟩ | ⟨k, rfl, _⟩
  · have : fs = [] := h5
    subst this
    simp (maxSteps := 4000000) only [vm, vl, Arg.get, cells, stor, boundO, resultsV, resV, partK, loadV, Vm.part, fillC, splice, reduceIte, reduceCtorEq, Nat.reduceEqDiff, Nat.reduceAdd, Nat.reduceSub, Nat.reduceMul, Nat.reduceLeDiff, ne_eq, not_false_eq_true, Int.reduceEq, Int.reduceLT, Int.reduceLE, Int.reduceNeg, Int.reduceToNat, Int.reduceGT, Int.reduceGE, Nat.reduceLT, Nat.lt_add_one, Nat.zero_lt_succ, Nat.succ_pos, Nat.zero_le, beq_self_eq_true, g1, c1, c2, c3]
    exact K
  · generalize flds fs = es at *
    simp (maxSteps := 4000000) only [vm, vl, Arg.get, cells, stor, boundO, resultsV, resV, partK, loadV, Vm.part, fillC, splice, reduceIte, reduceCtorEq, Nat.reduceEqDiff, Nat.reduceAdd, Nat.reduceSub, Nat.reduceMul, Nat.reduceLeDiff, ne_eq, not_false_eq_true, Int.reduceEq, Int.reduceLT, Int.reduceLE, Int.reduceNeg, Int.reduceToNat, Int.reduceGT, Int.reduceGE, Nat.reduceLT, Nat.lt_add_one, Nat.zero_lt_succ, Nat.succ_pos, Nat.zero_le, beq_self_eq_true, g1, c1, c2, hfl, c3]
    exact K
end Go.Proofs.YtnfcjeajbjcppaaDoor.Vh
end
section
set_option linter.unusedVariables false
set_option linter.unusedSimpArgs false
namespace Go.Proofs.YtnfcjeajbjcppaaDoor.Vh
open Go.Vm Go.Vt
attribute [local congr] wi_congr wg_congr wgd_congr wb_congr wl_congr cf_congr
variable {L : FuncId → List V → V → Prop} {h : Heap} {kr kc : Nat} {S : Nat → Prop} {ans : Bool} {st : HS}
theorem grow_grow {S : Nat → Prop} {a b c : Nat} (h1 : a ≤ b) (h2 : b ≤ c) : growS (growS S a b) b c = growS S a c := by
  funext i
  refine propext ⟨?_, ?_⟩
  · rintro ((hh | hh) | hh)
    · exact .inl hh
    · exact .inr ⟨hh.1, by omega⟩
    · exact .inr ⟨by omega, hh.2⟩
  · rintro (hh | hh)
    · exact .inl (.inl hh)
    · rcases Nat.lt_or_ge i b with h3 | h3
      · exact .inl (.inr ⟨hh.1, h3⟩)
      · exact .inr ⟨h3, hh.2⟩
theorem EndP.trans {h1 h' : Heap} {r : HS} {v : V} (a : Fr (orK S kr) h h1) (b : EndP h1 (growS S h.length h1.length) kr kc ans r v h') : EndP h S kr kc ans r v h' := by
  obtain ⟨b1, b2, b3⟩ := b
  rw [grow_grow a.1 b3.1] at b2
  refine ⟨b1, b2, a.trans (b3.mono fun i hh => ?_)⟩
  rcases hh with (hh | hh) | hh
  · exact .inl (.inl hh)
  · exact .inr hh
  · exact .inl (.inr hh)
theorem Ended_none {tk : Nat} {own : Bs} {dn : Bool} {q p : V × V × V} {fs : List Fld} (g : RD h S kr kc ans ⟨tk, own, false, dn, 0, q, p, fs⟩) :
    Cf F L i___gatepost_head_Reader__ended [.ptr kr 0, .str []] h (EndP h S kr kc ans ⟨tk, own, false, dn, 0, q, p, fs⟩) := by
  have G := g.same
  refine run___gatepost_head_Reader__ended ?_
  simp only [p___gatepost_head_Reader__ended]
  
  obtain ⟨vo, vf, g1, g2, g3, g4, g5, g6, g7, g8⟩ := g
  unfold rdV at g1
  simp only at g1
  simp (maxSteps := 4000000) only [vm, vl, Arg.get, cells, stor, boundO, resultsV, resV, partK, loadV, Vm.part, fillC, splice, reduceIte, reduceCtorEq, Nat.reduceEqDiff, Nat.reduceAdd, Nat.reduceSub, Nat.reduceMul, Nat.reduceLeDiff, ne_eq, not_false_eq_true, Int.reduceEq, Int.reduceLT, Int.reduceLE, Int.reduceNeg, Int.reduceToNat, Int.reduceGT, Int.reduceGE, Nat.reduceLT, Nat.lt_add_one, Nat.zero_lt_succ, Nat.succ_pos, Nat.zero_le, beq_self_eq_true, g1]
  exact ⟨rfl, G, .refl⟩
theorem Ended_done {tk : Nat} {own : Bs} {dn : Bool} {q p : V × V × V} {fs : List Fld} (g : RD h S kr kc ans ⟨tk, own, true, dn, 0, q, p, fs⟩) :
    Cf F L i___gatepost_head_Reader__ended [.ptr kr 0, .str []] h (EndP h S kr kc ans ⟨tk, own, true, true, 0, q, p, fs⟩) := by
  refine run___gatepost_head_Reader__ended ?_
  simp only [p___gatepost_head_Reader__ended]
  
  obtain ⟨vo, vf, g1, g2, g3, g4, g5, g6, g7, g8⟩ := g
  have R := RD.put (ans := ans) (u := []) (st' := ⟨tk, own, true, true, 0, q, p, fs⟩) g2 g3 g4 g5 g6 g7 g8 (lt_of_get g1)
  rw [List.append_nil] at R
  unfold rdV at g1
  simp only at g1
  simp (maxSteps := 4000000) only [vm, vl, Arg.get, cells, stor, boundO, resultsV, resV, partK, loadV, Vm.part, fillC, splice, reduceIte, reduceCtorEq, Nat.reduceEqDiff, Nat.reduceAdd, Nat.reduceSub, Nat.reduceMul, Nat.reduceLeDiff, ne_eq, not_false_eq_true, Int.reduceEq, Int.reduceLT, Int.reduceLE, Int.reduceNeg, Int.reduceToNat, Int.reduceGT, Int.reduceGE, Nat.reduceLT, Nat.lt_add_one, Nat.zero_lt_succ, Nat.succ_pos, Nat.zero_le, beq_self_eq_true, g1]
  exact ⟨rfl, R⟩
theorem Ended_many {s : Bs} {tk : Nat} {own : Bs} {dn : Bool} {q p : V × V × V} {fs : List Fld} (g : RD h S kr kc ans ⟨tk, own, true, dn, 0, q, p, fs⟩) (h0 : s ≠ []) (hf2 : fs.length = 64) :
    Cf F L i___gatepost_head_Reader__ended [.ptr kr 0, .str s] h (EndP h S kr kc ans ⟨tk, own, true, dn, 3, q, p, fs⟩) := by
  have G := g.same
  refine run___gatepost_head_Reader__ended ?_
  simp only [p___gatepost_head_Reader__ended]
  
  obtain ⟨vo, vf, g1, g2, g3, g4, g5, g6, g7, g8⟩ := g
  have c1 : (s == []) = false := by cases s <;> simp_all
  have c2 : decide (s = []) = false := decide_eq_false h0
  unfold rdV at g1
  simp only at g1
  have hfl := flds_len fs
  rcases g4 with ⟨_, h5⟩ | ⟨k, rfl, _⟩
  · have h5' : fs = [] := h5
    rw [h5'] at hf2; cases hf2
  · generalize flds fs = es at *
    have c3 : decide (((fs.length : Nat) : Int) = 64) = true := decide_eq_true (by omega)
    simp (maxSteps := 4000000) only [vm, vl, Arg.get, cells, stor, boundO, resultsV, resV, partK, loadV, Vm.part, fillC, splice, reduceIte, reduceCtorEq, Nat.reduceEqDiff, Nat.reduceAdd, Nat.reduceSub, Nat.reduceMul, Nat.reduceLeDiff, ne_eq, not_false_eq_true, Int.reduceEq, Int.reduceLT, Int.reduceLE, Int.reduceNeg, Int.reduceToNat, Int.reduceGT, Int.reduceGE, Nat.reduceLT, Nat.lt_add_one, Nat.zero_lt_succ, Nat.succ_pos, Nat.zero_le, beq_self_eq_true, g1, c1, c2, hfl, c3]
    exact ⟨rfl, G, .refl⟩
theorem Ended_ok (HI : IndexOk L) (HC : CountOk L) {s : Bs} (g : RD h S kr kc ans st) (he : st.e = 0) (hs : s.length < 100000) (hf : st.fs.length ≤ 64) :
    Cf F L i___gatepost_head_Reader__ended [.ptr kr 0, .str s] h (EndP h S kr kc ans (endS ans s st)) := by
  obtain ⟨tk, own, bg, dn, e, q, p, fs⟩ := st
  simp only at he hf
  subst he
  by_cases h0 : s = []
  · subst h0
    cases bg with
    | false =>
      have hE : endS ans [] ⟨tk, own, false, dn, 0, q, p, fs⟩ = ⟨tk, own, false, dn, 0, q, p, fs⟩ := by
        unfold endS; rw [if_pos rfl, if_pos rfl]
      rw [hE]
      exact Ended_none g
    | true =>
      have hE : endS ans [] ⟨tk, own, true, dn, 0, q, p, fs⟩ = ⟨tk, own, true, true, 0, q, p, fs⟩ := by
        unfold endS; rw [if_neg (by simp), if_pos rfl]
      rw [hE]
      exact Ended_done g
  · cases bg with
    | false => exact Ended_first HI HC g hs h0
    | true =>
      by_cases hf2 : fs.length = 64
      · have hE : endS ans s ⟨tk, own, true, dn, 0, q, p, fs⟩ = ⟨tk, own, true, dn, 3, q, p, fs⟩ := by
          unfold endS; rw [if_neg (by simp), if_neg h0, if_pos hf2]
        rw [hE]
        exact Ended_many g h0 hf2
      · exact Ended_field HI g hs h0 (by omega)
theorem Line_ok (HI : IndexOk L) (HC : CountOk L) (g : RD h S kr kc ans st) (he : st.e = 0) (h0 : 0 < st.own.length) (hl : st.own.length < 100000) (hf : st.fs.length ≤ 64) {K : V → Heap → Prop} (hK : ∀ v h', EndP h S kr kc ans (endS ans (cutL st.own) { st with own := [] }) v h' → K v h') :
    k___gatepost_head_Reader__take_1 L K (.ptr kr 0) h := by
  
  obtain ⟨tk, own, bg, dn, e, q, p, fs⟩ := st
  simp only at he h0 hl hf hK
  subst he
  obtain ⟨vo, vf, g1, g2, g3, g4, g5, g6, g7, g8⟩ := g
  simp only at g3 g4
  unfold k___gatepost_head_Reader__take_1
  unfold rdV at g1
  simp only at g1 ⊢
  rcases g3 with ⟨_, hh⟩ | ⟨k, cs, rfl, hk1, hk2, hk3, hk4⟩
  · rw [hh] at h0; cases h0
  simp (maxSteps := 4000000) only [vm, vl, Arg.get, cells, stor, boundO, resultsV, resV, partK, loadV, Vm.part, fillC, splice, reduceIte, reduceCtorEq, Nat.reduceEqDiff, Nat.reduceAdd, Nat.reduceSub, Nat.reduceMul, Nat.reduceLeDiff, ne_eq, not_false_eq_true, Int.reduceEq, Int.reduceLT, Int.reduceLE, Int.reduceNeg, Int.reduceToNat, Int.reduceGT, Int.reduceGE, Nat.reduceLT, Nat.lt_add_one, Nat.zero_lt_succ, Nat.succ_pos, Nat.zero_le, beq_self_eq_true, g1]
  refine Cf.pu (cut_ok hk1 hk2 hk3 hl h0) fun u => ?_
  unfold k___gatepost_head_Reader__take_2
  have g1' := get_old (t := u) g1
  have hlt := lt_of_get g1
  have hlt' := lt_of_get g1'
  have s1 : ∀ X, ((h ++ u).set kr X)[kr]? = some X := fun X => List.getElem?_set_self hlt'
  have i0 : 0 ≤ own.length := Nat.zero_le _
  have R := RD.put (ans := ans) (u := u) (st' := ⟨tk, [], bg, dn, 0, q, p, fs⟩) (vo := .hsl 1 k 0) g2 (.inr ⟨k, cs, rfl, hk1, Nat.zero_le _, rfl, hk4⟩) g4 g5 g6 g7 g8 hlt
  have Q := fun hx => Ended_ok HI HC R.1 rfl (s := cutL own) hx hf
  have hcl := cutL_len own
  have Q2 := Q (by omega)
  unfold rdV at R Q2
  simp only at R Q2
  simp (maxSteps := 4000000) only [vm, vl, Arg.get, cells, stor, boundO, resultsV, resV, partK, loadV, Vm.part, fillC, splice, reduceIte, reduceCtorEq, Nat.reduceEqDiff, Nat.reduceAdd, Nat.reduceSub, Nat.reduceMul, Nat.reduceLeDiff, ne_eq, not_false_eq_true, Int.reduceEq, Int.reduceLT, Int.reduceLE, Int.reduceNeg, Int.reduceToNat, Int.reduceGT, Int.reduceGE, Nat.reduceLT, Nat.lt_add_one, Nat.zero_lt_succ, Nat.succ_pos, Nat.zero_le, beq_self_eq_true, g1', s1, slslV, i0, not_true_eq_false, not_false_eq_true, Int.reduceToNat, and_self]
  exact Q2.mono fun v h' hv => hK _ _ (EndP.trans R.2 hv)
theorem Take_ok (HI : IndexOk L) (HC : CountOk L) {c : UInt8} (g : RD h S kr kc ans st) (he : st.e = 0) (ho : HOk st) :
    Cf F L i___gatepost_head_Reader__take [.ptr kr 0, .int .u8 c.toNat] h (EndP h S kr kc ans (takeS ans c st)) := by
  obtain ⟨o1, o2, o3, o4, o5⟩ := ho
  obtain ⟨tk, own, bg, dn, e, q, p, fs⟩ := st
  simp only at he o1 o2 o3 o4 o5
  subst he
  have htk := o3 rfl
  obtain ⟨vo, vf, g1, g2, g3, g4, g5, g6, g7, g8⟩ := g
  simp only at g3 g4
  have hlt := lt_of_get g1
  refine run___gatepost_head_Reader__take ?_
  simp only [p___gatepost_head_Reader__take]
  
  unfold rdV at g1
  simp only at g1
  have w := wrap64 (x := (tk : Int) + 1) (by omega) (by omega)
  -- the count
  have s1 : ∀ X, (h.set kr X)[kr]? = some X := fun X => List.getElem?_set_self hlt
  obtain ⟨X1, hX1⟩ : ∃ X1, X1 = [V.fn (if ans then i_head_New_2 else i_head_New_1) [.ptr kc 0], .bool ans, .bool bg, .bool dn, .int .i64 0, .int .i64 ((tk : Int) + 1), vo, q.1, q.2.1, q.2.2, .nsl, p.1, p.2.1, p.2.2, .nsl, vf] := ⟨_, rfl⟩
  have hl1 : (h.set kr (.box X1)).length = h.length := List.length_set ..
  have k1 : ∀ i x, h[i]? = some x → i ≠ kr → (h.set kr (.box X1))[i]? = some x := fun i x hx hn => by rw [List.getElem?_set_ne (fun hh => hn hh.symm)]; exact hx
  have g3b := g3.mono (T := S) (h' := h.set kr (.box X1)) (fun i hh => hh) (fun i cs hx hs => k1 i _ hx fun hh => g5 (by rw [← hh]; exact hs))
  have g4b := g4.mono (T := S) (h' := h.set kr (.box X1)) (fun i hh => hh) (fun i n hx hs => k1 i _ hx fun hh => g5 (by rw [← hh]; exact hs))
  obtain ⟨vo', H2, ha, ⟨cs, hv, hc1, hc2⟩, hl2, hk2⟩ := own_app (c := c) g3b (by omega)
  have gr2 := hk2 kr _ (s1 _) (fun hh => g5 hh.1)
  have gc2 := hk2 kc _ (k1 kc _ g2 (fun hh => g7 hh.symm)) (fun hh => g6 hh.1)
  have g4c := g4b.mono (T := S) (h' := H2) (fun i hh => hh) (fun i n hx hs => hk2 i _ hx fun hh => by obtain ⟨_, cs, hn⟩ := hh; cases hn)
  rw [hl1] at hv hc1 hl2
  have hlt2 := lt_of_get gr2
  have s2 : ∀ X, (H2.set kr X)[kr]? = some X := fun X => List.getElem?_set_self hlt2
  rw [hX1] at ha gr2
  subst hv
  simp (maxSteps := 4000000) only [vm, vl, Arg.get, cells, stor, boundO, resultsV, resV, partK, loadV, Vm.part, fillC, splice, reduceIte, reduceCtorEq, Nat.reduceEqDiff, Nat.reduceAdd, Nat.reduceSub, Nat.reduceMul, Nat.reduceLeDiff, ne_eq, not_false_eq_true, Int.reduceEq, Int.reduceLT, Int.reduceLE, Int.reduceNeg, Int.reduceToNat, Int.reduceGT, Int.reduceGE, Nat.reduceLT, Nat.lt_add_one, Nat.zero_lt_succ, Nat.succ_pos, Nat.zero_le, beq_self_eq_true, g1, w, s1, ha, gr2, s2]
  have R : RD (H2.set kr (.box (rdV ans kc ⟨tk + 1, own ++ [c], bg, dn, 0, q, p, fs⟩ (.hsl 1 h.length (own.length + 1)) vf))) (growS S h.length (H2.set kr (.box (rdV ans kc ⟨tk + 1, own ++ [c], bg, dn, 0, q, p, fs⟩ (.hsl 1 h.length (own.length + 1)) vf))).length) kr kc ans ⟨tk + 1, own ++ [c], bg, dn, 0, q, p, fs⟩ ∧ Fr (orK S kr) h (H2.set kr (.box (rdV ans kc ⟨tk + 1, own ++ [c], bg, dn, 0, q, p, fs⟩ (.hsl 1 h.length (own.length + 1)) vf))) := by
    have hkc := lt_of_get g2
    refine ⟨⟨_, vf, s2 _, by rw [List.getElem?_set_ne g7]; exact gc2, .inr ⟨h.length, cs, by simp, ?_, ?_, ?_, .inr ⟨Nat.le_refl _, ?_⟩⟩, g4c.mono (fun i hh => .inl hh) (fun i n hx hs => ?_), ?_, ?_, g7, ?_⟩, ?_, fun i x hx hn => ?_⟩
    · rw [List.getElem?_set_ne (by omega)]; exact hc1
    · rw [hc2]; simp
    · rw [hc2]; simp only [List.length_append, List.length_singleton]; rw [List.take_of_length_le (by simp)]
    · simp only [List.length_set]; omega
    · rw [List.getElem?_set_ne (fun hh => g5 (by rw [hh]; exact hs))]; exact hx
    · rintro (hh | hh)
      · exact g5 hh
      · omega
    · rintro (hh | hh)
      · exact g6 hh
      · omega
    · rintro i (hh | hh)
      · have := g8 i hh; simp only [List.length_set]; omega
      · exact hh.2
    · simp only [List.length_set]; omega
    · rw [List.getElem?_set_ne (fun hh => hn (.inr hh.symm))]
      exact hk2 i x (k1 i x hx fun hh => hn (.inr hh)) fun hh => hn (.inl hh.1)
  unfold rdV at R
  simp only [Int.natCast_add, Int.cast_ofNat_Int] at R
  have hT : takeS ans c ⟨tk, own, bg, dn, 0, q, p, fs⟩ = if tk + 1 > 8192 ∨ (bg = false ∧ own.length + 1 > 1026) then ⟨tk + 1, own ++ [c], bg, dn, 3, q, p, fs⟩ else if c ≠ 10 then ⟨tk + 1, own ++ [c], bg, dn, 0, q, p, fs⟩ else endS ans (cutL (own ++ [c])) ⟨tk + 1, [], bg, dn, 0, q, p, fs⟩ := rfl
  have K0 : ∀ {H3 : Heap}, RD H3 (growS S h.length H3.length) kr kc ans ⟨tk + 1, own ++ [c], bg, dn, 0, q, p, fs⟩ → Fr (orK S kr) h H3 → ¬ (tk + 1 > 8192 ∨ (bg = false ∧ own.length + 1 > 1026)) →
      k___gatepost_head_Reader__take_0 L (EndP h S kr kc ans (takeS ans c ⟨tk, own, bg, dn, 0, q, p, fs⟩)) (.ptr kr 0) (.int .u8 c.toNat) H3 := by
    intro H3 R1 R2 hn
    have u10 : (((c.toNat : Nat) : Int) = 10) = (c = 10) := propext ⟨fun hh => by
      apply UInt8.toNat_inj.1
      have : c.toNat = 10 := by omega
      rw [this]; rfl, fun hh => by rw [hh]; rfl⟩
    unfold k___gatepost_head_Reader__take_0
    by_cases c10 : c = 10
    · have hA : takeS ans c ⟨tk, own, bg, dn, 0, q, p, fs⟩ = endS ans (cutL (own ++ [c])) ⟨tk + 1, [], bg, dn, 0, q, p, fs⟩ := by
        rw [hT]; exact (if_neg hn).trans (if_neg (fun hh => hh c10))
      rw [hA]
      have d := decide_eq_true (u10.mpr c10)
      simp (maxSteps := 4000000) only [vm, vl, Arg.get, cells, stor, boundO, resultsV, resV, partK, loadV, Vm.part, fillC, splice, reduceIte, reduceCtorEq, Nat.reduceEqDiff, Nat.reduceAdd, Nat.reduceSub, Nat.reduceMul, Nat.reduceLeDiff, ne_eq, not_false_eq_true, Int.reduceEq, Int.reduceLT, Int.reduceLE, Int.reduceNeg, Int.reduceToNat, Int.reduceGT, Int.reduceGE, Nat.reduceLT, Nat.lt_add_one, Nat.zero_lt_succ, Nat.succ_pos, Nat.zero_le, beq_self_eq_true, d]
      exact Line_ok HI HC R1 rfl (by simp) (by simp; omega) (by simp only; omega) fun v h' hv => EndP.trans R2 hv
    · have hA : takeS ans c ⟨tk, own, bg, dn, 0, q, p, fs⟩ = ⟨tk + 1, own ++ [c], bg, dn, 0, q, p, fs⟩ := by
        rw [hT]; exact (if_neg hn).trans (if_pos c10)
      rw [hA]
      have d := decide_eq_false (fun hh => c10 (u10.mp hh))
      simp (maxSteps := 4000000) only [vm, vl, Arg.get, cells, stor, boundO, resultsV, resV, partK, loadV, Vm.part, fillC, splice, reduceIte, reduceCtorEq, Nat.reduceEqDiff, Nat.reduceAdd, Nat.reduceSub, Nat.reduceMul, Nat.reduceLeDiff, ne_eq, not_false_eq_true, Int.reduceEq, Int.reduceLT, Int.reduceLE, Int.reduceNeg, Int.reduceToNat, Int.reduceGT, Int.reduceGE, Nat.reduceLT, Nat.lt_add_one, Nat.zero_lt_succ, Nat.succ_pos, Nat.zero_le, beq_self_eq_true, d]
      exact ⟨rfl, R1, R2⟩
  by_cases c1 : (tk : Int) + 1 > 8192
  · have hA : takeS ans c ⟨tk, own, bg, dn, 0, q, p, fs⟩ = ⟨tk + 1, own ++ [c], bg, dn, 3, q, p, fs⟩ := by
      rw [hT]; exact if_pos (.inl (by omega))
    rw [hA]
    simp (maxSteps := 4000000) only [vm, vl, Arg.get, cells, stor, boundO, resultsV, resV, partK, loadV, Vm.part, fillC, splice, reduceIte, reduceCtorEq, Nat.reduceEqDiff, Nat.reduceAdd, Nat.reduceSub, Nat.reduceMul, Nat.reduceLeDiff, ne_eq, not_false_eq_true, Int.reduceEq, Int.reduceLT, Int.reduceLE, Int.reduceNeg, Int.reduceToNat, Int.reduceGT, Int.reduceGE, Nat.reduceLT, Nat.lt_add_one, Nat.zero_lt_succ, Nat.succ_pos, Nat.zero_le, beq_self_eq_true, c1, decide_true]
    exact ⟨rfl, R⟩
  · cases bg with
    | true =>
      simp (maxSteps := 4000000) only [vm, vl, Arg.get, cells, stor, boundO, resultsV, resV, partK, loadV, Vm.part, fillC, splice, reduceIte, reduceCtorEq, Nat.reduceEqDiff, Nat.reduceAdd, Nat.reduceSub, Nat.reduceMul, Nat.reduceLeDiff, ne_eq, not_false_eq_true, Int.reduceEq, Int.reduceLT, Int.reduceLE, Int.reduceNeg, Int.reduceToNat, Int.reduceGT, Int.reduceGE, Nat.reduceLT, Nat.lt_add_one, Nat.zero_lt_succ, Nat.succ_pos, Nat.zero_le, beq_self_eq_true, c1, s2, decide_false]
      exact K0 R.1 R.2 (fun hh => by rcases hh with hh | hh; omega; cases hh.1)
    | false =>
      by_cases c2 : ((own.length + 1 : Nat) : Int) > 1026
      · have hA : takeS ans c ⟨tk, own, false, dn, 0, q, p, fs⟩ = ⟨tk + 1, own ++ [c], false, dn, 3, q, p, fs⟩ := by
          rw [hT]; exact if_pos (.inr ⟨rfl, by omega⟩)
        rw [hA]
        simp (maxSteps := 4000000) only [vm, vl, Arg.get, cells, stor, boundO, resultsV, resV, partK, loadV, Vm.part, fillC, splice, reduceIte, reduceCtorEq, Nat.reduceEqDiff, Nat.reduceAdd, Nat.reduceSub, Nat.reduceMul, Nat.reduceLeDiff, ne_eq, not_false_eq_true, Int.reduceEq, Int.reduceLT, Int.reduceLE, Int.reduceNeg, Int.reduceToNat, Int.reduceGT, Int.reduceGE, Nat.reduceLT, Nat.lt_add_one, Nat.zero_lt_succ, Nat.succ_pos, Nat.zero_le, beq_self_eq_true, c1, c2, s2, decide_true, decide_false]
        exact ⟨rfl, R⟩
      · simp (maxSteps := 4000000) only [vm, vl, Arg.get, cells, stor, boundO, resultsV, resV, partK, loadV, Vm.part, fillC, splice, reduceIte, reduceCtorEq, Nat.reduceEqDiff, Nat.reduceAdd, Nat.reduceSub, Nat.reduceMul, Nat.reduceLeDiff, ne_eq, not_false_eq_true, Int.reduceEq, Int.reduceLT, Int.reduceLE, Int.reduceNeg, Int.reduceToNat, Int.reduceGT, Int.reduceGE, Nat.reduceLT, Nat.lt_add_one, Nat.zero_lt_succ, Nat.succ_pos, Nat.zero_le, beq_self_eq_true, c1, c2, s2, decide_false]
        exact K0 R.1 R.2 (fun hh => by rcases hh with hh | hh; omega; omega)
end Go.Proofs.YtnfcjeajbjcppaaDoor.Vh
end
section
set_option linter.unusedVariables false
set_option linter.unusedSimpArgs false
namespace Go.Proofs.YtnfcjeajbjcppaaDoor.Vh
open Go.Vm Go.Vt
attribute [local congr] wi_congr wg_congr wgd_congr wb_congr wl_congr cf_congr
variable {L : FuncId → List V → V → Prop} {h : Heap} {kr kc : Nat} {S : Nat → Prop} {ans : Bool} {st : HS}
def Bv (h : Heap) (x : V) (T : Nat → Prop) (bs : Bs) : Prop :=
  (x = .nsl ∧ bs = []) ∨ (∃ o, x = .sl 1 o (bs.map ofByte)) ∨ ∃ k cs, x = .hsl 1 k bs.length ∧ h[k]? = some (.box cs) ∧ bs.length ≤ cs.length ∧ cs.take bs.length = bs.map ofByte ∧ ¬ T k
theorem Bv.fr {T U : Nat → Prop} {x : V} {bs : Bs} {h' : Heap} (b : Bv h x T bs) (f : Fr T h h') (hu : ∀ i, i < h.length → U i → T i) : Bv h' x U bs := by
  rcases b with b | b | ⟨k, cs, h1, h2, h3, h4, h5⟩
  · exact .inl b
  · exact .inr (.inl b)
  · exact .inr (.inr ⟨k, cs, h1, f.2 k _ h2 h5, h3, h4, fun hh => h5 (hu k (lt_of_get h2) hh)⟩)
theorem bv_len {T : Nat → Prop} {x : V} {bs : Bs} {K : V → Heap → Prop} (b : Bv h x T bs) (hk : K (.int .i64 bs.length) h) : wi F L (.len 1 (.c x)) E0 h K := by
  rw [wi_lenL]
  rcases b with ⟨rfl, rfl⟩ | ⟨o, rfl⟩ | ⟨k, cs, rfl, _⟩
  · exact hk
  · simp only [Arg.get, List.length_map]; exact hk
  · exact hk
theorem bv_at {T : Nat → Prop} {x : V} {bs : Bs} {i : Nat} {K : V → V → Heap → Prop} (b : Bv h x T bs) (hi : i < bs.length) (hk : ∀ v, K v (.int .u8 (bs.getD i 0).toNat) h) :
    wi F L (.ixaSl 1 (.c x) (.c (.int .i64 i))) E0 h fun v h => wi F L (.load false 1 (.c v)) E0 h fun y h => K v y h := by
  rw [wi_ixaSl]
  have i0 : (0 : Int) ≤ (i : Int) := by omega
  rcases b with ⟨rfl, rfl⟩ | ⟨o, rfl⟩ | ⟨k, cs, rfl, h2, h3, h4, h5⟩
  · simp at hi
  · have hg : (bs.map ofByte).getD i (.tup []) = .int .u8 (bs.getD i 0).toNat := by
      rw [List.getD_eq_getElem?_getD, List.getElem?_map, List.getElem?_eq_getElem hi, List.getD_eq_getElem?_getD, List.getElem?_eq_getElem hi]; rfl
    simp only [Arg.get, Int.toNat_natCast, hg]
    refine ⟨i0, trivial, by simpa using hi, ?_⟩
    exact hk _
  · simp only [Arg.get, Int.toNat_natCast]
    refine ⟨i0, trivial, hi, ?_⟩
    rw [wi_load]
    have hg : cs.getD i (.tup []) = .int .u8 (bs.getD i 0).toNat := by rw [List.getD_eq_getElem?_getD, box_get h4 hi]; rfl
    have hc : i + 1 ≤ cs.length := by omega
    simp only [Arg.get, loadV, h2, partK, Nat.mul_one, hc, Bool.false_eq_true, if_false, if_true, hg, true_and]
    exact hk _
theorem grow_self {S : Nat → Prop} {a : Nat} : growS S a a = S := by
  funext i
  exact propext ⟨fun hh => hh.elim id (fun hh => by omega), .inl⟩
theorem or_grow {S : Nat → Prop} {a b i : Nat} (hh : orK (growS S a b) kr i) : growS (orK S kr) a b i := by
  rcases hh with (hh | hh) | hh
  · exact .inl (.inl hh)
  · exact .inr hh
  · exact .inl (.inr hh)
theorem none_ok (g : RD h S kr kc ans st) : Cf F L i___gatepost_head_Reader__none [.ptr kr 0] h (fun v h' => v = .bool false ∧ h' = h) := by
  refine run___gatepost_head_Reader__none ?_
  simp only [p___gatepost_head_Reader__none]
  
  obtain ⟨vo, vf, g1, _⟩ := g
  unfold rdV at g1
  simp (maxSteps := 4000000) only [vm, vl, Arg.get, cells, stor, boundO, resultsV, resV, partK, loadV, Vm.part, fillC, splice, reduceIte, reduceCtorEq, Nat.reduceEqDiff, Nat.reduceAdd, Nat.reduceSub, Nat.reduceMul, Nat.reduceLeDiff, ne_eq, not_false_eq_true, Int.reduceEq, Int.reduceLT, Int.reduceLE, Int.reduceNeg, Int.reduceToNat, Int.reduceGT, Int.reduceGE, Nat.reduceLT, Nat.lt_add_one, Nat.zero_lt_succ, Nat.succ_pos, Nat.zero_le, beq_self_eq_true, g1]
theorem feed_cons {c : UInt8} {r : Bs} : feedS ans (c :: r) st = if st.e = 0 ∧ st.done = false then ((feedS ans r (takeS ans c st)).1 + 1, (feedS ans r (takeS ans c st)).2) else (0, st) := rfl
theorem feed_drop {bs : Bs} {i : Nat} (hi : i < bs.length) (h0 : st.e = 0 ∧ st.done = false) : feedS ans (bs.drop i) st = ((feedS ans (bs.drop (i + 1)) (takeS ans (bs.getD i 0) st)).1 + 1, (feedS ans (bs.drop (i + 1)) (takeS ans (bs.getD i 0) st)).2) := by
  rw [List.drop_eq_getElem_cons hi, feed_cons, if_pos h0, List.getD_eq_getElem?_getD, List.getElem?_eq_getElem hi]
  rfl
theorem feed_stop {bs : Bs} (h0 : ¬ (st.e = 0 ∧ st.done = false)) : feedS ans bs st = (0, st) := by
  cases bs with
  | nil => rfl
  | cons c r => unfold feedS; rw [if_neg h0]
def FeedP (h : Heap) (S : Nat → Prop) (kr kc : Nat) (ans : Bool) (r : Nat × HS) (v : V) (h' : Heap) : Prop :=
  v = .tup [.int .i64 r.1, .bool r.2.done, .int .i64 r.2.e] ∧ RD h' (growS S h.length h'.length) kr kc ans r.2 ∧ HOk r.2 ∧ Fr (orK S kr) h h'
theorem RD.setE (g : RD h S kr kc ans { st with e := 0 }) : ∃ vo vf, h[kr]? = some (.box (rdV ans kc { st with e := 0 } vo vf)) ∧ RD (h.set kr (.box (rdV ans kc st vo vf))) S kr kc ans st ∧ Fr (orK S kr) h (h.set kr (.box (rdV ans kc st vo vf))) := by
  obtain ⟨vo, vf, g1, g2, g3, g4, g5, g6, g7, g8⟩ := g
  have R := RD.put (ans := ans) (u := []) (st' := st) g2 g3 g4 g5 g6 g7 g8 (lt_of_get g1)
  rw [List.append_nil, List.length_set, grow_self] at R
  exact ⟨vo, vf, g1, R⟩
theorem FeedEnd_ok {i : Nat} {T : Nat → Prop} {K : V → Heap → Prop} (g : RD h T kr kc ans st) (hk : K (.tup [.int .i64 i, .bool st.done, .int .i64 st.e]) h) : k___gatepost_head_Reader__Feed_1 L K (.ptr kr 0) (.int .i64 i) h := by
  
  obtain ⟨vo, vf, g1, _⟩ := g
  unfold rdV at g1
  unfold k___gatepost_head_Reader__Feed_1
  simp (maxSteps := 4000000) only [vm, vl, Arg.get, cells, stor, boundO, resultsV, resV, partK, loadV, Vm.part, fillC, splice, reduceIte, reduceCtorEq, Nat.reduceEqDiff, Nat.reduceAdd, Nat.reduceSub, Nat.reduceMul, Nat.reduceLeDiff, ne_eq, not_false_eq_true, Int.reduceEq, Int.reduceLT, Int.reduceLE, Int.reduceNeg, Int.reduceToNat, Int.reduceGT, Int.reduceGE, Nat.reduceLT, Nat.lt_add_one, Nat.zero_lt_succ, Nat.succ_pos, Nat.zero_le, beq_self_eq_true, g1]
  exact hk
theorem Feed_ok (HI : IndexOk L) (HC : CountOk L) {x : V} {bs : Bs} (g : RD h S kr kc ans st) (ho : HOk st) (hb : Bv h x (orK S kr) bs) (hl : bs.length ≤ 140737488351232) :
    Cf F L i___gatepost_head_Reader__Feed [.ptr kr 0, x] h (FeedP h S kr kc ans (feedS ans bs st)) := by
  refine run___gatepost_head_Reader__Feed ?_
  simp only [p___gatepost_head_Reader__Feed]
  
  refine (none_ok g).mono fun v h' hv => ?_
  obtain ⟨rfl, rfl⟩ := hv
  simp (maxSteps := 4000000) only [vm, vl, Arg.get, cells, stor, boundO, resultsV, resV, partK, loadV, Vm.part, fillC, splice, reduceIte, reduceCtorEq, Nat.reduceEqDiff, Nat.reduceAdd, Nat.reduceSub, Nat.reduceMul, Nat.reduceLeDiff, ne_eq, not_false_eq_true, Int.reduceEq, Int.reduceLT, Int.reduceLE, Int.reduceNeg, Int.reduceToNat, Int.reduceGT, Int.reduceGE, Nat.reduceLT, Nat.lt_add_one, Nat.zero_lt_succ, Nat.succ_pos, Nat.zero_le, beq_self_eq_true]
  refine l___gatepost_head_Reader__Feed_0 (fun n e h1 => ∃ i st', n = bs.length - i ∧ i ≤ bs.length ∧ e 0 = .ptr kr 0 ∧ e 1 = x ∧ e 4 = .int .i64 i ∧ RD h1 (growS S h'.length h1.length) kr kc ans st' ∧ HOk st' ∧ Fr (orK S kr) h' h1 ∧ feedS ans bs st = (i + (feedS ans (bs.drop i) st').1, (feedS ans (bs.drop i) st').2)) ?_ (n := bs.length) ⟨0, st, by simp, by simp, rfl, rfl, rfl, by rw [grow_self]; exact g, ho, .refl, by simp⟩
  rintro n e h1 ⟨i, st', rfl, hi, e0, e1, e4, G, O, f, hfe⟩
  simp only [b___gatepost_head_Reader__Feed_0]
  have hb1 := hb.fr f (U := orK (growS S h'.length h1.length) kr) (fun i hi hh => by
    rcases hh with (hh | hh) | hh
    · exact .inl hh
    · omega
    · exact .inr hh)
  simp only [e0, e1, e4]
  refine bv_len hb1 ?_
  have FE := fun {K : V → Heap → Prop} hk => FeedEnd_ok (L := L) (i := i) (K := K) G hk
  have G0 := G
  obtain ⟨vo, vf, g1, _⟩ := G0
  unfold rdV at g1
  by_cases hi2 : i < bs.length
  case neg =>
    have c1 : decide ((i : Int) < ((bs.length : Nat) : Int)) = false := decide_eq_false (by omega)
    have hd : bs.drop i = [] := List.drop_eq_nil_of_le (by omega)
    rw [hd] at hfe
    simp (maxSteps := 4000000) only [vm, vl, Arg.get, cells, stor, boundO, resultsV, resV, partK, loadV, Vm.part, fillC, splice, reduceIte, reduceCtorEq, Nat.reduceEqDiff, Nat.reduceAdd, Nat.reduceSub, Nat.reduceMul, Nat.reduceLeDiff, ne_eq, not_false_eq_true, Int.reduceEq, Int.reduceLT, Int.reduceLE, Int.reduceNeg, Int.reduceToNat, Int.reduceGT, Int.reduceGE, Nat.reduceLT, Nat.lt_add_one, Nat.zero_lt_succ, Nat.succ_pos, Nat.zero_le, beq_self_eq_true, c1]
    refine FE ?_
    rw [hfe]
    exact ⟨rfl, G, O, f⟩
  have c1 : decide ((i : Int) < ((bs.length : Nat) : Int)) = true := decide_eq_true (by omega)
  by_cases he : st'.e = 0
  case neg =>
    have c2 : decide (st'.e = 0) = false := decide_eq_false he
    rw [feed_stop (st := st') (fun hh => he hh.1)] at hfe
    simp (maxSteps := 4000000) only [vm, vl, Arg.get, cells, stor, boundO, resultsV, resV, partK, loadV, Vm.part, fillC, splice, reduceIte, reduceCtorEq, Nat.reduceEqDiff, Nat.reduceAdd, Nat.reduceSub, Nat.reduceMul, Nat.reduceLeDiff, ne_eq, not_false_eq_true, Int.reduceEq, Int.reduceLT, Int.reduceLE, Int.reduceNeg, Int.reduceToNat, Int.reduceGT, Int.reduceGE, Nat.reduceLT, Nat.lt_add_one, Nat.zero_lt_succ, Nat.succ_pos, Nat.zero_le, beq_self_eq_true, c1, g1, c2]
    refine FE ?_
    rw [hfe]
    exact ⟨rfl, G, O, f⟩
  have c2 : decide (st'.e = 0) = true := decide_eq_true he
  cases hdn : st'.done with
  | true =>
    rw [feed_stop (st := st') (fun hh => by rw [hdn] at hh; cases hh.2)] at hfe
    simp (maxSteps := 4000000) only [vm, vl, Arg.get, cells, stor, boundO, resultsV, resV, partK, loadV, Vm.part, fillC, splice, reduceIte, reduceCtorEq, Nat.reduceEqDiff, Nat.reduceAdd, Nat.reduceSub, Nat.reduceMul, Nat.reduceLeDiff, ne_eq, not_false_eq_true, Int.reduceEq, Int.reduceLT, Int.reduceLE, Int.reduceNeg, Int.reduceToNat, Int.reduceGT, Int.reduceGE, Nat.reduceLT, Nat.lt_add_one, Nat.zero_lt_succ, Nat.succ_pos, Nat.zero_le, beq_self_eq_true, c1, g1, c2, hdn]
    refine FE ?_
    rw [hfe]
    exact ⟨rfl, G, O, f⟩
  | false =>
    rw [feed_drop hi2 ⟨he, hdn⟩] at hfe
    simp (maxSteps := 4000000) only [vm, vl, Arg.get, cells, stor, boundO, resultsV, resV, partK, loadV, Vm.part, fillC, splice, reduceIte, reduceCtorEq, Nat.reduceEqDiff, Nat.reduceAdd, Nat.reduceSub, Nat.reduceMul, Nat.reduceLeDiff, ne_eq, not_false_eq_true, Int.reduceEq, Int.reduceLT, Int.reduceLE, Int.reduceNeg, Int.reduceToNat, Int.reduceGT, Int.reduceGE, Nat.reduceLT, Nat.lt_add_one, Nat.zero_lt_succ, Nat.succ_pos, Nat.zero_le, beq_self_eq_true, c1, g1, c2, hdn]
    unfold k___gatepost_head_Reader__Feed_2
    refine bv_at hb1 hi2 fun v31 => ?_
    simp (maxSteps := 4000000) only [vm, vl, Arg.get, cells, stor, boundO, resultsV, resV, partK, loadV, Vm.part, fillC, splice, reduceIte, reduceCtorEq, Nat.reduceEqDiff, Nat.reduceAdd, Nat.reduceSub, Nat.reduceMul, Nat.reduceLeDiff, ne_eq, not_false_eq_true, Int.reduceEq, Int.reduceLT, Int.reduceLE, Int.reduceNeg, Int.reduceToNat, Int.reduceGT, Int.reduceGE, Nat.reduceLT, Nat.lt_add_one, Nat.zero_lt_succ, Nat.succ_pos, Nat.zero_le, beq_self_eq_true]
    refine (Take_ok HI HC G he O).mono fun v h2 hv => ?_
    obtain ⟨rfl, R1, R2⟩ := hv
    obtain ⟨vo2, vf2, r1, r2, r3⟩ := R1.setE
    rw [grow_grow f.1 R2.1] at r2 r3
    have w := wrap64 (x := (i : Int) + 1) (by omega) (by omega)
    have O2 := takeS_ok (ans := ans) (c := bs.getD i 0) O he hdn
    have hd : feedS ans bs st = ((i + 1 : Nat) + (feedS ans (bs.drop (i + 1)) (takeS ans (bs.getD i 0) st')).1, (feedS ans (bs.drop (i + 1)) (takeS ans (bs.getD i 0) st')).2) := by
      rw [hfe]; exact Prod.ext (by simp only; omega) rfl
    have F2 : Fr (orK S kr) h' (h2.set kr (.box (rdV ans kc (takeS ans (bs.getD i 0) st') vo2 vf2))) := (f.trans (R2.mono fun i hh => or_grow hh)).trans (r3.mono fun i hh => or_grow hh)
    generalize takeS ans (bs.getD i 0) st' = st2 at *
    unfold rdV at r1 r2 F2
    simp only at r1
    simp (maxSteps := 4000000) only [vm, vl, Arg.get, cells, stor, boundO, resultsV, resV, partK, loadV, Vm.part, fillC, splice, reduceIte, reduceCtorEq, Nat.reduceEqDiff, Nat.reduceAdd, Nat.reduceSub, Nat.reduceMul, Nat.reduceLeDiff, ne_eq, not_false_eq_true, Int.reduceEq, Int.reduceLT, Int.reduceLE, Int.reduceNeg, Int.reduceToNat, Int.reduceGT, Int.reduceGE, Nat.reduceLT, Nat.lt_add_one, Nat.zero_lt_succ, Nat.succ_pos, Nat.zero_le, beq_self_eq_true, r1, w]
    refine ⟨bs.length - (i + 1), by omega, i + 1, st2, rfl, hi2, e0, e1, rfl, r2, O2, F2, hd⟩
end Go.Proofs.YtnfcjeajbjcppaaDoor.Vh
end
section
set_option linter.unusedVariables false
set_option linter.unusedSimpArgs false
namespace Go.Proofs.YtnfcjeajbjcppaaDoor.Vh
open Go.Vm Go.Vt
attribute [local congr] wi_congr wg_congr wgd_congr wb_congr wl_congr cf_congr
variable {L : FuncId → List V → V → Prop} {h : Heap} {kr kc : Nat} {S : Nat → Prop} {ans : Bool} {st : HS}
def st0 : HS := ⟨0, [], false, false, 0, (.str [], .str [], .int .i64 0), (.int .i64 0, .int .i64 0, .str []), []⟩
theorem st0_ok : HOk st0 := ⟨Nat.le_refl _, by decide, fun _ => by decide, by decide, fun h => by cases h⟩
theorem New_ok : Cf F L i_head_New [.bool ans] h (fun v h' => v = .ptr h.length 0 ∧ h.length ≤ h'.length ∧ RD h' (fun _ => False) h.length (h.length + 1) ans st0 ∧ ∃ t, h' = h ++ t) := by
  refine run_head_New ?_
  simp only [p_head_New]
  
  have fin : ∀ b, RD (h ++ [O.box (rdV b (h.length + 1) st0 .nsl .nsl), O.box [.ptr h.length 0]]) (fun _ => False) h.length (h.length + 1) b st0 := fun b => by
    refine ⟨.nsl, .nsl, ?_, ?_, .inl ⟨rfl, rfl⟩, .inl ⟨rfl, rfl⟩, id, id, by omega, fun i hh => hh.elim⟩
    · rw [List.getElem?_append_right (Nat.le_refl _), Nat.sub_self]; rfl
    · rw [List.getElem?_append_right (by omega), Nat.add_sub_cancel_left]; rfl
  cases ans with
  | true =>
    simp (maxSteps := 4000000) only [vm, vl, Arg.get, cells, stor, boundO, resultsV, resV, partK, loadV, Vm.part, fillC, splice, reduceIte, reduceCtorEq, Nat.reduceEqDiff, Nat.reduceAdd, Nat.reduceSub, Nat.reduceMul, Nat.reduceLeDiff, ne_eq, not_false_eq_true, Int.reduceEq, Int.reduceLT, Int.reduceLE, Int.reduceNeg, Int.reduceToNat, Int.reduceGT, Int.reduceGE, Nat.reduceLT, Nat.lt_add_one, Nat.zero_lt_succ, Nat.succ_pos, Nat.zero_le, beq_self_eq_true, k_head_New_0]
    exact ⟨by omega, fin true, _, rfl⟩
  | false =>
    simp (maxSteps := 4000000) only [vm, vl, Arg.get, cells, stor, boundO, resultsV, resV, partK, loadV, Vm.part, fillC, splice, reduceIte, reduceCtorEq, Nat.reduceEqDiff, Nat.reduceAdd, Nat.reduceSub, Nat.reduceMul, Nat.reduceLeDiff, ne_eq, not_false_eq_true, Int.reduceEq, Int.reduceLT, Int.reduceLE, Int.reduceNeg, Int.reduceToNat, Int.reduceGT, Int.reduceGE, Nat.reduceLT, Nat.lt_add_one, Nat.zero_lt_succ, Nat.succ_pos, Nat.zero_le, beq_self_eq_true, k_head_New_0]
    exact ⟨by omega, fin false, _, rfl⟩
end Go.Proofs.YtnfcjeajbjcppaaDoor.Vh
end
section
set_option linter.unusedVariables false
set_option linter.unusedSimpArgs false
namespace Go.Proofs.YtnfcjeajbjcppaaDoor.Vh
open Go.Vm Go.Vt
variable {ans : Bool} {st : HS}
def st1 : HS := ⟨18, [97, 58, 32], true, false, 0, (.str [71, 69, 84], .str [47], .int .i64 1), (.int .i64 0, .int .i64 0, .str []), []⟩
end Go.Proofs.YtnfcjeajbjcppaaDoor.Vh
end
section
set_option linter.unusedVariables false
set_option linter.unusedSimpArgs false
namespace Go.Proofs.YtnfcjeajbjcppaaDoor.Vh
open Go.Vm Go.Vt
attribute [local congr] wi_congr wg_congr wgd_congr wb_congr wl_congr cf_congr
variable {L : FuncId → List V → V → Prop} {h : Heap} {kr kc : Nat} {S : Nat → Prop} {ans : Bool} {st : HS}
theorem RD.more {t : Heap} (g : RD h S kr kc ans st) : RD (h ++ t) S kr kc ans st := by
  obtain ⟨vo, vf, g1, g2, g3, g4, g5, g6, g7, g8⟩ := g
  exact ⟨vo, vf, get_old g1, get_old g2, g3.mono (fun i hs => hs) (fun i x hx _ => get_old hx), g4.mono (fun i hs => hs) (fun i n hx _ => get_old hx), g5, g6, g7, fun i hh => by have := g8 i hh; simp; omega⟩
theorem RD.fr {T : Nat → Prop} {h' : Heap} (g : RD h S kr kc ans st) (f : Fr T h h') (h1 : ¬ T kr) (h2 : ¬ T kc) (h3 : ∀ i, S i → ¬ T i) : RD h' S kr kc ans st := by
  obtain ⟨vo, vf, g1, g2, g3, g4, g5, g6, g7, g8⟩ := g
  exact ⟨vo, vf, f.2 _ _ g1 h1, f.2 _ _ g2 h2, g3.mono (fun i hs => hs) (fun i x hx hs => f.2 _ _ hx (h3 i hs)), g4.mono (fun i hs => hs) (fun i n hx hs => f.2 _ _ hx (h3 i hs)), g5, g6, g7, fun i hh => Nat.lt_of_lt_of_le (g8 i hh) f.1⟩
theorem OwnV.low {v : V} {own : Bs} (g : OwnV h v S own) : OwnV h v (fun i => i < h.length) own := by
  rcases g with g | ⟨k, cs, h1, h2, h3, h4, h5⟩
  · exact .inl g
  · exact .inr ⟨k, cs, h1, h2, h3, h4, lt_of_get h2⟩
theorem RD.lt (g : RD h S kr kc ans st) : kr < h.length := by
  obtain ⟨vo, vf, g1, _⟩ := g
  exact lt_of_get g1
theorem bin_str {a b : Bs} (hl : a.length + b.length ≤ 9223372036854775807) : binV .add (.str a) (.str b) = some (.str (a ++ b)) := by
  simp only [binV, binS]; rw [if_pos hl]
def LH : FuncId → List V → V → Prop := fun f a v => LIndex f a v ∨ LCount f a v
theorem lh_at (w0 : World) : LibAt Tryd.prog w0 LH := fun f a v h => h.elim (index_at w0 f a v) (count_at w0 f a v)
end Go.Proofs.YtnfcjeajbjcppaaDoor.Vh
end
section
set_option linter.unusedVariables false
set_option linter.unusedSimpArgs false
namespace Go.Proofs.YtnfcjeajbjcppaaDoor.Vh
open Go.Vm Go.Vt
attribute [local congr] wi_congr wg_congr wgd_congr wb_congr wl_congr cf_congr
variable {L : FuncId → List V → V → Prop} {h : Heap} {kr kc : Nat} {S : Nat → Prop} {ans : Bool} {st : HS}
theorem flds_two (l : List Fld) : ∀ e ∈ flds l, (cells e).length = 2 := by
  intro e he
  obtain ⟨f, _, rfl⟩ := List.mem_map.1 he
  rfl
theorem flat_flds (l : List Fld) : (flat (flds l)).length = l.length * 2 := by
  rw [flat_length (flds_two l), flds_len]
theorem mksl_step {n : Nat} (hn : n ≤ 64) : stepI (.mksl 2 32 [.str [], .str []] (.c (.int .i64 n)) (.c (.int .i64 n))) E0 h = some (.hsl 2 h.length n, h ++ [.box ((List.replicate n [V.str [], V.str []]).flatten)]) := by
  simp only [stepI, Arg.get]
  have r : room ((n : Int).toNat) 32 = true := by simp [room]; omega
  rw [if_pos ⟨by omega, Int.le_refl _, r⟩]
  simp
theorem copy_step {v : V} {fs : List Fld} (g : FlsV h v S fs) (hn : fs.length ≤ 64) : stepI (.copy 2 (.c (.hsl 2 h.length fs.length)) (.c v)) E0 (h ++ [.box ((List.replicate fs.length [V.str [], V.str []]).flatten)]) = some (.int .i64 fs.length, h ++ [.box (flat (flds fs))]) := by
  have hs : srcElems (h ++ [.box ((List.replicate fs.length [V.str [], V.str []]).flatten)]) 2 v = some (flds fs) := by
    rcases g with ⟨rfl, rfl⟩ | ⟨k, rfl, _⟩
    · rfl
    · simp [srcElems]
  have hl := flat_flds fs
  have hz : ((List.replicate fs.length [V.str [], V.str []]).flatten).length = fs.length * 2 := by simp
  have hg : (h ++ [O.box ((List.replicate fs.length [V.str [], V.str []]).flatten)])[h.length]? = some (O.box ((List.replicate fs.length [V.str [], V.str []]).flatten)) := by
    rw [List.getElem?_append_right (Nat.le_refl _), Nat.sub_self]; rfl
  simp only [stepI, Arg.get, if_true, hg, hs, Option.bind_some, flds_len, Nat.min_self, List.take_of_length_le (Nat.le_of_eq (flds_len fs))]
  rw [if_pos (by omega)]
  have hsp : splice ((List.replicate fs.length [V.str [], V.str []]).flatten) 0 (flat (flds fs)) = flat (flds fs) := by
    unfold splice
    rw [List.take_zero, List.nil_append, List.drop_eq_nil_of_le (by omega), List.append_nil]
  rw [hsp, List.set_append_right _ _ (Nat.le_refl _), Nat.sub_self]; rfl
def WholeP (h : Heap) (c : Bool) (fs : List Fld) (v : V) (h' : Heap) : Prop :=
  (c = true ∧ v = .tup [.hsl 2 h.length fs.length, .int .i64 0] ∧ h' = h ++ [.box (flat (flds fs))]) ∨ (c = false ∧ v = .tup [.nsl, .int .i64 16] ∧ h' = h)
theorem whole_ok (g : RD h S kr kc ans st) (hf : st.fs.length ≤ 64) {b : Bool} : Cf F L i___gatepost_head_Reader__whole [.ptr kr 0, .bool b] h (WholeP h (st.done && (ans == b)) st.fs) := by
  refine run___gatepost_head_Reader__whole ?_
  simp only [p___gatepost_head_Reader__whole]
  
  refine (none_ok g).mono fun v h' hv => ?_
  obtain ⟨rfl, rfl⟩ := hv
  obtain ⟨vo, vf, g1, g2, g3, g4, g5, g6, g7, g8⟩ := g
  obtain ⟨tk, own, bg, dn, e, q, p, fs⟩ := st
  simp only at g4 hf
  unfold rdV at g1
  simp only at g1 ⊢
  have hm := mksl_step (h := h') hf
  have hc := copy_step g4 hf
  have g1' := get_old (t := [.box ((List.replicate fs.length [V.str [], V.str []]).flatten)]) g1
  have hfl := flds_len fs
  generalize (List.replicate fs.length [V.str [], V.str []]).flatten = Z at *
  have WM : ∀ {K : V → Heap → Prop}, wi F L (.mksl 2 32 [.str [], .str []] (.c (.int .i64 fs.length)) (.c (.int .i64 fs.length))) E0 h' K = K (.hsl 2 h'.length fs.length) (h' ++ [.box Z]) := by intro K; rw [wi_mksl, hm]
  have WC : ∀ {K : V → Heap → Prop}, wi F L (.copy 2 (.c (.hsl 2 h'.length fs.length)) (.c vf)) E0 (h' ++ [.box Z]) K = K (.int .i64 fs.length) (h' ++ [.box (flat (flds fs))]) := by intro K; rw [wi_copy, hc]
  clear hm hc
  have bft : (false == true) = false := rfl
  have btf : (true == false) = false := rfl
  have btt : (true == true) = true := rfl
  have bff : (false == false) = true := rfl
  cases dn with
  | false =>
    simp (maxSteps := 4000000) only [vm, vl, Arg.get, cells, stor, boundO, resultsV, resV, partK, loadV, Vm.part, fillC, splice, reduceIte, reduceCtorEq, Nat.reduceEqDiff, Nat.reduceAdd, Nat.reduceSub, Nat.reduceMul, Nat.reduceLeDiff, ne_eq, not_false_eq_true, Int.reduceEq, Int.reduceLT, Int.reduceLE, Int.reduceNeg, Int.reduceToNat, Int.reduceGT, Int.reduceGE, Nat.reduceLT, Nat.lt_add_one, Nat.zero_lt_succ, Nat.succ_pos, Nat.zero_le, beq_self_eq_true, g1]
    exact .inr ⟨rfl, rfl, rfl⟩
  | true =>
    by_cases hab : ans = b
    · subst hab
      rcases g4 with ⟨rfl, h5⟩ | ⟨k, rfl, _⟩
      · subst h5
        have h0 : (([] : List Fld).length : Int) = 0 := rfl
        rw [h0] at WM WC
        simp only [List.length_nil] at WM WC
        cases ans <;> (simp (maxSteps := 4000000) only [vm, vl, Arg.get, cells, stor, boundO, resultsV, resV, partK, loadV, Vm.part, fillC, splice, reduceIte, reduceCtorEq, Nat.reduceEqDiff, Nat.reduceAdd, Nat.reduceSub, Nat.reduceMul, Nat.reduceLeDiff, ne_eq, not_false_eq_true, Int.reduceEq, Int.reduceLT, Int.reduceLE, Int.reduceNeg, Int.reduceToNat, Int.reduceGT, Int.reduceGE, Nat.reduceLT, Nat.lt_add_one, Nat.zero_lt_succ, Nat.succ_pos, Nat.zero_le, beq_self_eq_true, g1, g1', WM, WC, bft, btf, btt, bff, Bool.not_false, Bool.not_true, k___gatepost_head_Reader__whole_0]; exact .inl ⟨rfl, rfl, rfl⟩)
      · have hfl2 : ((flds fs).length : Int) = (fs.length : Int) := by rw [hfl]
        cases ans <;> (simp (maxSteps := 4000000) only [vm, vl, Arg.get, cells, stor, boundO, resultsV, resV, partK, loadV, Vm.part, fillC, splice, reduceIte, reduceCtorEq, Nat.reduceEqDiff, Nat.reduceAdd, Nat.reduceSub, Nat.reduceMul, Nat.reduceLeDiff, ne_eq, not_false_eq_true, Int.reduceEq, Int.reduceLT, Int.reduceLE, Int.reduceNeg, Int.reduceToNat, Int.reduceGT, Int.reduceGE, Nat.reduceLT, Nat.lt_add_one, Nat.zero_lt_succ, Nat.succ_pos, Nat.zero_le, beq_self_eq_true, g1, g1', hfl, WM, WC, bft, btf, btt, bff, Bool.not_false, Bool.not_true, k___gatepost_head_Reader__whole_0]; exact .inl ⟨rfl, rfl, rfl⟩)
    · have hne : (ans == b) = false := by simpa using hab
      rw [hne]
      cases ans <;> cases b <;> first | exact absurd rfl hab | (simp (maxSteps := 4000000) only [vm, vl, Arg.get, cells, stor, boundO, resultsV, resV, partK, loadV, Vm.part, fillC, splice, reduceIte, reduceCtorEq, Nat.reduceEqDiff, Nat.reduceAdd, Nat.reduceSub, Nat.reduceMul, Nat.reduceLeDiff, ne_eq, not_false_eq_true, Int.reduceEq, Int.reduceLT, Int.reduceLE, Int.reduceNeg, Int.reduceToNat, Int.reduceGT, Int.reduceGE, Nat.reduceLT, Nat.lt_add_one, Nat.zero_lt_succ, Nat.succ_pos, Nat.zero_le, beq_self_eq_true, g1, bft, btf, Bool.not_false, Bool.not_true]; exact .inr ⟨rfl, rfl, rfl⟩)
def TellP (h : Heap) (c : Bool) (a b d z1 z2 z3 : V) (fs : List Fld) (v : V) (h' : Heap) : Prop :=
  (∃ t, h' = h ++ t) ∧ ((c = true ∧ ∃ k, v = .tup [.agg [a, b, d, .hsl 2 k fs.length], .int .i64 0] ∧ h'[k]? = some (.box (flat (flds fs)))) ∨ (c = false ∧ v = .tup [.agg [z1, z2, z3, .nsl], .int .i64 16]))
theorem Request_ok (g : RD h S kr kc ans st) (hf : st.fs.length ≤ 64) : Cf F L i___gatepost_head_Reader__Request [.ptr kr 0] h (TellP h (st.done && (ans == false)) st.q.1 st.q.2.1 st.q.2.2 (.str []) (.str []) (.int .i64 0) st.fs) := by
  refine run___gatepost_head_Reader__Request ?_
  simp only [p___gatepost_head_Reader__Request]
  
  simp (maxSteps := 4000000) only [vm, vl, Arg.get, cells, stor, boundO, resultsV, resV, partK, loadV, Vm.part, fillC, splice, reduceIte, reduceCtorEq, Nat.reduceEqDiff, Nat.reduceAdd, Nat.reduceSub, Nat.reduceMul, Nat.reduceLeDiff, ne_eq, not_false_eq_true, Int.reduceEq, Int.reduceLT, Int.reduceLE, Int.reduceNeg, Int.reduceToNat, Int.reduceGT, Int.reduceGE, Nat.reduceLT, Nat.lt_add_one, Nat.zero_lt_succ, Nat.succ_pos, Nat.zero_le, beq_self_eq_true]
  refine (whole_ok g.more hf).mono fun v h' hv => ?_
  obtain ⟨tk, own, bg, dn, e, q, p, fs⟩ := st
  obtain ⟨vo, vf, g1, _⟩ := g
  unfold rdV at g1
  simp only at g1 hv ⊢
  have g1b := fun t => get_old (t := t) g1
  rcases hv with ⟨hc, rfl, rfl⟩ | ⟨hc, rfl, rfl⟩
  · rw [hc]
    generalize hFS : flat (flds fs) = FS at *
    simp (maxSteps := 4000000) only [vm, vl, Arg.get, cells, stor, boundO, resultsV, resV, partK, loadV, Vm.part, fillC, splice, reduceIte, reduceCtorEq, Nat.reduceEqDiff, Nat.reduceAdd, Nat.reduceSub, Nat.reduceMul, Nat.reduceLeDiff, ne_eq, not_false_eq_true, Int.reduceEq, Int.reduceLT, Int.reduceLE, Int.reduceNeg, Int.reduceToNat, Int.reduceGT, Int.reduceGE, Nat.reduceLT, Nat.lt_add_one, Nat.zero_lt_succ, Nat.succ_pos, Nat.zero_le, beq_self_eq_true, g1b, k___gatepost_head_Reader__Request_0]
    refine ⟨⟨_, rfl⟩, .inl ⟨rfl, h.length + 1, rfl, ?_⟩⟩
    rw [hFS, List.getElem?_append_right (by omega), Nat.add_sub_cancel_left]; rfl
  · rw [hc]
    simp (maxSteps := 4000000) only [vm, vl, Arg.get, cells, stor, boundO, resultsV, resV, partK, loadV, Vm.part, fillC, splice, reduceIte, reduceCtorEq, Nat.reduceEqDiff, Nat.reduceAdd, Nat.reduceSub, Nat.reduceMul, Nat.reduceLeDiff, ne_eq, not_false_eq_true, Int.reduceEq, Int.reduceLT, Int.reduceLE, Int.reduceNeg, Int.reduceToNat, Int.reduceGT, Int.reduceGE, Nat.reduceLT, Nat.lt_add_one, Nat.zero_lt_succ, Nat.succ_pos, Nat.zero_le, beq_self_eq_true]
    exact ⟨⟨_, rfl⟩, .inr ⟨rfl, rfl⟩⟩
theorem Response_ok (g : RD h S kr kc ans st) (hf : st.fs.length ≤ 64) : Cf F L i___gatepost_head_Reader__Response [.ptr kr 0] h (TellP h (st.done && (ans == true)) st.p.1 st.p.2.1 st.p.2.2 (.int .i64 0) (.int .i64 0) (.str []) st.fs) := by
  refine run___gatepost_head_Reader__Response ?_
  simp only [p___gatepost_head_Reader__Response]
  
  simp (maxSteps := 4000000) only [vm, vl, Arg.get, cells, stor, boundO, resultsV, resV, partK, loadV, Vm.part, fillC, splice, reduceIte, reduceCtorEq, Nat.reduceEqDiff, Nat.reduceAdd, Nat.reduceSub, Nat.reduceMul, Nat.reduceLeDiff, ne_eq, not_false_eq_true, Int.reduceEq, Int.reduceLT, Int.reduceLE, Int.reduceNeg, Int.reduceToNat, Int.reduceGT, Int.reduceGE, Nat.reduceLT, Nat.lt_add_one, Nat.zero_lt_succ, Nat.succ_pos, Nat.zero_le, beq_self_eq_true]
  refine (whole_ok g.more hf).mono fun v h' hv => ?_
  obtain ⟨tk, own, bg, dn, e, q, p, fs⟩ := st
  obtain ⟨vo, vf, g1, _⟩ := g
  unfold rdV at g1
  simp only at g1 hv ⊢
  have g1b := fun t => get_old (t := t) g1
  rcases hv with ⟨hc, rfl, rfl⟩ | ⟨hc, rfl, rfl⟩
  · rw [hc]
    generalize hFS : flat (flds fs) = FS at *
    simp (maxSteps := 4000000) only [vm, vl, Arg.get, cells, stor, boundO, resultsV, resV, partK, loadV, Vm.part, fillC, splice, reduceIte, reduceCtorEq, Nat.reduceEqDiff, Nat.reduceAdd, Nat.reduceSub, Nat.reduceMul, Nat.reduceLeDiff, ne_eq, not_false_eq_true, Int.reduceEq, Int.reduceLT, Int.reduceLE, Int.reduceNeg, Int.reduceToNat, Int.reduceGT, Int.reduceGE, Nat.reduceLT, Nat.lt_add_one, Nat.zero_lt_succ, Nat.succ_pos, Nat.zero_le, beq_self_eq_true, g1b, k___gatepost_head_Reader__Response_0]
    refine ⟨⟨_, rfl⟩, .inl ⟨rfl, h.length + 1, rfl, ?_⟩⟩
    rw [hFS, List.getElem?_append_right (by omega), Nat.add_sub_cancel_left]; rfl
  · rw [hc]
    simp (maxSteps := 4000000) only [vm, vl, Arg.get, cells, stor, boundO, resultsV, resV, partK, loadV, Vm.part, fillC, splice, reduceIte, reduceCtorEq, Nat.reduceEqDiff, Nat.reduceAdd, Nat.reduceSub, Nat.reduceMul, Nat.reduceLeDiff, ne_eq, not_false_eq_true, Int.reduceEq, Int.reduceLT, Int.reduceLE, Int.reduceNeg, Int.reduceToNat, Int.reduceGT, Int.reduceGE, Nat.reduceLT, Nat.lt_add_one, Nat.zero_lt_succ, Nat.succ_pos, Nat.zero_le, beq_self_eq_true]
    exact ⟨⟨_, rfl⟩, .inr ⟨rfl, rfl⟩⟩
theorem get_two {l : List Fld} {i : Nat} (hi : i < l.length) : (flat (flds l)).getD (i * 2) (.tup []) = .str (l.getD i ([], [])).1 ∧ (flat (flds l)).getD (i * 2 + 1) (.tup []) = .str (l.getD i ([], [])).2 := by
  have ha : (flds l)[i]? = some (fldV (l.getD i ([], []))) := by
    rw [flds, List.getElem?_map, List.getElem?_eq_getElem hi, List.getD_eq_getElem?_getD, List.getElem?_eq_getElem hi]; rfl
  have h0 := flat_get (k := 0) (flds_two l) ha (by simp [fldV, cells])
  have h1 := flat_get (k := 1) (flds_two l) ha (by simp [fldV, cells])
  rw [Nat.add_zero] at h0
  refine ⟨?_, ?_⟩
  · rw [List.getD_eq_getElem?_getD, h0]; rfl
  · rw [List.getD_eq_getElem?_getD, h1]; rfl
theorem hSame_ok {k1 k2 : Nat} {l : List Fld} (hl : l.length < 1000000) (g1 : h[k1]? = some (.box (flat (flds l)))) (g2 : h[k2]? = some (.box (flat (flds l)))) :
    Cf F L i_gatepostref04_Same [.hsl 2 k1 l.length, .hsl 2 k2 l.length] h (Pu h (.bool true)) := by
  refine run_gatepostref04_Same ?_
  simp only [p_gatepostref04_Same]
  
  have hf := flat_flds l
  have gt := fun i (hi : i < l.length) => get_two (l := l) hi
  generalize flat (flds l) = FS at *
  simp (maxSteps := 4000000) only [vm, vl, Arg.get, cells, stor, boundO, resultsV, resV, partK, loadV, Vm.part, fillC, splice, reduceIte, reduceCtorEq, Nat.reduceEqDiff, Nat.reduceAdd, Nat.reduceSub, Nat.reduceMul, Nat.reduceLeDiff, ne_eq, not_false_eq_true, Int.reduceEq, Int.reduceLT, Int.reduceLE, Int.reduceNeg, Int.reduceToNat, Int.reduceGT, Int.reduceGE, Nat.reduceLT, Nat.lt_add_one, Nat.zero_lt_succ, Nat.succ_pos, Nat.zero_le, beq_self_eq_true]
  refine l_gatepostref04_Same_0 (fun n e h' => ∃ i, n = l.length - i ∧ i ≤ l.length ∧ e 0 = .hsl 2 k1 l.length ∧ e 1 = .hsl 2 k2 l.length ∧ e 5 = .int .i64 i ∧ h' = h) ?_ (n := l.length) ⟨0, by simp, by simp, rfl, rfl, rfl, rfl⟩
  rintro n e h' ⟨i, rfl, hi, e0, e1, e5, rfl⟩
  simp only [b_gatepostref04_Same_0]
  by_cases hi2 : i < l.length
  · have w := wrap64 (x := (i : Int) + 1) (by omega) (by omega)
    have c1 : decide (((i : Nat) : Int) < ((l.length : Nat) : Int)) = true := decide_eq_true (by omega)
    have z1 : (0 : Int) ≤ (i : Int) := by omega
    obtain ⟨a1, a2⟩ := gt i hi2
    have m1 : i * 2 + 1 ≤ FS.length := by omega
    have m2 : i * 2 + 1 + 1 ≤ FS.length := by omega
    have b1 : ((l.getD i ([], [])).1 == (l.getD i ([], [])).1) = true := by simp
    have b2 : ((l.getD i ([], [])).2 == (l.getD i ([], [])).2) = true := by simp
    generalize (l.getD i ([], [])).1 = s1 at *
    generalize (l.getD i ([], [])).2 = s2 at *
    simp (maxSteps := 4000000) only [vm, vl, Arg.get, cells, stor, boundO, resultsV, resV, partK, loadV, Vm.part, fillC, splice, reduceIte, reduceCtorEq, Nat.reduceEqDiff, Nat.reduceAdd, Nat.reduceSub, Nat.reduceMul, Nat.reduceLeDiff, ne_eq, not_false_eq_true, Int.reduceEq, Int.reduceLT, Int.reduceLE, Int.reduceNeg, Int.reduceToNat, Int.reduceGT, Int.reduceGE, Nat.reduceLT, Nat.lt_add_one, Nat.zero_lt_succ, Nat.succ_pos, Nat.zero_le, beq_self_eq_true, e0, e1, e5, c1, z1, hi2, Int.toNat_natCast, g1, g2, m1, m2, a1, a2, b1, b2, w, Bool.not_true, k_gatepostref04_Same_2, k_gatepostref04_Same_3]
    exact ⟨l.length - (i + 1), by omega, i + 1, rfl, hi2, rfl⟩
  · have c1 : decide (((i : Nat) : Int) < ((l.length : Nat) : Int)) = false := decide_eq_false (by omega)
    simp (maxSteps := 4000000) only [vm, vl, Arg.get, cells, stor, boundO, resultsV, resV, partK, loadV, Vm.part, fillC, splice, reduceIte, reduceCtorEq, Nat.reduceEqDiff, Nat.reduceAdd, Nat.reduceSub, Nat.reduceMul, Nat.reduceLeDiff, ne_eq, not_false_eq_true, Int.reduceEq, Int.reduceLT, Int.reduceLE, Int.reduceNeg, Int.reduceToNat, Int.reduceGT, Int.reduceGE, Nat.reduceLT, Nat.lt_add_one, Nat.zero_lt_succ, Nat.succ_pos, Nat.zero_le, beq_self_eq_true, e0, e1, e5, c1, k_gatepostref04_Same_1]
theorem SameReq_ok {a b : Bs} {m : Int} {x y : V} (HS : ∀ t, Cf F L i_gatepostref04_Same [x, y] (h ++ t) (Pu (h ++ t) (.bool true))) :
    Cf F L i_gatepostref05_SameRequest [.agg [.str a, .str b, .int .i64 m, x], .agg [.str a, .str b, .int .i64 m, y]] h (Pu h (.bool true)) := by
  refine run_gatepostref05_SameRequest ?_
  simp only [p_gatepostref05_SameRequest]
  
  have b1 : (a == a) = true := by simp
  have b2 : (b == b) = true := by simp
  simp (maxSteps := 4000000) only [vm, vl, Arg.get, cells, stor, boundO, resultsV, resV, partK, loadV, Vm.part, fillC, splice, reduceIte, reduceCtorEq, Nat.reduceEqDiff, Nat.reduceAdd, Nat.reduceSub, Nat.reduceMul, Nat.reduceLeDiff, ne_eq, not_false_eq_true, Int.reduceEq, Int.reduceLT, Int.reduceLE, Int.reduceNeg, Int.reduceToNat, Int.reduceGT, Int.reduceGE, Nat.reduceLT, Nat.lt_add_one, Nat.zero_lt_succ, Nat.succ_pos, Nat.zero_le, beq_self_eq_true, b1, b2, decide_true]
  refine Cf.pu (HS _) fun u => ?_
  simp (maxSteps := 4000000) only [vm, vl, Arg.get, cells, stor, boundO, resultsV, resV, partK, loadV, Vm.part, fillC, splice, reduceIte, reduceCtorEq, Nat.reduceEqDiff, Nat.reduceAdd, Nat.reduceSub, Nat.reduceMul, Nat.reduceLeDiff, ne_eq, not_false_eq_true, Int.reduceEq, Int.reduceLT, Int.reduceLE, Int.reduceNeg, Int.reduceToNat, Int.reduceGT, Int.reduceGE, Nat.reduceLT, Nat.lt_add_one, Nat.zero_lt_succ, Nat.succ_pos, Nat.zero_le, beq_self_eq_true]
theorem SameRes_ok {a b : Int} {m : Bs} {x y : V} (HS : ∀ t, Cf F L i_gatepostref04_Same [x, y] (h ++ t) (Pu (h ++ t) (.bool true))) :
    Cf F L i_gatepostref05_SameResponse [.agg [.int .i64 a, .int .i64 b, .str m, x], .agg [.int .i64 a, .int .i64 b, .str m, y]] h (Pu h (.bool true)) := by
  refine run_gatepostref05_SameResponse ?_
  simp only [p_gatepostref05_SameResponse]
  
  have b1 : (m == m) = true := by simp
  simp (maxSteps := 4000000) only [vm, vl, Arg.get, cells, stor, boundO, resultsV, resV, partK, loadV, Vm.part, fillC, splice, reduceIte, reduceCtorEq, Nat.reduceEqDiff, Nat.reduceAdd, Nat.reduceSub, Nat.reduceMul, Nat.reduceLeDiff, ne_eq, not_false_eq_true, Int.reduceEq, Int.reduceLT, Int.reduceLE, Int.reduceNeg, Int.reduceToNat, Int.reduceGT, Int.reduceGE, Nat.reduceLT, Nat.lt_add_one, Nat.zero_lt_succ, Nat.succ_pos, Nat.zero_le, beq_self_eq_true, b1, decide_true]
  refine Cf.pu (HS _) fun u => ?_
  simp (maxSteps := 4000000) only [vm, vl, Arg.get, cells, stor, boundO, resultsV, resV, partK, loadV, Vm.part, fillC, splice, reduceIte, reduceCtorEq, Nat.reduceEqDiff, Nat.reduceAdd, Nat.reduceSub, Nat.reduceMul, Nat.reduceLeDiff, ne_eq, not_false_eq_true, Int.reduceEq, Int.reduceLT, Int.reduceLE, Int.reduceNeg, Int.reduceToNat, Int.reduceGT, Int.reduceGE, Nat.reduceLT, Nat.lt_add_one, Nat.zero_lt_succ, Nat.succ_pos, Nat.zero_le, beq_self_eq_true]
def Ints (x : V) (n : Nat) : Prop := (n = 0 ∧ x = .nsl) ∨ ∃ es o, x = .sl 1 o es ∧ es.length = n ∧ ∀ e ∈ es, ∃ z : Int, e = .int .i64 z
theorem piece_ok {x : V} {n i a b : Nat} (hx : Ints x n) (h1 : a ≤ b) (h2 : b ≤ 9000) (hi : i ≤ 140737488351233) : Cf F L i_gatepostlaw05_piece [x, .int .i64 i, .int .i64 a, .int .i64 b] h (fun v h' => h' = h ∧ ∃ m : Nat, v = .int .i64 m ∧ a ≤ m ∧ m ≤ b ∧ (n ≤ i → m = b)) := by
  refine run_gatepostlaw05_piece ?_
  simp only [p_gatepostlaw05_piece]
  
  have w1 := wrap64 (x := (b : Int) - a) (by omega) (by omega)
  have w2 := wrap64 (x := (a : Int) + ((b : Int) - a)) (by omega) (by omega)
  have e2 : (a : Int) + ((b : Int) - a) = (b : Int) := by omega
  by_cases hin : i < n
  · have c1 : decide (((i : Nat) : Int) < ((n : Nat) : Int)) = true := decide_eq_true (by omega)
    rcases hx with ⟨h0, _⟩ | ⟨es, o, rfl, hl, he⟩
    · omega
    obtain ⟨z, hz⟩ := he (es.getD i (.tup [])) (by rw [List.getD_eq_getElem?_getD, List.getElem?_eq_getElem (by omega), Option.getD_some]; exact List.getElem_mem _)
    obtain ⟨z0, z1⟩ := andI_range z 1023 (by omega) (by omega)
    have i0 : (0 : Int) ≤ (i : Int) := by omega
    have hil : i < es.length := by omega
    rw [← hl] at c1
    simp (maxSteps := 4000000) only [vm, vl, Arg.get, cells, stor, boundO, resultsV, resV, partK, loadV, Vm.part, fillC, splice, reduceIte, reduceCtorEq, Nat.reduceEqDiff, Nat.reduceAdd, Nat.reduceSub, Nat.reduceMul, Nat.reduceLeDiff, ne_eq, not_false_eq_true, Int.reduceEq, Int.reduceLT, Int.reduceLE, Int.reduceNeg, Int.reduceToNat, Int.reduceGT, Int.reduceGE, Nat.reduceLT, Nat.lt_add_one, Nat.zero_lt_succ, Nat.succ_pos, Nat.zero_le, beq_self_eq_true, c1, w1, i0, hil, hz, Int.toNat_natCast]
    generalize bitsI .and .i64 z 1023 = Z at *
    by_cases c2 : Z < (b : Int) - a
    · have w3 := wrap64 (x := (a : Int) + Z) (by omega) (by omega)
      simp (maxSteps := 4000000) only [vm, vl, Arg.get, cells, stor, boundO, resultsV, resV, partK, loadV, Vm.part, fillC, splice, reduceIte, reduceCtorEq, Nat.reduceEqDiff, Nat.reduceAdd, Nat.reduceSub, Nat.reduceMul, Nat.reduceLeDiff, ne_eq, not_false_eq_true, Int.reduceEq, Int.reduceLT, Int.reduceLE, Int.reduceNeg, Int.reduceToNat, Int.reduceGT, Int.reduceGE, Nat.reduceLT, Nat.lt_add_one, Nat.zero_lt_succ, Nat.succ_pos, Nat.zero_le, beq_self_eq_true, c2, decide_true, i0, hil, hz, Int.toNat_natCast, k_gatepostlaw05_piece_0]
      rw [w3]
      exact ⟨((a : Int) + Z).toNat, by rw [Int.toNat_of_nonneg (by omega)], by omega, by omega, by omega⟩
    · simp (maxSteps := 4000000) only [vm, vl, Arg.get, cells, stor, boundO, resultsV, resV, partK, loadV, Vm.part, fillC, splice, reduceIte, reduceCtorEq, Nat.reduceEqDiff, Nat.reduceAdd, Nat.reduceSub, Nat.reduceMul, Nat.reduceLeDiff, ne_eq, not_false_eq_true, Int.reduceEq, Int.reduceLT, Int.reduceLE, Int.reduceNeg, Int.reduceToNat, Int.reduceGT, Int.reduceGE, Nat.reduceLT, Nat.lt_add_one, Nat.zero_lt_succ, Nat.succ_pos, Nat.zero_le, beq_self_eq_true, c2, decide_false, k_gatepostlaw05_piece_0]
      rw [w2, e2]
      exact ⟨b, rfl, h1, Nat.le_refl _, fun _ => rfl⟩
  · rcases hx with ⟨h0, rfl⟩ | ⟨es, o, rfl, hl, he⟩
    · have c1 : decide (((i : Nat) : Int) < 0) = false := decide_eq_false (by omega)
      simp (maxSteps := 4000000) only [vm, vl, Arg.get, cells, stor, boundO, resultsV, resV, partK, loadV, Vm.part, fillC, splice, reduceIte, reduceCtorEq, Nat.reduceEqDiff, Nat.reduceAdd, Nat.reduceSub, Nat.reduceMul, Nat.reduceLeDiff, ne_eq, not_false_eq_true, Int.reduceEq, Int.reduceLT, Int.reduceLE, Int.reduceNeg, Int.reduceToNat, Int.reduceGT, Int.reduceGE, Nat.reduceLT, Nat.lt_add_one, Nat.zero_lt_succ, Nat.succ_pos, Nat.zero_le, beq_self_eq_true, c1, w1, k_gatepostlaw05_piece_0]
      rw [w2, e2]
      exact ⟨b, rfl, h1, Nat.le_refl _, fun _ => rfl⟩
    · have c1 : decide (((i : Nat) : Int) < ((es.length : Nat) : Int)) = false := decide_eq_false (by omega)
      simp (maxSteps := 4000000) only [vm, vl, Arg.get, cells, stor, boundO, resultsV, resV, partK, loadV, Vm.part, fillC, splice, reduceIte, reduceCtorEq, Nat.reduceEqDiff, Nat.reduceAdd, Nat.reduceSub, Nat.reduceMul, Nat.reduceLeDiff, ne_eq, not_false_eq_true, Int.reduceEq, Int.reduceLT, Int.reduceLE, Int.reduceNeg, Int.reduceToNat, Int.reduceGT, Int.reduceGE, Nat.reduceLT, Nat.lt_add_one, Nat.zero_lt_succ, Nat.succ_pos, Nat.zero_le, beq_self_eq_true, c1, w1, k_gatepostlaw05_piece_0]
      rw [w2, e2]
      exact ⟨b, rfl, h1, Nat.le_refl _, fun _ => rfl⟩
/-- What stands in the first line's places. -/
def HTy (st : HS) : Prop := (∃ (a b : Bs) (m : Int), st.q = (.str a, .str b, .int .i64 m)) ∧ ∃ (a b : Int) (m : Bs), st.p = (.int .i64 a, .int .i64 b, .str m)
theorem endS_ty {s : Bs} (h : HTy st) : HTy (endS ans s st) := by
  unfold endS
  split
  · split
    · exact h
    · cases ans with
      | true =>
        obtain ⟨m, c, r, hf, _⟩ := firstP_res s
        exact ⟨h.1, m, c, r, by simp only [if_true]; rw [hf]⟩
      | false =>
        obtain ⟨a, b, m, hf, _⟩ := firstP_req s
        exact ⟨⟨a, b, m, by simp only [Bool.false_eq_true, if_false]; rw [hf]⟩, h.2⟩
  · split
    · exact h
    · split
      · exact h
      · exact h
theorem takeS_ty {c : UInt8} (h : HTy st) : HTy (takeS ans c st) := by
  unfold takeS
  split
  · exact h
  · split
    · exact h
    · exact endS_ty h
theorem feedS_ty : ∀ {bs : Bs} {st : HS}, HTy st → HTy (feedS ans bs st).2
  | [], st, h => h
  | c :: r, st, h => by
    rw [feed_cons]
    split
    · exact feedS_ty (takeS_ty h)
    · exact h
theorem feed_le : ∀ {bs : Bs} {st : HS}, (feedS ans bs st).1 ≤ bs.length
  | [], st => Nat.le_refl _
  | c :: r, st => by
    rw [feed_cons]
    split
    · have := feed_le (bs := r) (st := takeS ans c st)
      simp only [List.length_cons]; omega
    · simp
end Go.Proofs.YtnfcjeajbjcppaaDoor.Vh
end
section
set_option linter.unusedVariables false
set_option linter.unusedSimpArgs false
namespace Go.Proofs.YtnfcjeajbjcppaaDoor.Vh
open Go.Vm Go.Vt
attribute [local congr] wi_congr wg_congr wgd_congr wb_congr wl_congr cf_congr
variable {L : FuncId → List V → V → Prop} {h : Heap} {kr : Nat} {S : Nat → Prop} {ans : Bool} {st : HS}
def rrV (ans : Bool) (st : HS) (vf : V) : List V := [.bool ans, .int .i64 st.taken, .str st.own, .bool st.begun, st.q.1, st.q.2.1, st.q.2.2, .nsl, st.p.1, st.p.2.1, st.p.2.2, .nsl, vf, .bool st.done, .int .i64 st.e]
def RR (h : Heap) (S : Nat → Prop) (kr : Nat) (ans : Bool) (st : HS) : Prop :=
  ∃ vf, h[kr]? = some (.box (rrV ans st vf)) ∧ FlsV h vf S st.fs ∧ ¬ S kr ∧ (∀ i, S i → i < h.length)
def RP (h : Heap) (S : Nat → Prop) (kr : Nat) (ans : Bool) (r : HS) (h' : Heap) : Prop := RR h' (growS S h.length h'.length) kr ans r ∧ Fr (orK S kr) h h'
theorem RR.put {u : Heap} {st' : HS} {vf : V} (g4 : FlsV h vf S st'.fs) (g5 : ¬ S kr) (g8 : ∀ i, S i → i < h.length) (hk : kr < h.length) :
    RP h S kr ans st' ((h ++ u).set kr (.box (rrV ans st' vf))) := by
  have keep : ∀ i x, h[i]? = some x → S i → ((h ++ u).set kr (.box (rrV ans st' vf)))[i]? = some x := fun i x hx hs => by
    rw [List.getElem?_set_ne (fun hh => g5 (by rw [hh]; exact hs))]; exact get_old hx
  refine ⟨⟨vf, List.getElem?_set_self (by simp; omega), g4.mono (fun i hs => .inl hs) (fun i n hx hs => keep i _ hx hs), ?_, ?_⟩, ?_⟩
  · rintro (hh | hh)
    · exact g5 hh
    · omega
  · rintro i (hh | hh)
    · have := g8 i hh; simp; omega
    · exact hh.2
  · refine ⟨by simp, fun i x hx hn => ?_⟩
    rw [List.getElem?_set_ne (fun hh => hn (.inr hh.symm))]; exact get_old hx
theorem RR.same (g : RR h S kr ans st) : RP h S kr ans st h := by
  obtain ⟨vf, g1, g4, g5, g8⟩ := g
  refine ⟨⟨vf, g1, g4.mono (fun i hs => .inl hs) (fun i n hx _ => hx), ?_, ?_⟩, .refl⟩
  · rintro (hh | hh)
    · exact g5 hh
    · omega
  · rintro i (hh | hh)
    · exact g8 i hh
    · omega
theorem rEnded_first (HI : IndexOk L) (HC : CountOk L) {s : Bs} {tk : Nat} {own : Bs} {dn : Bool} {q p : V × V × V} {fs : List Fld} (g : RR h S kr ans ⟨tk, own, false, dn, 0, q, p, fs⟩) (hs : s.length < 100000) (h0 : s ≠ []) :
    Cf F L i___gatepost_gatepostref05_Reader__ended [.ptr kr 0, .str s] h (fun _ h' => RP h S kr ans (endS ans s ⟨tk, own, false, dn, 0, q, p, fs⟩) h') := by
  refine run___gatepost_gatepostref05_Reader__ended ?_
  simp only [p___gatepost_gatepostref05_Reader__ended]
  
  obtain ⟨vf, g1, g4, g5, g8⟩ := g
  have hlt := lt_of_get g1
  have c1 : (s == []) = false := by cases s <;> simp_all
  have c2 : decide (s = []) = false := decide_eq_false h0
  have hE : endS ans s ⟨tk, own, false, dn, 0, q, p, fs⟩ = ⟨tk, own, true, dn, (firstP ans s).2, if ans then q else (firstP ans s).1, if ans then (firstP ans s).1 else p, fs⟩ := by
    unfold endS; rw [if_pos rfl, if_neg h0]
  rw [hE]
  unfold rrV at g1
  simp only at g1
  cases ans with
  | false =>
    obtain ⟨a, b, m, hf, hr⟩ := firstP_req s
    have R := fun h' => rRequest_ok (L := L) (h := h') (s := s) (by omega)
    rw [hr] at R
    simp (maxSteps := 4000000) only [vm, vl, Arg.get, cells, stor, boundO, resultsV, resV, partK, loadV, Vm.part, fillC, splice, reduceIte, reduceCtorEq, Nat.reduceEqDiff, Nat.reduceAdd, Nat.reduceSub, Nat.reduceMul, Nat.reduceLeDiff, ne_eq, not_false_eq_true, Int.reduceEq, Int.reduceLT, Int.reduceLE, Int.reduceNeg, Int.reduceToNat, Int.reduceGT, Int.reduceGE, Nat.reduceLT, Nat.lt_add_one, Nat.zero_lt_succ, Nat.succ_pos, Nat.zero_le, beq_self_eq_true, g1, c1, c2, k___gatepost_gatepostref05_Reader__ended_4]
    refine Cf.pu (R _) fun u => ?_
    have g1' := get_old (t := u) g1
    have s1 : ∀ X, ((h ++ u).set kr X)[kr]? = some X := fun X => List.getElem?_set_self (by simp; omega)
    have s2 : ∀ X Y : O, ((h ++ u).set kr X).set kr Y = (h ++ u).set kr Y := fun X Y => List.set_set ..
    have P := RR.put (ans := false) (u := u) (st' := ⟨tk, own, true, dn, (firstP false s).2, (firstP false s).1, p, fs⟩) g4 g5 g8 hlt
    generalize (firstP false s).2 = E at *
    rw [hf] at P ⊢
    unfold k___gatepost_gatepostref05_Reader__ended_7 k___gatepost_gatepostref05_Reader__ended_5
    generalize h ++ u = H at *
    simp (maxSteps := 4000000) only [vm, vl, Arg.get, cells, stor, boundO, resultsV, resV, partK, loadV, Vm.part, fillC, splice, reduceIte, reduceCtorEq, Nat.reduceEqDiff, Nat.reduceAdd, Nat.reduceSub, Nat.reduceMul, Nat.reduceLeDiff, ne_eq, not_false_eq_true, Int.reduceEq, Int.reduceLT, Int.reduceLE, Int.reduceNeg, Int.reduceToNat, Int.reduceGT, Int.reduceGE, Nat.reduceLT, Nat.lt_add_one, Nat.zero_lt_succ, Nat.succ_pos, Nat.zero_le, beq_self_eq_true, g1', s1, s2]
    exact P
  | true =>
    obtain ⟨a, b, m, hf, hr⟩ := firstP_res s
    have R := fun h' => rStatus_ok (L := L) (h := h') (s := s) (by omega)
    rw [hr] at R
    simp (maxSteps := 4000000) only [vm, vl, Arg.get, cells, stor, boundO, resultsV, resV, partK, loadV, Vm.part, fillC, splice, reduceIte, reduceCtorEq, Nat.reduceEqDiff, Nat.reduceAdd, Nat.reduceSub, Nat.reduceMul, Nat.reduceLeDiff, ne_eq, not_false_eq_true, Int.reduceEq, Int.reduceLT, Int.reduceLE, Int.reduceNeg, Int.reduceToNat, Int.reduceGT, Int.reduceGE, Nat.reduceLT, Nat.lt_add_one, Nat.zero_lt_succ, Nat.succ_pos, Nat.zero_le, beq_self_eq_true, g1, c1, c2, k___gatepost_gatepostref05_Reader__ended_4]
    refine Cf.pu (R _) fun u => ?_
    have g1' := get_old (t := u) g1
    have s1 : ∀ X, ((h ++ u).set kr X)[kr]? = some X := fun X => List.getElem?_set_self (by simp; omega)
    have s2 : ∀ X Y : O, ((h ++ u).set kr X).set kr Y = (h ++ u).set kr Y := fun X Y => List.set_set ..
    have P := RR.put (ans := true) (u := u) (st' := ⟨tk, own, true, dn, (firstP true s).2, q, (firstP true s).1, fs⟩) g4 g5 g8 hlt
    generalize (firstP true s).2 = E at *
    rw [hf] at P ⊢
    unfold k___gatepost_gatepostref05_Reader__ended_6 k___gatepost_gatepostref05_Reader__ended_5
    generalize h ++ u = H at *
    simp (maxSteps := 4000000) only [vm, vl, Arg.get, cells, stor, boundO, resultsV, resV, partK, loadV, Vm.part, fillC, splice, reduceIte, reduceCtorEq, Nat.reduceEqDiff, Nat.reduceAdd, Nat.reduceSub, Nat.reduceMul, Nat.reduceLeDiff, ne_eq, not_false_eq_true, Int.reduceEq, Int.reduceLT, Int.reduceLE, Int.reduceNeg, Int.reduceToNat, Int.reduceGT, Int.reduceGE, Nat.reduceLT, Nat.lt_add_one, Nat.zero_lt_succ, Nat.succ_pos, Nat.zero_le, beq_self_eq_true, g1', s1, s2]
    exact P
theorem rField_ok {s : Bs} {tk : Nat} {own : Bs} {dn : Bool} {q p : V × V × V} {fs : List Fld} {vf : V} (g1 : h[kr]? = some (.box (rrV ans ⟨tk, own, true, dn, 0, q, p, fs⟩ vf))) (g4 : FlsV h vf S fs) (g5 : ¬ S kr) (g8 : ∀ i, S i → i < h.length) (hs : s.length < 100000) (hf : fs.length < 64) :
    k___gatepost_gatepostref05_Reader__ended_2 L (fun _ h' => RP h S kr ans ⟨tk, own, true, dn, parE s, q, p, fs ++ [parF s]⟩ h') (.ptr kr 0) (.str s) h := by
  
  unfold k___gatepost_gatepostref05_Reader__ended_2
  unfold rrV at g1
  simp only at g1
  have R := fun h' => rParse_ok (L := L) (h := h') (s := s) hs
  rw [parseV_form] at R
  simp (maxSteps := 4000000) only [vm, vl, Arg.get, cells, stor, boundO, resultsV, resV, partK, loadV, Vm.part, fillC, splice, reduceIte, reduceCtorEq, Nat.reduceEqDiff, Nat.reduceAdd, Nat.reduceSub, Nat.reduceMul, Nat.reduceLeDiff, ne_eq, not_false_eq_true, Int.reduceEq, Int.reduceLT, Int.reduceLE, Int.reduceNeg, Int.reduceToNat, Int.reduceGT, Int.reduceGE, Nat.reduceLT, Nat.lt_add_one, Nat.zero_lt_succ, Nat.succ_pos, Nat.zero_le, beq_self_eq_true]
  refine Cf.pu (R _) fun u => ?_
  unfold k___gatepost_gatepostref05_Reader__ended_3
  have g1' := get_old (t := u) g1
  have g4' := g4.mono (T := S) (h' := h ++ u) (fun i hh => hh) (fun i n hx _ => get_old hx)
  have hle : h.length ≤ (h ++ u).length := by simp
  have hfr : ∀ i x, h[i]? = some x → (h ++ u)[i]? = some x := fun i x hx => get_old hx
  generalize h ++ u = H at *
  have hlt' := lt_of_get g1'
  have g1b := get_old (t := [.box [.str (parF s).1, .str (parF s).2]]) g1'
  have g4b := g4'.mono (T := S) (h' := H ++ [.box [.str (parF s).1, .str (parF s).2]]) (fun i hh => hh) (fun i n hx _ => get_old hx)
  have hbx : (H ++ [O.box [.str (parF s).1, .str (parF s).2]])[H.length]? = some (.box [.str (parF s).1, .str (parF s).2]) := by rw [List.getElem?_append_right (Nat.le_refl _), Nat.sub_self]; rfl
  have hl1 : (H ++ [O.box [.str (parF s).1, .str (parF s).2]]).length = H.length + 1 := by simp
  have hH1 : ∀ i x, H[i]? = some x → (H ++ [O.box [.str (parF s).1, .str (parF s).2]])[i]? = some x := fun i x hx => get_old hx
  simp only [fldV]
  simp (maxSteps := 4000000) only [vm, vl, Arg.get, cells, stor, boundO, resultsV, resV, partK, loadV, Vm.part, fillC, splice, reduceIte, reduceCtorEq, Nat.reduceEqDiff, Nat.reduceAdd, Nat.reduceSub, Nat.reduceMul, Nat.reduceLeDiff, ne_eq, not_false_eq_true, Int.reduceEq, Int.reduceLT, Int.reduceLE, Int.reduceNeg, Int.reduceToNat, Int.reduceGT, Int.reduceGE, Nat.reduceLT, Nat.lt_add_one, Nat.zero_lt_succ, Nat.succ_pos, Nat.zero_le, beq_self_eq_true, g1b]
  generalize H ++ [O.box [.str (parF s).1, .str (parF s).2]] = H1 at *
  have hlt1 := lt_of_get g1b
  have s1 : ∀ X, (H1.set kr X)[kr]? = some X := fun X => List.getElem?_set_self hlt1
  have s2 : ∀ X, (H1.set kr X)[H.length]? = some (.box [.str (parF s).1, .str (parF s).2]) := fun X => by rw [List.getElem?_set_ne (by omega)]; exact hbx
  have g4c : ∀ X, FlsV (H1.set kr X) vf S fs := fun X => g4b.mono (fun i hh => hh) (fun i n hx hs => by rw [List.getElem?_set_ne (fun hh => g5 (by rw [hh]; exact hs))]; exact hx)
  obtain ⟨vf', H2, ha, gf, hl2, hk2⟩ := fls_app (f := parF s) (g4c (.box (rrV ans ⟨tk, own, true, dn, parE s, q, p, fs⟩ vf))) (by omega)
  rw [List.length_set] at hl2 gf
  unfold fldV at ha
  have gr2 := hk2 kr _ (s1 _) (fun hh => g5 hh.1)
  unfold rrV at ha gr2
  simp only at ha gr2
  have hlt2 := lt_of_get gr2
  have s3 : ∀ X, (H2.set kr X)[kr]? = some X := fun X => List.getElem?_set_self hlt2
  have hv : ∃ k', vf' = .sl 2 (.tip k') (flds (fs ++ [parF s])) := by
    rcases gf with ⟨_, hh⟩ | ⟨k', hh, _⟩
    · simp at hh
    · exact ⟨k', hh⟩
  obtain ⟨k', rfl⟩ := hv
  simp (maxSteps := 4000000) only [vm, vl, Arg.get, cells, stor, boundO, resultsV, resV, partK, loadV, Vm.part, fillC, splice, reduceIte, reduceCtorEq, Nat.reduceEqDiff, Nat.reduceAdd, Nat.reduceSub, Nat.reduceMul, Nat.reduceLeDiff, ne_eq, not_false_eq_true, Int.reduceEq, Int.reduceLT, Int.reduceLE, Int.reduceNeg, Int.reduceToNat, Int.reduceGT, Int.reduceGE, Nat.reduceLT, Nat.lt_add_one, Nat.zero_lt_succ, Nat.succ_pos, Nat.zero_le, beq_self_eq_true, g1b, s1, s2, ha, gr2, s3]
  have hkr : kr < h.length := lt_of_get g1
  refine ⟨⟨.sl 2 (.tip k') (flds (fs ++ [parF s])), s3 _, ?_, ?_, ?_⟩, ?_⟩
  · refine gf.mono (fun i hh => ?_) fun i n hx hs => ?_
    · simp only [List.length_set]
      rcases hh with hh | hh
      · exact .inl hh
      · exact .inr ⟨by omega, hh.2⟩
    · rw [List.getElem?_set_ne (fun hh => by rw [hh] at gr2; rw [gr2] at hx; cases hx)]; exact hx
  · rintro (hh | hh)
    · exact g5 hh
    · omega
  · rintro i (hh | hh)
    · have := g8 i hh; simp only [List.length_set]; omega
    · exact hh.2
  · refine ⟨by simp only [List.length_set]; omega, fun i x hx hn => ?_⟩
    rw [List.getElem?_set_ne (fun hh => hn (.inr hh.symm))]
    refine hk2 i x ?_ fun hh => hn (.inl hh.1)
    rw [List.getElem?_set_ne (fun hh => hn (.inr hh.symm))]
    exact hH1 i x (hfr i x hx)
theorem rEnded_field {s : Bs} {tk : Nat} {own : Bs} {dn : Bool} {q p : V × V × V} {fs : List Fld} (g : RR h S kr ans ⟨tk, own, true, dn, 0, q, p, fs⟩) (hs : s.length < 100000) (h0 : s ≠ []) (hf : fs.length < 64) :
    Cf F L i___gatepost_gatepostref05_Reader__ended [.ptr kr 0, .str s] h (fun _ h' => RP h S kr ans (endS ans s ⟨tk, own, true, dn, 0, q, p, fs⟩) h') := by
  have hE : endS ans s ⟨tk, own, true, dn, 0, q, p, fs⟩ = ⟨tk, own, true, dn, parE s, q, p, fs ++ [parF s]⟩ := by
    unfold endS; rw [if_neg (by simp), if_neg h0, if_neg (by simp only; omega)]
  rw [hE]
  refine run___gatepost_gatepostref05_Reader__ended ?_
  simp only [p___gatepost_gatepostref05_Reader__ended]
  
  obtain ⟨vf, g1, g4, g5, g8⟩ := g
  have c1 : (s == []) = false := by cases s <;> simp_all
  have c2 : decide (s = []) = false := decide_eq_false h0
  have c3 : decide (((fs.length : Nat) : Int) = 64) = false := decide_eq_false (by omega)
  have K := rField_ok (L := L) g1 g4 g5 g8 hs hf
  unfold rrV at g1
  simp only at g1
  have hfl := flds_len fs
  rcases g4 with ⟨rfl, h5⟩ | ⟨k, rfl, _⟩
  · have : fs = [] := h5
    subst this
    simp (maxSteps := 4000000) only [vm, vl, Arg.get, cells, stor, boundO, resultsV, resV, partK, loadV, Vm.part, fillC, splice, reduceIte, reduceCtorEq, Nat.reduceEqDiff, Nat.reduceAdd, Nat.reduceSub, Nat.reduceMul, Nat.reduceLeDiff, ne_eq, not_false_eq_true, Int.reduceEq, Int.reduceLT, Int.reduceLE, Int.reduceNeg, Int.reduceToNat, Int.reduceGT, Int.reduceGE, Nat.reduceLT, Nat.lt_add_one, Nat.zero_lt_succ, Nat.succ_pos, Nat.zero_le, beq_self_eq_true, g1, c1, c2, c3, k___gatepost_gatepostref05_Reader__ended_0, k___gatepost_gatepostref05_Reader__ended_1]
    exact K
  · simp (maxSteps := 4000000) only [vm, vl, Arg.get, cells, stor, boundO, resultsV, resV, partK, loadV, Vm.part, fillC, splice, reduceIte, reduceCtorEq, Nat.reduceEqDiff, Nat.reduceAdd, Nat.reduceSub, Nat.reduceMul, Nat.reduceLeDiff, ne_eq, not_false_eq_true, Int.reduceEq, Int.reduceLT, Int.reduceLE, Int.reduceNeg, Int.reduceToNat, Int.reduceGT, Int.reduceGE, Nat.reduceLT, Nat.lt_add_one, Nat.zero_lt_succ, Nat.succ_pos, Nat.zero_le, beq_self_eq_true, g1, c1, c2, c3, hfl, k___gatepost_gatepostref05_Reader__ended_0, k___gatepost_gatepostref05_Reader__ended_1]
    exact K
theorem rEnded_none {tk : Nat} {own : Bs} {dn : Bool} {q p : V × V × V} {fs : List Fld} (g : RR h S kr ans ⟨tk, own, false, dn, 0, q, p, fs⟩) :
    Cf F L i___gatepost_gatepostref05_Reader__ended [.ptr kr 0, .str []] h (fun _ h' => RP h S kr ans (endS ans [] ⟨tk, own, false, dn, 0, q, p, fs⟩) h') := by
  have hE : endS ans [] ⟨tk, own, false, dn, 0, q, p, fs⟩ = ⟨tk, own, false, dn, 0, q, p, fs⟩ := by unfold endS; rw [if_pos rfl, if_pos rfl]
  rw [hE]
  refine run___gatepost_gatepostref05_Reader__ended ?_
  simp only [p___gatepost_gatepostref05_Reader__ended]
  
  have P := g.same
  obtain ⟨vf, g1, g4, g5, g8⟩ := g
  unfold rrV at g1
  simp only at g1
  simp (maxSteps := 4000000) only [vm, vl, Arg.get, cells, stor, boundO, resultsV, resV, partK, loadV, Vm.part, fillC, splice, reduceIte, reduceCtorEq, Nat.reduceEqDiff, Nat.reduceAdd, Nat.reduceSub, Nat.reduceMul, Nat.reduceLeDiff, ne_eq, not_false_eq_true, Int.reduceEq, Int.reduceLT, Int.reduceLE, Int.reduceNeg, Int.reduceToNat, Int.reduceGT, Int.reduceGE, Nat.reduceLT, Nat.lt_add_one, Nat.zero_lt_succ, Nat.succ_pos, Nat.zero_le, beq_self_eq_true, g1]
  exact P
theorem rEnded_done {tk : Nat} {own : Bs} {dn : Bool} {q p : V × V × V} {fs : List Fld} (g : RR h S kr ans ⟨tk, own, true, dn, 0, q, p, fs⟩) :
    Cf F L i___gatepost_gatepostref05_Reader__ended [.ptr kr 0, .str []] h (fun _ h' => RP h S kr ans (endS ans [] ⟨tk, own, true, dn, 0, q, p, fs⟩) h') := by
  have hE : endS ans [] ⟨tk, own, true, dn, 0, q, p, fs⟩ = ⟨tk, own, true, true, 0, q, p, fs⟩ := by unfold endS; rw [if_neg (by simp), if_pos rfl]
  rw [hE]
  refine run___gatepost_gatepostref05_Reader__ended ?_
  simp only [p___gatepost_gatepostref05_Reader__ended]
  
  obtain ⟨vf, g1, g4, g5, g8⟩ := g
  have P := RR.put (ans := ans) (u := []) (st' := ⟨tk, own, true, true, 0, q, p, fs⟩) g4 g5 g8 (lt_of_get g1)
  rw [List.append_nil] at P
  unfold rrV at g1
  simp only at g1
  simp (maxSteps := 4000000) only [vm, vl, Arg.get, cells, stor, boundO, resultsV, resV, partK, loadV, Vm.part, fillC, splice, reduceIte, reduceCtorEq, Nat.reduceEqDiff, Nat.reduceAdd, Nat.reduceSub, Nat.reduceMul, Nat.reduceLeDiff, ne_eq, not_false_eq_true, Int.reduceEq, Int.reduceLT, Int.reduceLE, Int.reduceNeg, Int.reduceToNat, Int.reduceGT, Int.reduceGE, Nat.reduceLT, Nat.lt_add_one, Nat.zero_lt_succ, Nat.succ_pos, Nat.zero_le, beq_self_eq_true, g1, k___gatepost_gatepostref05_Reader__ended_0]
  exact P
theorem rEnded_many {s : Bs} {tk : Nat} {own : Bs} {dn : Bool} {q p : V × V × V} {fs : List Fld} (g : RR h S kr ans ⟨tk, own, true, dn, 0, q, p, fs⟩) (h0 : s ≠ []) (hf2 : fs.length = 64) :
    Cf F L i___gatepost_gatepostref05_Reader__ended [.ptr kr 0, .str s] h (fun _ h' => RP h S kr ans (endS ans s ⟨tk, own, true, dn, 0, q, p, fs⟩) h') := by
  have hE : endS ans s ⟨tk, own, true, dn, 0, q, p, fs⟩ = ⟨tk, own, true, dn, 3, q, p, fs⟩ := by unfold endS; rw [if_neg (by simp), if_neg h0, if_pos hf2]
  rw [hE]
  refine run___gatepost_gatepostref05_Reader__ended ?_
  simp only [p___gatepost_gatepostref05_Reader__ended]
  
  obtain ⟨vf, g1, g4, g5, g8⟩ := g
  have P := RR.put (ans := ans) (u := []) (st' := ⟨tk, own, true, dn, 3, q, p, fs⟩) g4 g5 g8 (lt_of_get g1)
  rw [List.append_nil] at P
  have c1 : (s == []) = false := by cases s <;> simp_all
  have c2 : decide (s = []) = false := decide_eq_false h0
  have c3 : decide (((fs.length : Nat) : Int) = 64) = true := decide_eq_true (by omega)
  unfold rrV at g1
  simp only at g1
  have hfl := flds_len fs
  rcases g4 with ⟨rfl, h5⟩ | ⟨k, rfl, _⟩
  · have : fs = [] := h5
    subst this
    simp at hf2
  · simp (maxSteps := 4000000) only [vm, vl, Arg.get, cells, stor, boundO, resultsV, resV, partK, loadV, Vm.part, fillC, splice, reduceIte, reduceCtorEq, Nat.reduceEqDiff, Nat.reduceAdd, Nat.reduceSub, Nat.reduceMul, Nat.reduceLeDiff, ne_eq, not_false_eq_true, Int.reduceEq, Int.reduceLT, Int.reduceLE, Int.reduceNeg, Int.reduceToNat, Int.reduceGT, Int.reduceGE, Nat.reduceLT, Nat.lt_add_one, Nat.zero_lt_succ, Nat.succ_pos, Nat.zero_le, beq_self_eq_true, g1, c1, c2, c3, hfl, k___gatepost_gatepostref05_Reader__ended_0, k___gatepost_gatepostref05_Reader__ended_1]
    exact P
theorem rEnded_ok (HI : IndexOk L) (HC : CountOk L) {s : Bs} (g : RR h S kr ans st) (he : st.e = 0) (hs : s.length < 100000) (hf : st.fs.length ≤ 64) :
    Cf F L i___gatepost_gatepostref05_Reader__ended [.ptr kr 0, .str s] h (fun _ h' => RP h S kr ans (endS ans s st) h') := by
  obtain ⟨tk, own, bg, dn, e, q, p, fs⟩ := st
  have : e = 0 := he
  subst this
  have hf' : fs.length ≤ 64 := hf
  by_cases h0 : s = []
  · subst h0
    cases bg with
    | false => exact rEnded_none g
    | true => exact rEnded_done g
  · cases bg with
    | false => exact rEnded_first HI HC g hs h0
    | true =>
      by_cases h64 : fs.length = 64
      · exact rEnded_many g h0 h64
      · exact rEnded_field g hs h0 (by omega)
end Go.Proofs.YtnfcjeajbjcppaaDoor.Vh
end
section
set_option linter.unusedVariables false
set_option linter.unusedSimpArgs false
namespace Go.Proofs.YtnfcjeajbjcppaaDoor.Vh
open Go.Vm Go.Vt
attribute [local congr] wi_congr wg_congr wgd_congr wb_congr wl_congr cf_congr
variable {L : FuncId → List V → V → Prop} {h : Heap} {kr : Nat} {S : Nat → Prop} {ans : Bool} {st : HS}
theorem RP.trans {h1 h' : Heap} {st1 r : HS} (a : RP h S kr ans st1 h1) (b : RP h1 (growS S h.length h1.length) kr ans r h') : RP h S kr ans r h' := by
  obtain ⟨a1, a2⟩ := a
  obtain ⟨b1, b2⟩ := b
  rw [grow_grow a2.1 b2.1] at b1
  exact ⟨b1, a2.trans (b2.mono fun i hh => or_grow hh)⟩
theorem rEnd4 (HI : IndexOk L) (HC : CountOk L) {s : Bs} {tk : Nat} {own : Bs} {bg dn : Bool} {q p : V × V × V} {fs : List Fld} {K : V → Heap → Prop} {N0 : Env → Heap → Prop} {e : Env} (g : RR h S kr ans ⟨tk, own, bg, dn, 0, q, p, fs⟩) (hs : s.length < 100000) (hf : fs.length ≤ 64)
    (hN : ∀ e' h', e' 0 = e 0 → e' 1 = e 1 → e' 7 = e 7 → RP h S kr ans (endS ans s ⟨tk, [], bg, dn, 0, q, p, fs⟩) h' → N0 e' h') : k___gatepost_gatepostref05_Reader__Feed_4 L K N0 e (.ptr kr 0) (.str s) h := by
  
  obtain ⟨vf, g1, g4, g5, g8⟩ := g
  have P := RR.put (ans := ans) (u := []) (st' := ⟨tk, [], bg, dn, 0, q, p, fs⟩) g4 g5 g8 (lt_of_get g1)
  rw [List.append_nil] at P
  unfold rrV at g1 P
  simp only at g1 P
  unfold k___gatepost_gatepostref05_Reader__Feed_4
  simp (maxSteps := 4000000) only [vm, vl, Arg.get, cells, stor, boundO, resultsV, resV, partK, loadV, Vm.part, fillC, splice, reduceIte, reduceCtorEq, Nat.reduceEqDiff, Nat.reduceAdd, Nat.reduceSub, Nat.reduceMul, Nat.reduceLeDiff, ne_eq, not_false_eq_true, Int.reduceEq, Int.reduceLT, Int.reduceLE, Int.reduceNeg, Int.reduceToNat, Int.reduceGT, Int.reduceGE, Nat.reduceLT, Nat.lt_add_one, Nat.zero_lt_succ, Nat.succ_pos, Nat.zero_le, beq_self_eq_true, g1]
  refine (rEnded_ok HI HC P.1 rfl hs hf).mono fun v h' hv => ?_
  exact hN _ _ rfl rfl rfl (P.trans hv)
theorem rLine (HI : IndexOk L) (HC : CountOk L) {tk : Nat} {own : Bs} {c : UInt8} {bg dn : Bool} {q p : V × V × V} {fs : List Fld} {K : V → Heap → Prop} {N0 : Env → Heap → Prop} {e : Env} (g : RR h S kr ans ⟨tk, own ++ [c], bg, dn, 0, q, p, fs⟩) (hl : own.length < 90000) (hf : fs.length ≤ 64)
    (hN : ∀ e' h', e' 0 = e 0 → e' 1 = e 1 → e' 7 = e 7 → RP h S kr ans (endS ans (cutL (own ++ [c])) ⟨tk, [], bg, dn, 0, q, p, fs⟩) h' → N0 e' h') : k___gatepost_gatepostref05_Reader__Feed_3 L K N0 e (.ptr kr 0) h := by
  
  have G := g
  obtain ⟨vf, g1, g4, g5, g8⟩ := g
  unfold rrV at g1
  simp only at g1
  have hc : cutL (own ++ [c]) = cutE own := by
    unfold cutL; rw [List.length_append, List.length_singleton, Nat.add_sub_cancel, List.take_left]
  have htk : (own ++ [c]).take own.length = own := List.take_left ..
  have hln : (own ++ [c]).length = own.length + 1 := by simp
  have w1 := wrap64 (x := ((own.length + 1 : Nat) : Int) - 1) (by omega) (by omega)
  rw [show ((own.length + 1 : Nat) : Int) - 1 = (own.length : Int) by omega] at w1
  have w1' : ((own.length + 1 : Nat) : Int) - 1 = (own.length : Int) := by omega
  rw [hc] at hN
  unfold k___gatepost_gatepostref05_Reader__Feed_3
  generalize own ++ [c] = o2 at *
  have R4 := fun (s : Bs) (hs : s.length < 100000) (hN : ∀ e' h', e' 0 = e 0 → e' 1 = e 1 → e' 7 = e 7 → RP h S kr ans (endS ans s ⟨tk, [], bg, dn, 0, q, p, fs⟩) h' → N0 e' h') e' (h0 : e' 0 = e 0) (h1 : e' 1 = e 1) (h7 : e' 7 = e 7) => rEnd4 (K := K) (N0 := N0) (e := e') HI HC G hs hf (fun e2 h2 a b c P => hN e2 h2 (a.trans h0) (b.trans h1) (c.trans h7) P)
  by_cases c0 : own.length = 0
  · have hE : cutE own = own := by unfold cutE; rw [if_neg (fun hh => by omega)]
    rw [hE] at hN
    have d1 : ((own.length : Int) > 0) = False := eq_false (by omega)
    have i3 : own.length ≤ own.length + 1 := by omega
    have i4 : (0 : Int) ≤ (own.length : Int) := by omega
    simp (maxSteps := 4000000) only [vm, vl, Arg.get, cells, stor, boundO, resultsV, resV, partK, loadV, Vm.part, fillC, splice, reduceIte, reduceCtorEq, Nat.reduceEqDiff, Nat.reduceAdd, Nat.reduceSub, Nat.reduceMul, Nat.reduceLeDiff, ne_eq, not_false_eq_true, Int.reduceEq, Int.reduceLT, Int.reduceLE, Int.reduceNeg, Int.reduceToNat, Int.reduceGT, Int.reduceGE, Nat.reduceLT, Nat.lt_add_one, Nat.zero_lt_succ, Nat.succ_pos, Nat.zero_le, beq_self_eq_true, g1, hln, w1, w1', htk, Int.toNat_natCast, d1, i3, i4, decide_false]
    exact R4 own (by omega) hN _ rfl rfl rfl
  obtain ⟨m, hm⟩ : ∃ m, own.length = m + 1 := ⟨own.length - 1, by omega⟩
  have c1 : (own.length : Int) > 0 := by omega
  have w2 : IntKind.i64.wrap ((own.length : Int) - 1) = (m : Int) := by
    rw [wrap64 (by omega) (by omega)]; omega
  have w2' : (own.length : Int) - 1 = (m : Int) := by omega
  have w3 := wrap64 (x := (m : Int)) (by omega) (by omega)
  have i0 : (0 : Int) ≤ (m : Int) := by omega
  have i1 : m < own.length := by omega
  have i2 : m ≤ own.length := by omega
  have i3 : own.length ≤ own.length + 1 := by omega
  have i4 : (0 : Int) ≤ (own.length : Int) := by omega
  have hce : cutE own = if own.getD m 0 = 13 then own.take m else own := by
    unfold cutE
    rw [hm, Nat.add_sub_cancel]
    by_cases c3 : own.getD m 0 = 13
    · rw [if_pos ⟨by omega, c3⟩, if_pos c3]
    · rw [if_neg (fun hh => c3 hh.2), if_neg c3]
  have b13 : (((own.getD m 0).toNat : Int) = 13) = (own.getD m 0 = 13) := propext ⟨fun hh => by
    apply UInt8.toNat_inj.1
    have : (own.getD m 0).toNat = 13 := by omega
    rw [this]; rfl, fun hh => by rw [hh]; rfl⟩
  by_cases c3 : own.getD m 0 = 13
  · rw [hce, if_pos c3] at hN
    have d3 := decide_eq_true (b13.mpr c3)
    simp (maxSteps := 4000000) only [vm, vl, Arg.get, cells, stor, boundO, resultsV, resV, partK, loadV, Vm.part, fillC, splice, reduceIte, reduceCtorEq, Nat.reduceEqDiff, Nat.reduceAdd, Nat.reduceSub, Nat.reduceMul, Nat.reduceLeDiff, ne_eq, not_false_eq_true, Int.reduceEq, Int.reduceLT, Int.reduceLE, Int.reduceNeg, Int.reduceToNat, Int.reduceGT, Int.reduceGE, Nat.reduceLT, Nat.lt_add_one, Nat.zero_lt_succ, Nat.succ_pos, Nat.zero_le, beq_self_eq_true, g1, hln, w1, w1', htk, Int.toNat_natCast, c1, w3, w2', i0, i1, i2, i3, i4, decide_true, d3]
    exact R4 _ (by rw [List.length_take]; omega) hN _ rfl rfl rfl
  · rw [hce, if_neg c3] at hN
    have d3 := decide_eq_false (fun hh => c3 (b13.mp hh))
    simp (maxSteps := 4000000) only [vm, vl, Arg.get, cells, stor, boundO, resultsV, resV, partK, loadV, Vm.part, fillC, splice, reduceIte, reduceCtorEq, Nat.reduceEqDiff, Nat.reduceAdd, Nat.reduceSub, Nat.reduceMul, Nat.reduceLeDiff, ne_eq, not_false_eq_true, Int.reduceEq, Int.reduceLT, Int.reduceLE, Int.reduceNeg, Int.reduceToNat, Int.reduceGT, Int.reduceGE, Nat.reduceLT, Nat.lt_add_one, Nat.zero_lt_succ, Nat.succ_pos, Nat.zero_le, beq_self_eq_true, g1, hln, w1, w1', htk, Int.toNat_natCast, c1, w3, w2', i0, i1, i2, i3, i4, decide_true, d3]
    exact R4 _ (by omega) hN _ rfl rfl rfl
def FeedR (h : Heap) (S : Nat → Prop) (kr : Nat) (ans : Bool) (r : Nat × HS) (v : V) (h' : Heap) : Prop :=
  v = .tup [.int .i64 r.1, .bool r.2.done, .int .i64 r.2.e] ∧ RR h' (growS S h.length h'.length) kr ans r.2 ∧ HOk r.2 ∧ Fr (orK S kr) h h'
theorem rFeedEnd {i : Nat} {T : Nat → Prop} {K : V → Heap → Prop} (g : RR h T kr ans st) (hk : K (.tup [.int .i64 i, .bool st.done, .int .i64 st.e]) h) : k___gatepost_gatepostref05_Reader__Feed_0 L K (.ptr kr 0) (.int .i64 i) h := by
  
  obtain ⟨vf, g1, _⟩ := g
  unfold rrV at g1
  unfold k___gatepost_gatepostref05_Reader__Feed_0
  simp (maxSteps := 4000000) only [vm, vl, Arg.get, cells, stor, boundO, resultsV, resV, partK, loadV, Vm.part, fillC, splice, reduceIte, reduceCtorEq, Nat.reduceEqDiff, Nat.reduceAdd, Nat.reduceSub, Nat.reduceMul, Nat.reduceLeDiff, ne_eq, not_false_eq_true, Int.reduceEq, Int.reduceLT, Int.reduceLE, Int.reduceNeg, Int.reduceToNat, Int.reduceGT, Int.reduceGE, Nat.reduceLT, Nat.lt_add_one, Nat.zero_lt_succ, Nat.succ_pos, Nat.zero_le, beq_self_eq_true, g1]
  exact hk
set_option maxHeartbeats 1600000 in
theorem rTake_ok (HI : IndexOk L) (HC : CountOk L) {x : V} {bs : Bs} {i : Nat} {K : V → Heap → Prop} {N0 : Env → Heap → Prop} {e : Env} {T : Nat → Prop} (g : RR h S kr ans st) (ho : HOk st) (he : st.e = 0) (hd : st.done = false) (hb : Bv h x T bs) (hi : i < bs.length) (hl : bs.length ≤ 140737488351232)
    (hE : ∀ h', (takeS ans (bs.getD i 0) st).e ≠ 0 → RP h S kr ans (takeS ans (bs.getD i 0) st) h' → K (.tup [.int .i64 (i + 1 : Nat), .bool (takeS ans (bs.getD i 0) st).done, .int .i64 (takeS ans (bs.getD i 0) st).e]) h')
    (hN : ∀ e' h', e' 0 = e 0 → e' 1 = e 1 → e' 7 = .int .i64 (i + 1 : Nat) → RP h S kr ans (takeS ans (bs.getD i 0) st) h' → N0 e' h') :
    k___gatepost_gatepostref05_Reader__Feed_1 L K N0 e (.ptr kr 0) x (.int .i64 i) h := by
  
  unfold k___gatepost_gatepostref05_Reader__Feed_1
  refine bv_at hb hi fun v30 => ?_
  generalize bs.getD i 0 = c at *
  obtain ⟨tk, own, bg, dn, e_, q, p, fs⟩ := st
  have : e_ = 0 := he
  subst this
  have : dn = false := hd
  subst this
  have hown : own.length ≤ tk := ho.own
  have htk : tk ≤ 8192 := ho.run rfl
  have hfs : fs.length ≤ 64 := ho.fs
  have w1 : IntKind.i64.wrap ((i : Int) + 1) = ((i + 1 : Nat) : Int) := by rw [wrap64 (by omega) (by omega)]; omega
  have w2 : IntKind.i64.wrap ((tk : Int) + 1) = ((tk + 1 : Nat) : Int) := by rw [wrap64 (by omega) (by omega)]; omega
  have hb1 := bin_str (a := own) (b := [c]) (by simp; omega)
  have hln : (own ++ [c]).length = own.length + 1 := by simp
  have hts : ∀ h : Heap, stepI (.toStr (.c (.sl 1 .full [.int .u8 (c.toNat : Int)]))) E0 h = some (.str [c], h) := fun h => by
    have := toBytes_map [c]
    simp only [List.map_cons, List.map_nil, ofByte] at this
    simp only [stepI, Arg.get, srcElems, if_true, Option.bind_some, this, Option.map_some]
  obtain ⟨vf, g1, g4, g5, g8⟩ := g
  have hlt := lt_of_get g1
  have P := fun st' (h4 : FlsV h vf S st'.fs) => RR.put (ans := ans) (u := []) (st' := st') h4 g5 g8 hlt
  simp only [List.append_nil] at P
  have s1 : ∀ X, (h.set kr X)[kr]? = some X := fun X => List.getElem?_set_self hlt
  have s2 : ∀ X Y : O, (h.set kr X).set kr Y = h.set kr Y := fun X Y => List.set_set ..
  unfold rrV at g1
  simp only at g1
  have hT : takeS ans c ⟨tk, own, bg, false, 0, q, p, fs⟩ = if tk + 1 > 8192 ∨ (bg = false ∧ own.length + 1 > 1026) then ⟨tk + 1, own ++ [c], bg, false, 3, q, p, fs⟩ else if c ≠ 10 then ⟨tk + 1, own ++ [c], bg, false, 0, q, p, fs⟩ else endS ans (cutL (own ++ [c])) ⟨tk + 1, [], bg, false, 0, q, p, fs⟩ := rfl
  rw [hT] at hE hN
  have K0 : ∀ e', e' 0 = e 0 → e' 1 = e 1 → e' 7 = .int .i64 (i + 1 : Nat) → ¬ (tk + 1 > 8192 ∨ (bg = false ∧ own.length + 1 > 1026)) →
      k___gatepost_gatepostref05_Reader__Feed_2 L K N0 e' (.ptr kr 0) (.int .u8 c.toNat) (h.set kr (.box (rrV ans ⟨tk + 1, own ++ [c], bg, false, 0, q, p, fs⟩ vf))) := by
    intro e' q0 q1 q7 hn
    rw [if_neg hn] at hN
    have P1 := P ⟨tk + 1, own ++ [c], bg, false, 0, q, p, fs⟩ g4
    have u10 : (((c.toNat : Nat) : Int) = 10) = (c = 10) := propext ⟨fun hh => by
      apply UInt8.toNat_inj.1
      have : c.toNat = 10 := by omega
      rw [this]; rfl, fun hh => by rw [hh]; rfl⟩
    unfold k___gatepost_gatepostref05_Reader__Feed_2
    by_cases c10 : c = 10
    · rw [if_neg (fun hh => hh c10)] at hN
      have d := decide_eq_true (u10.mpr c10)
      simp (maxSteps := 4000000) only [vm, vl, Arg.get, cells, stor, boundO, resultsV, resV, partK, loadV, Vm.part, fillC, splice, reduceIte, reduceCtorEq, Nat.reduceEqDiff, Nat.reduceAdd, Nat.reduceSub, Nat.reduceMul, Nat.reduceLeDiff, ne_eq, not_false_eq_true, Int.reduceEq, Int.reduceLT, Int.reduceLE, Int.reduceNeg, Int.reduceToNat, Int.reduceGT, Int.reduceGE, Nat.reduceLT, Nat.lt_add_one, Nat.zero_lt_succ, Nat.succ_pos, Nat.zero_le, beq_self_eq_true, d]
      exact rLine HI HC P1.1 (by omega) hfs fun e2 h2 a b c P2 => hN e2 h2 (a.trans q0) (b.trans q1) (c.trans q7) (P1.trans P2)
    · rw [if_pos c10] at hN
      have d := decide_eq_false (fun hh => c10 (u10.mp hh))
      simp (maxSteps := 4000000) only [vm, vl, Arg.get, cells, stor, boundO, resultsV, resV, partK, loadV, Vm.part, fillC, splice, reduceIte, reduceCtorEq, Nat.reduceEqDiff, Nat.reduceAdd, Nat.reduceSub, Nat.reduceMul, Nat.reduceLeDiff, ne_eq, not_false_eq_true, Int.reduceEq, Int.reduceLT, Int.reduceLE, Int.reduceNeg, Int.reduceToNat, Int.reduceGT, Int.reduceGE, Nat.reduceLT, Nat.lt_add_one, Nat.zero_lt_succ, Nat.succ_pos, Nat.zero_le, beq_self_eq_true, d]
      exact hN _ _ q0 q1 q7 P1
  unfold rrV at K0
  simp only at K0
  by_cases c1 : tk + 1 > 8192
  · have P3 := P ⟨tk + 1, own ++ [c], bg, false, 3, q, p, fs⟩ g4
    rw [if_pos (.inl c1)] at hE
    have d1 : decide (((tk + 1 : Nat) : Int) > 8192) = true := decide_eq_true (by omega)
    have K3 := rFeedEnd (L := L) (K := K) (i := i + 1) P3.1 (hE _ (by simp) P3)
    unfold rrV at K3
    simp only at K3
    simp (maxSteps := 4000000) only [vm, vl, Arg.get, cells, stor, boundO, resultsV, resV, partK, loadV, Vm.part, fillC, splice, reduceIte, reduceCtorEq, Nat.reduceEqDiff, Nat.reduceAdd, Nat.reduceSub, Nat.reduceMul, Nat.reduceLeDiff, ne_eq, not_false_eq_true, Int.reduceEq, Int.reduceLT, Int.reduceLE, Int.reduceNeg, Int.reduceToNat, Int.reduceGT, Int.reduceGE, Nat.reduceLT, Nat.lt_add_one, Nat.zero_lt_succ, Nat.succ_pos, Nat.zero_le, beq_self_eq_true, g1, w1, w2, hts, hb1, s1, s2, d1]
    exact K3
  · have d1 : decide (((tk + 1 : Nat) : Int) > 8192) = false := decide_eq_false (by omega)
    cases bg with
    | true =>
      simp (maxSteps := 4000000) only [vm, vl, Arg.get, cells, stor, boundO, resultsV, resV, partK, loadV, Vm.part, fillC, splice, reduceIte, reduceCtorEq, Nat.reduceEqDiff, Nat.reduceAdd, Nat.reduceSub, Nat.reduceMul, Nat.reduceLeDiff, ne_eq, not_false_eq_true, Int.reduceEq, Int.reduceLT, Int.reduceLE, Int.reduceNeg, Int.reduceToNat, Int.reduceGT, Int.reduceGE, Nat.reduceLT, Nat.lt_add_one, Nat.zero_lt_succ, Nat.succ_pos, Nat.zero_le, beq_self_eq_true, g1, w1, w2, hts, hb1, s1, s2, d1, Bool.not_true]
      exact K0 _ rfl rfl rfl (fun hh => by rcases hh with hh | hh; omega; cases hh.1)
    | false =>
      by_cases c2 : own.length + 1 > 1026
      · have P3 := P ⟨tk + 1, own ++ [c], false, false, 3, q, p, fs⟩ g4
        rw [if_pos (.inr ⟨rfl, c2⟩)] at hE
        have d2 : decide (((own.length + 1 : Nat) : Int) > 1026) = true := decide_eq_true (by omega)
        have K3 := rFeedEnd (L := L) (K := K) (i := i + 1) P3.1 (hE _ (by simp) P3)
        unfold rrV at K3
        simp only at K3
        simp (maxSteps := 4000000) only [vm, vl, Arg.get, cells, stor, boundO, resultsV, resV, partK, loadV, Vm.part, fillC, splice, reduceIte, reduceCtorEq, Nat.reduceEqDiff, Nat.reduceAdd, Nat.reduceSub, Nat.reduceMul, Nat.reduceLeDiff, ne_eq, not_false_eq_true, Int.reduceEq, Int.reduceLT, Int.reduceLE, Int.reduceNeg, Int.reduceToNat, Int.reduceGT, Int.reduceGE, Nat.reduceLT, Nat.lt_add_one, Nat.zero_lt_succ, Nat.succ_pos, Nat.zero_le, beq_self_eq_true, g1, w1, w2, hts, hb1, s1, s2, d1, Bool.not_false, hln, d2]
        exact K3
      · have d2 : decide (((own.length + 1 : Nat) : Int) > 1026) = false := decide_eq_false (by omega)
        simp (maxSteps := 4000000) only [vm, vl, Arg.get, cells, stor, boundO, resultsV, resV, partK, loadV, Vm.part, fillC, splice, reduceIte, reduceCtorEq, Nat.reduceEqDiff, Nat.reduceAdd, Nat.reduceSub, Nat.reduceMul, Nat.reduceLeDiff, ne_eq, not_false_eq_true, Int.reduceEq, Int.reduceLT, Int.reduceLE, Int.reduceNeg, Int.reduceToNat, Int.reduceGT, Int.reduceGE, Nat.reduceLT, Nat.lt_add_one, Nat.zero_lt_succ, Nat.succ_pos, Nat.zero_le, beq_self_eq_true, g1, w1, w2, hts, hb1, s1, s2, d1, Bool.not_false, hln, d2]
        exact K0 _ rfl rfl rfl (fun hh => by rcases hh with hh | hh; omega; omega)
theorem rFeed_ok (HI : IndexOk L) (HC : CountOk L) {x : V} {bs : Bs} (g : RR h S kr ans st) (ho : HOk st) (hb : Bv h x (orK S kr) bs) (hl : bs.length ≤ 140737488351232) :
    Cf F L i___gatepost_gatepostref05_Reader__Feed [.ptr kr 0, x] h (FeedR h S kr ans (feedS ans bs st)) := by
  refine run___gatepost_gatepostref05_Reader__Feed ?_
  simp only [p___gatepost_gatepostref05_Reader__Feed]
  
  refine l___gatepost_gatepostref05_Reader__Feed_0 (fun n e h1 => ∃ i st', n = bs.length - i ∧ i ≤ bs.length ∧ e 0 = .ptr kr 0 ∧ e 1 = x ∧ e 7 = .int .i64 i ∧ RR h1 (growS S h.length h1.length) kr ans st' ∧ HOk st' ∧ Fr (orK S kr) h h1 ∧ feedS ans bs st = (i + (feedS ans (bs.drop i) st').1, (feedS ans (bs.drop i) st').2)) ?_ (n := bs.length) ⟨0, st, by simp, by simp, rfl, rfl, rfl, by rw [grow_self]; exact g, ho, .refl, by simp⟩
  rintro n e h1 ⟨i, st', rfl, hi, e0, e1, e7, G, O, f, hfe⟩
  simp only [b___gatepost_gatepostref05_Reader__Feed_0]
  have hb1 := hb.fr f (U := orK (growS S h.length h1.length) kr) (fun i hi hh => by
    rcases hh with (hh | hh) | hh
    · exact .inl hh
    · omega
    · exact .inr hh)
  simp only [e0, e1, e7]
  refine bv_len hb1 ?_
  have FE := fun {K : V → Heap → Prop} hk => rFeedEnd (L := L) (i := i) (K := K) G hk
  have G0 := G
  obtain ⟨vf, g1, _⟩ := G0
  unfold rrV at g1
  by_cases hi2 : i < bs.length
  case neg =>
    have c1 : decide ((i : Int) < ((bs.length : Nat) : Int)) = false := decide_eq_false (by omega)
    have hd : bs.drop i = [] := List.drop_eq_nil_of_le (by omega)
    rw [hd] at hfe
    simp (maxSteps := 4000000) only [vm, vl, Arg.get, cells, stor, boundO, resultsV, resV, partK, loadV, Vm.part, fillC, splice, reduceIte, reduceCtorEq, Nat.reduceEqDiff, Nat.reduceAdd, Nat.reduceSub, Nat.reduceMul, Nat.reduceLeDiff, ne_eq, not_false_eq_true, Int.reduceEq, Int.reduceLT, Int.reduceLE, Int.reduceNeg, Int.reduceToNat, Int.reduceGT, Int.reduceGE, Nat.reduceLT, Nat.lt_add_one, Nat.zero_lt_succ, Nat.succ_pos, Nat.zero_le, beq_self_eq_true, c1]
    refine FE ?_
    rw [hfe]
    exact ⟨rfl, G, O, f⟩
  have c1 : decide ((i : Int) < ((bs.length : Nat) : Int)) = true := decide_eq_true (by omega)
  by_cases he : st'.e = 0
  case neg =>
    have c2 : decide (st'.e = 0) = false := decide_eq_false he
    rw [feed_stop (st := st') (fun hh => he hh.1)] at hfe
    simp (maxSteps := 4000000) only [vm, vl, Arg.get, cells, stor, boundO, resultsV, resV, partK, loadV, Vm.part, fillC, splice, reduceIte, reduceCtorEq, Nat.reduceEqDiff, Nat.reduceAdd, Nat.reduceSub, Nat.reduceMul, Nat.reduceLeDiff, ne_eq, not_false_eq_true, Int.reduceEq, Int.reduceLT, Int.reduceLE, Int.reduceNeg, Int.reduceToNat, Int.reduceGT, Int.reduceGE, Nat.reduceLT, Nat.lt_add_one, Nat.zero_lt_succ, Nat.succ_pos, Nat.zero_le, beq_self_eq_true, c1, g1, c2]
    refine FE ?_
    rw [hfe]
    exact ⟨rfl, G, O, f⟩
  have c2 : decide (st'.e = 0) = true := decide_eq_true he
  cases hdn : st'.done with
  | true =>
    rw [feed_stop (st := st') (fun hh => by rw [hdn] at hh; cases hh.2)] at hfe
    simp (maxSteps := 4000000) only [vm, vl, Arg.get, cells, stor, boundO, resultsV, resV, partK, loadV, Vm.part, fillC, splice, reduceIte, reduceCtorEq, Nat.reduceEqDiff, Nat.reduceAdd, Nat.reduceSub, Nat.reduceMul, Nat.reduceLeDiff, ne_eq, not_false_eq_true, Int.reduceEq, Int.reduceLT, Int.reduceLE, Int.reduceNeg, Int.reduceToNat, Int.reduceGT, Int.reduceGE, Nat.reduceLT, Nat.lt_add_one, Nat.zero_lt_succ, Nat.succ_pos, Nat.zero_le, beq_self_eq_true, c1, g1, c2, hdn, Bool.not_true]
    refine FE ?_
    rw [hfe]
    exact ⟨rfl, G, O, f⟩
  | false =>
    rw [feed_drop hi2 ⟨he, hdn⟩] at hfe
    have O2 := takeS_ok (ans := ans) (c := bs.getD i 0) O he hdn
    have hd : feedS ans bs st = ((i + 1 : Nat) + (feedS ans (bs.drop (i + 1)) (takeS ans (bs.getD i 0) st')).1, (feedS ans (bs.drop (i + 1)) (takeS ans (bs.getD i 0) st')).2) := by
      rw [hfe]; exact Prod.ext (by simp only; omega) rfl
    have fin : ∀ h', RP h1 (growS S h.length h1.length) kr ans (takeS ans (bs.getD i 0) st') h' → RP h S kr ans (takeS ans (bs.getD i 0) st') h' := fun h' P => RP.trans (st1 := st') ⟨G, f⟩ P
    simp (maxSteps := 4000000) only [vm, vl, Arg.get, cells, stor, boundO, resultsV, resV, partK, loadV, Vm.part, fillC, splice, reduceIte, reduceCtorEq, Nat.reduceEqDiff, Nat.reduceAdd, Nat.reduceSub, Nat.reduceMul, Nat.reduceLeDiff, ne_eq, not_false_eq_true, Int.reduceEq, Int.reduceLT, Int.reduceLE, Int.reduceNeg, Int.reduceToNat, Int.reduceGT, Int.reduceGE, Nat.reduceLT, Nat.lt_add_one, Nat.zero_lt_succ, Nat.succ_pos, Nat.zero_le, beq_self_eq_true, c1, g1, c2, hdn, Bool.not_false]
    refine rTake_ok HI HC G O he hdn hb1 hi2 hl (fun h' hE P => ?_) fun e' h' q0 q1 q7 P => ?_
    · rw [feed_stop (fun hh => hE hh.1)] at hd
      rw [hd]
      exact ⟨rfl, (fin h' P).1, O2, (fin h' P).2⟩
    · exact ⟨bs.length - (i + 1), by omega, i + 1, _, rfl, hi2, q0.trans e0, q1.trans e1, q7, (fin h' P).1, O2, (fin h' P).2, hd⟩
end Go.Proofs.YtnfcjeajbjcppaaDoor.Vh
end
section
set_option linter.unusedVariables false
set_option linter.unusedSimpArgs false
namespace Go.Proofs.YtnfcjeajbjcppaaDoor.Vh
open Go.Vm Go.Vt
attribute [local congr] wi_congr wg_congr wgd_congr wb_congr wl_congr cf_congr
variable {L : FuncId → List V → V → Prop} {h : Heap} {kr : Nat} {S : Nat → Prop} {ans : Bool} {st : HS}
/-- What the document's reader tells: parts and a list that is read alone. -/
def TellR (h : Heap) (c : Bool) (a b d z1 z2 z3 : V) (fs : List Fld) (v : V) (h' : Heap) : Prop :=
  (∃ t, h' = h ++ t) ∧ ((c = true ∧ ∃ o, v = .tup [.agg [a, b, d, .sl 2 o (flds fs)], .int .i64 0]) ∨ (c = false ∧ v = .tup [.agg [z1, z2, z3, .nsl], .int .i64 16]))
theorem app_copy {v : V} {fs : List Fld} (g : FlsV h v S fs) (hl : fs.length ≤ 100) : ∃ o t, appV h 2 32 false (.sl 2 .full []) v = some (.sl 2 o (flds fs), h ++ t) := by
  rcases g with ⟨rfl, rfl⟩ | ⟨k, rfl, h2, _⟩
  · exact ⟨.full, [], by simp [appV, srcElems, flds]⟩
  · by_cases h0 : fs = []
    · subst h0
      exact ⟨.full, [], by simp [appV, srcElems, flds]⟩
    · have r : room ((flds fs).length) 32 = true := by simp [room, flds_len]; omega
      have e0 : (flds fs).isEmpty = false := by cases fs; exact absurd rfl h0; rfl
      refine ⟨.tip h.length, [.tip (flat (flds fs)).length], ?_⟩
      simp only [appV, srcElems, if_true, Option.bind_some, e0, List.length_nil, Nat.zero_add, r, List.nil_append, Bool.false_eq_true, if_false, newRowV]
theorem rReq_ok (g : RR h S kr ans st) (ho : HOk st) : Cf F L i___gatepost_gatepostref05_Reader__Request [.ptr kr 0] h (TellR h (st.done && (ans == false)) st.q.1 st.q.2.1 st.q.2.2 (.str []) (.str []) (.int .i64 0) st.fs) := by
  refine run___gatepost_gatepostref05_Reader__Request ?_
  simp only [p___gatepost_gatepostref05_Reader__Request]
  
  obtain ⟨vf, g1, g4, g5, g8⟩ := g
  have hfs := ho.fs
  have hde : st.done = true → st.e = 0 := ho.dn
  unfold rrV at g1
  have g1b := fun t => get_old (t := t) g1
  have z1 : ∀ b1 t, (h ++ b1 :: t)[h.length]? = some b1 := fun b1 t => by rw [List.getElem?_append_right (Nat.le_refl _), Nat.sub_self]; rfl
  have z2 : ∀ b1 b2 t, (h ++ b1 :: b2 :: t)[h.length + 1]? = some b2 := fun b1 b2 t => by rw [List.getElem?_append_right (by omega), Nat.add_sub_cancel_left]; rfl
  have y1 : ∀ b1 t x, (h ++ b1 :: t).set h.length x = h ++ x :: t := fun b1 t x => by rw [List.set_append_right _ _ (Nat.le_refl _), Nat.sub_self]; rfl
  have y2 : ∀ b1 b2 t x, (h ++ b1 :: b2 :: t).set (h.length + 1) x = h ++ b1 :: x :: t := fun b1 b2 t x => by rw [List.set_append_right _ _ (by omega), Nat.add_sub_cancel_left]; rfl
  cases hd : st.done with
  | false =>
    rw [hd] at g1b
    simp (maxSteps := 4000000) only [vm, vl, Arg.get, cells, stor, boundO, resultsV, resV, partK, loadV, Vm.part, fillC, splice, reduceIte, reduceCtorEq, Nat.reduceEqDiff, Nat.reduceAdd, Nat.reduceSub, Nat.reduceMul, Nat.reduceLeDiff, ne_eq, not_false_eq_true, Int.reduceEq, Int.reduceLT, Int.reduceLE, Int.reduceNeg, Int.reduceToNat, Int.reduceGT, Int.reduceGE, Nat.reduceLT, Nat.lt_add_one, Nat.zero_lt_succ, Nat.succ_pos, Nat.zero_le, beq_self_eq_true, g1b]
    exact ⟨⟨_, rfl⟩, .inr ⟨rfl, rfl⟩⟩
  | true =>
    rw [hd, hde hd] at g1b
    cases ans with
    | true =>
      simp (maxSteps := 4000000) only [vm, vl, Arg.get, cells, stor, boundO, resultsV, resV, partK, loadV, Vm.part, fillC, splice, reduceIte, reduceCtorEq, Nat.reduceEqDiff, Nat.reduceAdd, Nat.reduceSub, Nat.reduceMul, Nat.reduceLeDiff, ne_eq, not_false_eq_true, Int.reduceEq, Int.reduceLT, Int.reduceLE, Int.reduceNeg, Int.reduceToNat, Int.reduceGT, Int.reduceGE, Nat.reduceLT, Nat.lt_add_one, Nat.zero_lt_succ, Nat.succ_pos, Nat.zero_le, beq_self_eq_true, g1b]
      exact ⟨⟨_, rfl⟩, .inr ⟨rfl, rfl⟩⟩
    | false =>
      obtain ⟨o, t, ha⟩ := app_copy (h := h ++ [.box [.str [], .str [], .int .i64 0, .nsl], .box [st.q.1, st.q.2.1, st.q.2.2, .nsl]]) (v := vf) (g4.mono (T := S) (fun i hh => hh) (fun i n hx _ => get_old hx)) (by omega)
      rw [List.append_assoc] at ha
      simp only [List.cons_append, List.nil_append] at ha
      simp (maxSteps := 4000000) only [vm, vl, Arg.get, cells, stor, boundO, resultsV, resV, partK, loadV, Vm.part, fillC, splice, reduceIte, reduceCtorEq, Nat.reduceEqDiff, Nat.reduceAdd, Nat.reduceSub, Nat.reduceMul, Nat.reduceLeDiff, ne_eq, not_false_eq_true, Int.reduceEq, Int.reduceLT, Int.reduceLE, Int.reduceNeg, Int.reduceToNat, Int.reduceGT, Int.reduceGE, Nat.reduceLT, Nat.lt_add_one, Nat.zero_lt_succ, Nat.succ_pos, Nat.zero_le, beq_self_eq_true, g1b, ha, z1, z2, y1, y2, k___gatepost_gatepostref05_Reader__Request_0]
      exact ⟨⟨_, rfl⟩, .inl ⟨rfl, o, rfl⟩⟩
theorem rRes_ok (g : RR h S kr ans st) (ho : HOk st) : Cf F L i___gatepost_gatepostref05_Reader__Response [.ptr kr 0] h (TellR h (st.done && (ans == true)) st.p.1 st.p.2.1 st.p.2.2 (.int .i64 0) (.int .i64 0) (.str []) st.fs) := by
  refine run___gatepost_gatepostref05_Reader__Response ?_
  simp only [p___gatepost_gatepostref05_Reader__Response]
  
  obtain ⟨vf, g1, g4, g5, g8⟩ := g
  have hfs := ho.fs
  have hde : st.done = true → st.e = 0 := ho.dn
  unfold rrV at g1
  have g1b := fun t => get_old (t := t) g1
  have z1 : ∀ b1 t, (h ++ b1 :: t)[h.length]? = some b1 := fun b1 t => by rw [List.getElem?_append_right (Nat.le_refl _), Nat.sub_self]; rfl
  have z2 : ∀ b1 b2 t, (h ++ b1 :: b2 :: t)[h.length + 1]? = some b2 := fun b1 b2 t => by rw [List.getElem?_append_right (by omega), Nat.add_sub_cancel_left]; rfl
  have y1 : ∀ b1 t x, (h ++ b1 :: t).set h.length x = h ++ x :: t := fun b1 t x => by rw [List.set_append_right _ _ (Nat.le_refl _), Nat.sub_self]; rfl
  have y2 : ∀ b1 b2 t x, (h ++ b1 :: b2 :: t).set (h.length + 1) x = h ++ b1 :: x :: t := fun b1 b2 t x => by rw [List.set_append_right _ _ (by omega), Nat.add_sub_cancel_left]; rfl
  cases hd : st.done with
  | false =>
    rw [hd] at g1b
    simp (maxSteps := 4000000) only [vm, vl, Arg.get, cells, stor, boundO, resultsV, resV, partK, loadV, Vm.part, fillC, splice, reduceIte, reduceCtorEq, Nat.reduceEqDiff, Nat.reduceAdd, Nat.reduceSub, Nat.reduceMul, Nat.reduceLeDiff, ne_eq, not_false_eq_true, Int.reduceEq, Int.reduceLT, Int.reduceLE, Int.reduceNeg, Int.reduceToNat, Int.reduceGT, Int.reduceGE, Nat.reduceLT, Nat.lt_add_one, Nat.zero_lt_succ, Nat.succ_pos, Nat.zero_le, beq_self_eq_true, g1b]
    exact ⟨⟨_, rfl⟩, .inr ⟨rfl, rfl⟩⟩
  | true =>
    rw [hd, hde hd] at g1b
    cases ans with
    | false =>
      simp (maxSteps := 4000000) only [vm, vl, Arg.get, cells, stor, boundO, resultsV, resV, partK, loadV, Vm.part, fillC, splice, reduceIte, reduceCtorEq, Nat.reduceEqDiff, Nat.reduceAdd, Nat.reduceSub, Nat.reduceMul, Nat.reduceLeDiff, ne_eq, not_false_eq_true, Int.reduceEq, Int.reduceLT, Int.reduceLE, Int.reduceNeg, Int.reduceToNat, Int.reduceGT, Int.reduceGE, Nat.reduceLT, Nat.lt_add_one, Nat.zero_lt_succ, Nat.succ_pos, Nat.zero_le, beq_self_eq_true, g1b]
      exact ⟨⟨_, rfl⟩, .inr ⟨rfl, rfl⟩⟩
    | true =>
      obtain ⟨o, t, ha⟩ := app_copy (h := h ++ [.box [.int .i64 0, .int .i64 0, .str [], .nsl], .box [st.p.1, st.p.2.1, st.p.2.2, .nsl]]) (v := vf) (g4.mono (T := S) (fun i hh => hh) (fun i n hx _ => get_old hx)) (by omega)
      rw [List.append_assoc] at ha
      simp only [List.cons_append, List.nil_append] at ha
      simp (maxSteps := 4000000) only [vm, vl, Arg.get, cells, stor, boundO, resultsV, resV, partK, loadV, Vm.part, fillC, splice, reduceIte, reduceCtorEq, Nat.reduceEqDiff, Nat.reduceAdd, Nat.reduceSub, Nat.reduceMul, Nat.reduceLeDiff, ne_eq, not_false_eq_true, Int.reduceEq, Int.reduceLT, Int.reduceLE, Int.reduceNeg, Int.reduceToNat, Int.reduceGT, Int.reduceGE, Nat.reduceLT, Nat.lt_add_one, Nat.zero_lt_succ, Nat.succ_pos, Nat.zero_le, beq_self_eq_true, g1b, ha, z1, z2, y1, y2, k___gatepost_gatepostref05_Reader__Response_0]
      exact ⟨⟨_, rfl⟩, .inl ⟨rfl, o, rfl⟩⟩
theorem mSame_ok {k1 : Nat} {o : Own} {l : List Fld} (hl : l.length < 1000000) (g1 : h[k1]? = some (.box (flat (flds l)))) :
    Cf F L i_gatepostref04_Same [.hsl 2 k1 l.length, .sl 2 o (flds l)] h (Pu h (.bool true)) := by
  refine run_gatepostref04_Same ?_
  simp only [p_gatepostref04_Same]
  
  have hf := flat_flds l
  have gt := fun i (hi : i < l.length) => get_two (l := l) hi
  have hfl := flds_len l
  have gg := fun i (hi : i < l.length) => show (flds l).getD i (.tup []) = fldV (l.getD i ([], [])) by
    rw [flds, List.getD_eq_getElem?_getD, List.getElem?_map, List.getElem?_eq_getElem hi, List.getD_eq_getElem?_getD, List.getElem?_eq_getElem hi]; rfl
  generalize hFL : flds l = FL at *
  generalize flat FL = FS at *
  simp (maxSteps := 4000000) only [vm, vl, Arg.get, cells, stor, boundO, resultsV, resV, partK, loadV, Vm.part, fillC, splice, reduceIte, reduceCtorEq, Nat.reduceEqDiff, Nat.reduceAdd, Nat.reduceSub, Nat.reduceMul, Nat.reduceLeDiff, ne_eq, not_false_eq_true, Int.reduceEq, Int.reduceLT, Int.reduceLE, Int.reduceNeg, Int.reduceToNat, Int.reduceGT, Int.reduceGE, Nat.reduceLT, Nat.lt_add_one, Nat.zero_lt_succ, Nat.succ_pos, Nat.zero_le, beq_self_eq_true, hfl]
  refine l_gatepostref04_Same_0 (fun n e h' => ∃ i, n = l.length - i ∧ i ≤ l.length ∧ e 0 = .hsl 2 k1 l.length ∧ e 1 = .sl 2 o FL ∧ e 5 = .int .i64 i ∧ h' = h) ?_ (n := l.length) ⟨0, by simp, by simp, rfl, rfl, rfl, rfl⟩
  rintro n e h' ⟨i, rfl, hi, e0, e1, e5, rfl⟩
  simp only [b_gatepostref04_Same_0]
  by_cases hi2 : i < l.length
  · have w := wrap64 (x := (i : Int) + 1) (by omega) (by omega)
    have c1 : decide (((i : Nat) : Int) < ((l.length : Nat) : Int)) = true := decide_eq_true (by omega)
    have z1 : (0 : Int) ≤ (i : Int) := by omega
    obtain ⟨a1, a2⟩ := gt i hi2
    have a3 := gg i hi2
    have m1 : i * 2 + 1 ≤ FS.length := by omega
    have m2 : i * 2 + 1 + 1 ≤ FS.length := by omega
    have b1 : ((l.getD i ([], [])).1 == (l.getD i ([], [])).1) = true := by simp
    have b2 : ((l.getD i ([], [])).2 == (l.getD i ([], [])).2) = true := by simp
    unfold fldV at a3
    generalize (l.getD i ([], [])).1 = s1 at *
    generalize (l.getD i ([], [])).2 = s2 at *
    simp (maxSteps := 4000000) only [vm, vl, Arg.get, cells, stor, boundO, resultsV, resV, partK, loadV, Vm.part, fillC, splice, reduceIte, reduceCtorEq, Nat.reduceEqDiff, Nat.reduceAdd, Nat.reduceSub, Nat.reduceMul, Nat.reduceLeDiff, ne_eq, not_false_eq_true, Int.reduceEq, Int.reduceLT, Int.reduceLE, Int.reduceNeg, Int.reduceToNat, Int.reduceGT, Int.reduceGE, Nat.reduceLT, Nat.lt_add_one, Nat.zero_lt_succ, Nat.succ_pos, Nat.zero_le, beq_self_eq_true, e0, e1, e5, c1, z1, hi2, hfl, Int.toNat_natCast, g1, m1, m2, a1, a2, a3, b1, b2, w, Bool.not_true, k_gatepostref04_Same_2, k_gatepostref04_Same_3]
    exact ⟨l.length - (i + 1), by omega, i + 1, rfl, hi2, rfl⟩
  · have c1 : decide (((i : Nat) : Int) < ((l.length : Nat) : Int)) = false := decide_eq_false (by omega)
    simp (maxSteps := 4000000) only [vm, vl, Arg.get, cells, stor, boundO, resultsV, resV, partK, loadV, Vm.part, fillC, splice, reduceIte, reduceCtorEq, Nat.reduceEqDiff, Nat.reduceAdd, Nat.reduceSub, Nat.reduceMul, Nat.reduceLeDiff, ne_eq, not_false_eq_true, Int.reduceEq, Int.reduceLT, Int.reduceLE, Int.reduceNeg, Int.reduceToNat, Int.reduceGT, Int.reduceGE, Nat.reduceLT, Nat.lt_add_one, Nat.zero_lt_succ, Nat.succ_pos, Nat.zero_le, beq_self_eq_true, e0, e1, e5, c1, hfl, k_gatepostref04_Same_1]
end Go.Proofs.YtnfcjeajbjcppaaDoor.Vh
end
section
set_option linter.unusedVariables false
set_option linter.unusedSimpArgs false
namespace Go.Proofs.YtnfcjeajbjcppaaDoor.Vh
open Go.Vm Go.Vt
attribute [local congr] wi_congr wg_congr wgd_congr wb_congr wl_congr cf_congr
variable {L : FuncId → List V → V → Prop} {h : Heap} {kr kc : Nat} {S : Nat → Prop} {ans : Bool} {st : HS}
def LstP (H : Heap) (x y : V) (l : List Fld) : Prop :=
  (∃ k1 k2, x = .hsl 2 k1 l.length ∧ y = .hsl 2 k2 l.length ∧ H[k1]? = some (.box (flat (flds l))) ∧ H[k2]? = some (.box (flat (flds l)))) ∨ (x = .nsl ∧ y = .nsl)
theorem LstP.same {H : Heap} {x y : V} {l : List Fld} (g : LstP H x y l) (hl : l.length < 1000000) : ∀ t, Cf F L i_gatepostref04_Same [x, y] (H ++ t) (Pu (H ++ t) (.bool true)) := by
  intro t
  rcases g with ⟨k1, k2, rfl, rfl, h1, h2⟩ | ⟨rfl, rfl⟩
  · exact hSame_ok hl (get_old h1) (get_old h2)
  · have := fSame_ok (L := L) (h := H ++ t) (x := .nsl) (y := .nsl) (l := []) (m := []) (.inl ⟨rfl, rfl⟩) (.inl ⟨rfl, rfl⟩) (by simp) (by simp)
    exact this
theorem LstP.old {H H' : Heap} {x y : V} {l : List Fld} (g : LstP H x y l) (f : ∀ (i : Nat) (cs : List V), H[i]? = some (.box cs) → H'[i]? = some (.box cs)) : LstP H' x y l := by
  rcases g with ⟨k1, k2, h1, h2, h3, h4⟩ | g
  · exact .inl ⟨k1, k2, h1, h2, f _ _ h3, f _ _ h4⟩
  · exact .inr g
def One (h' : Heap) (c : Bool) (x : V) (l : List Fld) : Prop := (c = true ∧ ∃ k, x = .hsl 2 k l.length ∧ h'[k]? = some (.box (flat (flds l)))) ∨ (c = false ∧ x = .nsl)
theorem One.two {H : Heap} {c : Bool} {x y : V} {l : List Fld} (g1 : One H c x l) (g2 : One H c y l) : LstP H x y l := by
  rcases g1 with ⟨h1, k1, h2, h3⟩ | ⟨h1, h2⟩ <;> rcases g2 with ⟨h4, k2, h5, h6⟩ | ⟨h4, h5⟩
  · exact .inl ⟨k1, k2, h2, h5, h3, h6⟩
  · rw [h1] at h4; cases h4
  · rw [h1] at h4; cases h4
  · exact .inr ⟨h2, h5⟩
theorem One.old {H H' : Heap} {c : Bool} {x : V} {l : List Fld} (g : One H c x l) (f : ∀ (i : Nat) (cs : List V), H[i]? = some (.box cs) → H'[i]? = some (.box cs)) : One H' c x l := by
  rcases g with ⟨h1, k, h2, h3⟩ | g
  · exact .inl ⟨h1, k, h2, f _ _ h3⟩
  · exact .inr g
theorem req_told {c : Bool} {a b : Bs} {m : Int} {fs : List Fld} {v : V} {h' : Heap} (g : TellP h c (.str a) (.str b) (.int .i64 m) (.str []) (.str []) (.int .i64 0) fs v h') :
    (∃ t, h' = h ++ t) ∧ ∃ x, v = .tup [.agg [.str (if c then a else []), .str (if c then b else []), .int .i64 (if c then m else 0), x], .int .i64 (if c then 0 else 16)] ∧ One h' c x fs := by
  obtain ⟨h1, ⟨hc, k, hv, hk⟩ | ⟨hc, hv⟩⟩ := g
  · subst hc; exact ⟨h1, _, hv, .inl ⟨rfl, k, rfl, hk⟩⟩
  · subst hc; exact ⟨h1, _, hv, .inr ⟨rfl, rfl⟩⟩
theorem res_told {c : Bool} {a b : Int} {m : Bs} {fs : List Fld} {v : V} {h' : Heap} (g : TellP h c (.int .i64 a) (.int .i64 b) (.str m) (.int .i64 0) (.int .i64 0) (.str []) fs v h') :
    (∃ t, h' = h ++ t) ∧ ∃ x, v = .tup [.agg [.int .i64 (if c then a else 0), .int .i64 (if c then b else 0), .str (if c then m else []), x], .int .i64 (if c then 0 else 16)] ∧ One h' c x fs := by
  obtain ⟨h1, ⟨hc, k, hv, hk⟩ | ⟨hc, hv⟩⟩ := g
  · subst hc; exact ⟨h1, _, hv, .inl ⟨rfl, k, rfl, hk⟩⟩
  · subst hc; exact ⟨h1, _, hv, .inr ⟨rfl, rfl⟩⟩
theorem at_end {X : O} : (h ++ [X])[h.length]? = some X := by rw [List.getElem?_append_right (Nat.le_refl _), Nat.sub_self]; rfl
theorem bytes_par {x : V} (v : VPar [.sl [.i .u8]] x) : ∃ bs : Bs, (x = .nsl ∧ bs = []) ∨ x = .sl 1 .no (bs.map ofByte) := by
  rcases v with rfl | ⟨es, rfl, hz, hes⟩
  · exact ⟨[], .inl ⟨rfl, rfl⟩⟩
  · clear hz
    suffices hk : ∃ bs : Bs, es = bs.map ofByte by
      obtain ⟨bs, rfl⟩ := hk
      exact ⟨bs, .inr rfl⟩
    induction es with
    | nil => exact ⟨[], rfl⟩
    | cons e es ih =>
      obtain ⟨bs, rfl⟩ := ih fun e he => hes e (List.mem_cons_of_mem _ he)
      obtain ⟨h1, h2, _⟩ := hes e List.mem_cons_self
      rw [h2 rfl] at h1
      obtain ⟨⟨n, rfl, hn⟩, _⟩ := h1
      simp [Lit.wf, IntKind.min, IntKind.max, IntKind.signed, IntKind.bits] at hn
      refine ⟨UInt8.ofNat n.toNat :: bs, ?_⟩
      have : ((UInt8.ofNat n.toNat).toNat : Int) = n := by
        rw [UInt8.toNat_ofNat']; omega
      simp only [List.map_cons, ofByte, this]
theorem ints_par {x : V} (v : VPar [.sl [.i .i64]] x) : ∃ m, Ints x m ∧ m ≤ 140737488351232 := by
  rcases v with rfl | ⟨es, rfl, hm, hes⟩
  · exact ⟨0, .inl ⟨rfl, rfl⟩, by omega⟩
  · refine ⟨es.length, .inr ⟨es, _, rfl, rfl, fun e he => ?_⟩, hm⟩
    obtain ⟨h1, h2, _⟩ := hes e he
    rw [h2 rfl] at h1
    obtain ⟨⟨n, rfl, hn⟩, _⟩ := h1
    exact ⟨n, rfl⟩
end Go.Proofs.YtnfcjeajbjcppaaDoor.Vh
end
section
set_option linter.unusedVariables false
set_option linter.unusedSimpArgs false
namespace Go.Proofs.YtnfcjeajbjcppaaDoor.Vh
open Go.Vm Go.Vt
attribute [local congr] wi_congr wg_congr wgd_congr wb_congr wl_congr cf_congr
variable {L : FuncId → List V → V → Prop} {h : Heap} {kr kc : Nat} {S : Nat → Prop} {ans : Bool} {st : HS}
def OneR (c : Bool) (x : V) (l : List Fld) : Prop := (c = true ∧ ∃ o, x = .sl 2 o (flds l)) ∨ (c = false ∧ x = .nsl)
theorem one_same {H : Heap} {c : Bool} {x y : V} {l : List Fld} (hl : l.length < 1000000) (g1 : One H c x l) (g2 : OneR c y l) : ∀ t, Cf F L i_gatepostref04_Same [x, y] (H ++ t) (Pu (H ++ t) (.bool true)) := by
  intro t
  rcases g1 with ⟨h1, k1, h2, h3⟩ | ⟨h1, h2⟩ <;> rcases g2 with ⟨h4, o, h5⟩ | ⟨h4, h5⟩
  · rw [h2, h5]; exact mSame_ok hl (get_old h3)
  · rw [h1] at h4; cases h4
  · rw [h1] at h4; cases h4
  · rw [h2, h5]
    exact fSame_ok (L := L) (h := H ++ t) (x := .nsl) (y := .nsl) (l := []) (m := []) (.inl ⟨rfl, rfl⟩) (.inl ⟨rfl, rfl⟩) (by simp) (by simp)
theorem rreq_told {c : Bool} {a b : Bs} {m : Int} {fs : List Fld} {v : V} {h' : Heap} (g : TellR h c (.str a) (.str b) (.int .i64 m) (.str []) (.str []) (.int .i64 0) fs v h') :
    (∃ t, h' = h ++ t) ∧ ∃ x, v = .tup [.agg [.str (if c then a else []), .str (if c then b else []), .int .i64 (if c then m else 0), x], .int .i64 (if c then 0 else 16)] ∧ OneR c x fs := by
  obtain ⟨h1, ⟨hc, o, hv⟩ | ⟨hc, hv⟩⟩ := g
  · subst hc; exact ⟨h1, _, hv, .inl ⟨rfl, o, rfl⟩⟩
  · subst hc; exact ⟨h1, _, hv, .inr ⟨rfl, rfl⟩⟩
theorem rres_told {c : Bool} {a b : Int} {m : Bs} {fs : List Fld} {v : V} {h' : Heap} (g : TellR h c (.int .i64 a) (.int .i64 b) (.str m) (.int .i64 0) (.int .i64 0) (.str []) fs v h') :
    (∃ t, h' = h ++ t) ∧ ∃ x, v = .tup [.agg [.int .i64 (if c then a else 0), .int .i64 (if c then b else 0), .str (if c then m else []), x], .int .i64 (if c then 0 else 16)] ∧ OneR c x fs := by
  obtain ⟨h1, ⟨hc, o, hv⟩ | ⟨hc, hv⟩⟩ := g
  · subst hc; exact ⟨h1, _, hv, .inl ⟨rfl, o, rfl⟩⟩
  · subst hc; exact ⟨h1, _, hv, .inr ⟨rfl, rfl⟩⟩
theorem RR.more {t : Heap} (g : RR h S kr ans st) : RR (h ++ t) S kr ans st := by
  obtain ⟨vf, g1, g4, g5, g8⟩ := g
  exact ⟨vf, get_old g1, g4.mono (fun i hh => hh) (fun i n hx _ => get_old hx), g5, fun i hh => by have := g8 i hh; simp; omega⟩
theorem RR.fr {T : Nat → Prop} {h' : Heap} (g : RR h S kr ans st) (f : Fr T h h') (h1 : ¬ T kr) (h2 : ∀ i, S i → ¬ T i) : RR h' S kr ans st := by
  obtain ⟨vf, g1, g4, g5, g8⟩ := g
  exact ⟨vf, f.2 _ _ g1 h1, g4.mono (fun i hh => hh) (fun i n hx hs => f.2 _ _ hx (h2 i hs)), g5, fun i hh => by have := g8 i hh; have := f.1; omega⟩
theorem RR.lt (g : RR h S kr ans st) : kr < h.length := by obtain ⟨vf, g1, _⟩ := g; exact lt_of_get g1
theorem Reads5_ok {H : Heap} {e1 e2 : Int} {k18 k20 k22 : Nat} {a b r : Bs} {m c q : Int} {x1 x2 y1 y2 : V} 
    (g18 : H[k18]? = some (.box [.str a, .str b, .int .i64 m, x1])) (g20 : H[k20]? = some (.box [.str a, .str b, .int .i64 m, x2])) (g22 : H[k22]? = some (.box [.int .i64 c, .int .i64 q, .str r, y1]))
    (S1 : ∀ t, Cf F L i_gatepostref04_Same [x1, x2] (H ++ t) (Pu (H ++ t) (.bool true))) (S2 : ∀ t, Cf F L i_gatepostref04_Same [y1, y2] (H ++ t) (Pu (H ++ t) (.bool true))) :
    k_gatepostlaw05_HeadReads_5 L (fun v _ => v = .bool true) (.ptr k18 0) (.ptr k20 0) (.ptr k22 0) (.int .i64 e1) (.int .i64 e1) (.int .i64 e2) (.tup [.agg [.int .i64 c, .int .i64 q, .str r, y2], .int .i64 e2]) H := by
  
  unfold k_gatepostlaw05_HeadReads_5
  have g18' := fun t => get_old (t := t) g18
  have g20' := fun t => get_old (t := t) g20
  have g22' := fun t => get_old (t := t) g22
  have g24 := at_end (h := H) (X := .box [.int .i64 c, .int .i64 q, .str r, y2])
  simp (maxSteps := 4000000) only [vm, vl, Arg.get, cells, stor, boundO, resultsV, resV, partK, loadV, Vm.part, fillC, splice, reduceIte, reduceCtorEq, Nat.reduceEqDiff, Nat.reduceAdd, Nat.reduceSub, Nat.reduceMul, Nat.reduceLeDiff, ne_eq, not_false_eq_true, Int.reduceEq, Int.reduceLT, Int.reduceLE, Int.reduceNeg, Int.reduceToNat, Int.reduceGT, Int.reduceGE, Nat.reduceLT, Nat.lt_add_one, Nat.zero_lt_succ, Nat.succ_pos, Nat.zero_le, beq_self_eq_true, decide_true, g18', g20']
  refine Cf.pu (SameReq_ok (fun t => by rw [List.append_assoc]; exact S1 _)) fun u => ?_
  unfold k_gatepostlaw05_HeadReads_4
  have w22 := get_old (t := u) (g22' [.box [.int .i64 c, .int .i64 q, .str r, y2]])
  have w24 := get_old (t := u) g24
  have S3 : ∀ t, Cf F L i_gatepostref04_Same [y1, y2] (H ++ [O.box [.int .i64 c, .int .i64 q, .str r, y2]] ++ u ++ t) (Pu (H ++ [O.box [.int .i64 c, .int .i64 q, .str r, y2]] ++ u ++ t) (.bool true)) := fun t => by rw [List.append_assoc, List.append_assoc]; exact S2 _
  generalize H ++ [O.box [.int .i64 c, .int .i64 q, .str r, y2]] ++ u = H5 at *
  simp (maxSteps := 4000000) only [vm, vl, Arg.get, cells, stor, boundO, resultsV, resV, partK, loadV, Vm.part, fillC, splice, reduceIte, reduceCtorEq, Nat.reduceEqDiff, Nat.reduceAdd, Nat.reduceSub, Nat.reduceMul, Nat.reduceLeDiff, ne_eq, not_false_eq_true, Int.reduceEq, Int.reduceLT, Int.reduceLE, Int.reduceNeg, Int.reduceToNat, Int.reduceGT, Int.reduceGE, Nat.reduceLT, Nat.lt_add_one, Nat.zero_lt_succ, Nat.succ_pos, Nat.zero_le, beq_self_eq_true, decide_true, w22, w24]
  refine Cf.pu (SameRes_ok S3) fun u2 => ?_
  unfold k_gatepostlaw05_HeadReads_3
  simp (maxSteps := 4000000) only [vm, vl, Arg.get, cells, stor, boundO, resultsV, resV, partK, loadV, Vm.part, fillC, splice, reduceIte, reduceCtorEq, Nat.reduceEqDiff, Nat.reduceAdd, Nat.reduceSub, Nat.reduceMul, Nat.reduceLeDiff, ne_eq, not_false_eq_true, Int.reduceEq, Int.reduceLT, Int.reduceLE, Int.reduceNeg, Int.reduceToNat, Int.reduceGT, Int.reduceGE, Nat.reduceLT, Nat.lt_add_one, Nat.zero_lt_succ, Nat.succ_pos, Nat.zero_le, beq_self_eq_true, decide_true]
theorem Reads2_ok {H : Heap} {kx kxc ky : Nat} {Sx Sy : Nat → Prop} (gx : RD H Sx kx kxc ans st) (gy : RR H Sy ky ans st) (ho : HOk st) (ht : HTy st) :
    k_gatepostlaw05_HeadReads_2 L (fun v _ => v = .bool true) (.ptr kx 0) (.ptr ky 0) H := by
  
  unfold k_gatepostlaw05_HeadReads_2
  obtain ⟨⟨a, b, m, hq⟩, ⟨c, q, r, hp⟩⟩ := ht
  have hfs := ho.fs
  have Rq := Request_ok (L := L) gx hfs
  have Rp := fun {h' : Heap} {S' : Nat → Prop} {k kc' : Nat} (g : RD h' S' k kc' ans st) => Response_ok (L := L) g hfs
  have rRq := fun {h' : Heap} {S' : Nat → Prop} {k : Nat} (g : RR h' S' k ans st) => rReq_ok (L := L) g ho
  have rRp := fun {h' : Heap} {S' : Nat → Prop} {k : Nat} (g : RR h' S' k ans st) => rRes_ok (L := L) g ho
  simp only [hq, hp] at Rq Rp rRq rRp
  simp (maxSteps := 4000000) only [vm, vl, Arg.get, cells, stor, boundO, resultsV, resV, partK, loadV, Vm.part, fillC, splice, reduceIte, reduceCtorEq, Nat.reduceEqDiff, Nat.reduceAdd, Nat.reduceSub, Nat.reduceMul, Nat.reduceLeDiff, ne_eq, not_false_eq_true, Int.reduceEq, Int.reduceLT, Int.reduceLE, Int.reduceNeg, Int.reduceToNat, Int.reduceGT, Int.reduceGE, Nat.reduceLT, Nat.lt_add_one, Nat.zero_lt_succ, Nat.succ_pos, Nat.zero_le, beq_self_eq_true]
  refine Rq.mono fun v h1 hv => ?_
  obtain ⟨⟨t1, rfl⟩, x1, rfl, O1⟩ := req_told hv
  unfold k_gatepostlaw05_HeadReads_7
  have gx1 := gx.more (t := t1)
  have gy1 := gy.more (t := t1)
  generalize H ++ t1 = H1 at *
  generalize (st.done && (ans == false)) = cq at *
  generalize (st.done && (ans == true)) = cp at *
  generalize hA : (if cq then a else []) = A at *
  generalize hB : (if cq then b else []) = B at *
  generalize hM : (if cq then m else 0) = M at *
  generalize hE : (if cq then (0 : Int) else 16) = E at *
  simp (maxSteps := 4000000) only [vm, vl, Arg.get, cells, stor, boundO, resultsV, resV, partK, loadV, Vm.part, fillC, splice, reduceIte, reduceCtorEq, Nat.reduceEqDiff, Nat.reduceAdd, Nat.reduceSub, Nat.reduceMul, Nat.reduceLeDiff, ne_eq, not_false_eq_true, Int.reduceEq, Int.reduceLT, Int.reduceLE, Int.reduceNeg, Int.reduceToNat, Int.reduceGT, Int.reduceGE, Nat.reduceLT, Nat.lt_add_one, Nat.zero_lt_succ, Nat.succ_pos, Nat.zero_le, beq_self_eq_true]
  refine (rRq gy1.more).mono fun v h2 hv => ?_
  obtain ⟨⟨t2, rfl⟩, x2, rfl, O2⟩ := rreq_told hv
  rw [hA, hB, hM, hE]
  have g18 := get_old (t := t2) (at_end (h := H1) (X := .box [.str A, .str B, .int .i64 M, x1]))
  have O1b := O1.old (H' := H1 ++ [.box [.str A, .str B, .int .i64 M, x1]] ++ t2) (fun i cs hx => get_old (get_old hx))
  have gx2 := gx1.more (t := [.box [.str A, .str B, .int .i64 M, x1]]).more (t := t2)
  have gy2 := gy1.more (t := [.box [.str A, .str B, .int .i64 M, x1]]).more (t := t2)
  generalize H1 ++ [O.box [.str A, .str B, .int .i64 M, x1]] ++ t2 = H2 at *
  simp (maxSteps := 4000000) only [vm, vl, Arg.get, cells, stor, boundO, resultsV, resV, partK, loadV, Vm.part, fillC, splice, reduceIte, reduceCtorEq, Nat.reduceEqDiff, Nat.reduceAdd, Nat.reduceSub, Nat.reduceMul, Nat.reduceLeDiff, ne_eq, not_false_eq_true, Int.reduceEq, Int.reduceLT, Int.reduceLE, Int.reduceNeg, Int.reduceToNat, Int.reduceGT, Int.reduceGE, Nat.reduceLT, Nat.lt_add_one, Nat.zero_lt_succ, Nat.succ_pos, Nat.zero_le, beq_self_eq_true]
  refine (Rp gx2.more).mono fun v h3 hv => ?_
  obtain ⟨⟨t3, rfl⟩, y1, rfl, P1⟩ := res_told hv
  unfold k_gatepostlaw05_HeadReads_6
  have g18' := get_old (t := t3) (get_old (t := [.box [.str A, .str B, .int .i64 M, x2]]) g18)
  have g20 := get_old (t := t3) (at_end (h := H2) (X := .box [.str A, .str B, .int .i64 M, x2]))
  have O1c := O1b.old (H' := H2 ++ [.box [.str A, .str B, .int .i64 M, x2]] ++ t3) (fun i cs hx => get_old (get_old hx))
  have gy3 := gy2.more (t := [.box [.str A, .str B, .int .i64 M, x2]]).more (t := t3)
  generalize H2 ++ [O.box [.str A, .str B, .int .i64 M, x2]] ++ t3 = H3 at *
  generalize hC : (if cp then c else 0) = C at *
  generalize hQ : (if cp then q else 0) = Q at *
  generalize hR : (if cp then r else []) = R at *
  generalize hF : (if cp then (0 : Int) else 16) = G at *
  simp (maxSteps := 4000000) only [vm, vl, Arg.get, cells, stor, boundO, resultsV, resV, partK, loadV, Vm.part, fillC, splice, reduceIte, reduceCtorEq, Nat.reduceEqDiff, Nat.reduceAdd, Nat.reduceSub, Nat.reduceMul, Nat.reduceLeDiff, ne_eq, not_false_eq_true, Int.reduceEq, Int.reduceLT, Int.reduceLE, Int.reduceNeg, Int.reduceToNat, Int.reduceGT, Int.reduceGE, Nat.reduceLT, Nat.lt_add_one, Nat.zero_lt_succ, Nat.succ_pos, Nat.zero_le, beq_self_eq_true]
  refine (rRp gy3.more).mono fun v h4 hv => ?_
  obtain ⟨⟨t4, rfl⟩, y2, rfl, P2⟩ := rres_told hv
  rw [hC, hQ, hR, hF]
  have w18 := get_old (t := t4) (get_old (t := [.box [.int .i64 C, .int .i64 Q, .str R, y1]]) g18')
  have w20 := get_old (t := t4) (get_old (t := [.box [.int .i64 C, .int .i64 Q, .str R, y1]]) g20)
  have w22 := get_old (t := t4) (at_end (h := H3) (X := .box [.int .i64 C, .int .i64 Q, .str R, y1]))
  have O1d := O1c.old (H' := H3 ++ [.box [.int .i64 C, .int .i64 Q, .str R, y1]] ++ t4) (fun i cs hx => get_old (get_old hx))
  have P1d := P1.old (H' := H3 ++ [.box [.int .i64 C, .int .i64 Q, .str R, y1]] ++ t4) (fun i cs hx => get_old (get_old hx))
  exact Reads5_ok w18 w20 w22 (one_same (by omega) O1d O2) (one_same (by omega) P1d P2)
end Go.Proofs.YtnfcjeajbjcppaaDoor.Vh
end
section
set_option linter.unusedVariables false
set_option linter.unusedSimpArgs false
namespace Go.Proofs.YtnfcjeajbjcppaaDoor.Vh
open Go.Vm Go.Vt
attribute [local congr] wi_congr wg_congr wgd_congr wb_congr wl_congr cf_congr
variable {L : FuncId → List V → V → Prop} {h : Heap} {kr kc : Nat} {S : Nat → Prop} {ans : Bool} {st : HS}
theorem ints_len {x : V} {m : Nat} (hx : Ints x m) {e : Env} {K : V → Heap → Prop} (hk : K (.int .i64 m) h) : wi F L (.len 1 (.c x)) e h K := by
  rcases hx with ⟨rfl, rfl⟩ | ⟨es, o, rfl, rfl, _⟩
  · exact hk
  · exact hk
def Bsl (x : V) (bs : Bs) : Prop := (x = .nsl ∧ bs = []) ∨ ∃ o, x = .sl 1 o (bs.map ofByte)
theorem Bsl.bv {x : V} {bs : Bs} {T : Nat → Prop} (b : Bsl x bs) : Bv h x T bs := b.imp id .inl
theorem Bsl.cut {x : V} {bs : Bs} {a b : Nat} (g : Bsl x bs) (h1 : a ≤ b) (h2 : b ≤ bs.length) : ∃ y, slslV 1 x a (some b) none = some y ∧ Bsl y ((bs.take b).drop a) := by
  rcases g with ⟨rfl, rfl⟩ | ⟨o, rfl⟩
  · have : b = 0 := by simpa using h2
    subst this
    have : a = 0 := by omega
    subst this
    exact ⟨.nsl, rfl, .inl ⟨rfl, rfl⟩⟩
  · refine ⟨.sl 1 .no (((bs.take b).drop a).map ofByte), ?_, .inr ⟨_, rfl⟩⟩
    simp only [slslV, ne_eq, not_true_eq_false, if_false, List.length_map]
    rw [if_pos ⟨h1, h2⟩, List.map_drop, List.map_take]
theorem Reads0_ok (HI : IndexOk L) (HC : CountOk L) {H : Heap} {kx kxc ky : Nat} {Sx Sy : Nat → Prop} {e : Env} {x0 x1 : V} {bs : Bs} {m : Nat} (gx : RD H Sx kx kxc ans st) (gy : RR H Sy ky ans st) (ho : HOk st) (ht : HTy st)
    (d1 : ¬ Sx ky) (d2 : ¬ Sy kx) (d3 : ¬ Sy kxc) (d4 : ∀ j, Sx j → ¬ Sy j) (hk1 : kx ≠ ky) (hk2 : kxc ≠ ky) (hb : Bsl x0 bs) (hl : bs.length ≤ 9000) (hx : Ints x1 m) (e0 : e 0 = x0) (e1 : e 1 = x1) (e7 : e 7 = .ptr kx 0) (e8 : e 8 = .ptr ky 0) :
    k_gatepostlaw05_HeadReads_1 L (fun v _ => v = .bool true) e H := by
  
  unfold k_gatepostlaw05_HeadReads_1
  refine l_gatepostlaw05_HeadReads_0 (fun n e h' => ∃ (i at_ : Nat) (s' : HS) (Sx Sy : Nat → Prop), n = 40 - i ∧ at_ ≤ bs.length ∧ i ≤ 40 ∧ e 0 = x0 ∧ e 1 = x1 ∧ e 7 = .ptr kx 0 ∧ e 8 = .ptr ky 0 ∧ e 9 = .int .i64 at_ ∧ e 10 = .int .i64 i ∧ RD h' Sx kx kxc ans s' ∧ RR h' Sy ky ans s' ∧ HOk s' ∧ HTy s' ∧ ¬ Sx ky ∧ ¬ Sy kx ∧ ¬ Sy kxc ∧ (∀ j, Sx j → ¬ Sy j)) ?_
    (n := 40) ⟨0, 0, st, Sx, Sy, rfl, Nat.zero_le _, by omega, e0, e1, e7, e8, rfl, rfl, gx, gy, ho, ht, d1, d2, d3, d4⟩
  clear e0 e1 e7 e8 gx gy ho ht d1 d2 d3 d4
  rintro n e h' ⟨i, at_, s', Sx, Sy, rfl, hat, hi, e0, e1, e7, e8, e9, e10, gx, gy, ho, ht, d1, d2, d3, d4⟩
  simp only [b_gatepostlaw05_HeadReads_0, e0, e1, e7, e8, e9, e10]
  refine ints_len hx ?_
  have K2 := Reads2_ok (L := L) gx gy ho ht
  by_cases c1 : (i : Int) ≤ (m : Int)
  case neg =>
    have c1' := decide_eq_false c1
    simp (maxSteps := 4000000) only [vm, vl, Arg.get, cells, stor, boundO, resultsV, resV, partK, loadV, Vm.part, fillC, splice, reduceIte, reduceCtorEq, Nat.reduceEqDiff, Nat.reduceAdd, Nat.reduceSub, Nat.reduceMul, Nat.reduceLeDiff, ne_eq, not_false_eq_true, Int.reduceEq, Int.reduceLT, Int.reduceLE, Int.reduceNeg, Int.reduceToNat, Int.reduceGT, Int.reduceGE, Nat.reduceLT, Nat.lt_add_one, Nat.zero_lt_succ, Nat.succ_pos, Nat.zero_le, beq_self_eq_true, c1']
    exact K2
  have c1' := decide_eq_true c1
  by_cases c2 : i < 40
  case neg =>
    have c2' : decide ((i : Int) < 40) = false := decide_eq_false (by omega)
    simp (maxSteps := 4000000) only [vm, vl, Arg.get, cells, stor, boundO, resultsV, resV, partK, loadV, Vm.part, fillC, splice, reduceIte, reduceCtorEq, Nat.reduceEqDiff, Nat.reduceAdd, Nat.reduceSub, Nat.reduceMul, Nat.reduceLeDiff, ne_eq, not_false_eq_true, Int.reduceEq, Int.reduceLT, Int.reduceLE, Int.reduceNeg, Int.reduceToNat, Int.reduceGT, Int.reduceGE, Nat.reduceLT, Nat.lt_add_one, Nat.zero_lt_succ, Nat.succ_pos, Nat.zero_le, beq_self_eq_true, c1', c2']
    exact K2
  have c2' : decide ((i : Int) < 40) = true := decide_eq_true (by omega)
  simp (maxSteps := 4000000) only [vm, vl, Arg.get, cells, stor, boundO, resultsV, resV, partK, loadV, Vm.part, fillC, splice, reduceIte, reduceCtorEq, Nat.reduceEqDiff, Nat.reduceAdd, Nat.reduceSub, Nat.reduceMul, Nat.reduceLeDiff, ne_eq, not_false_eq_true, Int.reduceEq, Int.reduceLT, Int.reduceLE, Int.reduceNeg, Int.reduceToNat, Int.reduceGT, Int.reduceGE, Nat.reduceLT, Nat.lt_add_one, Nat.zero_lt_succ, Nat.succ_pos, Nat.zero_le, beq_self_eq_true, c1', c2']
  unfold k_gatepostlaw05_HeadReads_8
  refine bv_len (T := fun _ => False) hb.bv ?_
  simp (maxSteps := 4000000) only [vm, vl, Arg.get, cells, stor, boundO, resultsV, resV, partK, loadV, Vm.part, fillC, splice, reduceIte, reduceCtorEq, Nat.reduceEqDiff, Nat.reduceAdd, Nat.reduceSub, Nat.reduceMul, Nat.reduceLeDiff, ne_eq, not_false_eq_true, Int.reduceEq, Int.reduceLT, Int.reduceLE, Int.reduceNeg, Int.reduceToNat, Int.reduceGT, Int.reduceGE, Nat.reduceLT, Nat.lt_add_one, Nat.zero_lt_succ, Nat.succ_pos, Nat.zero_le, beq_self_eq_true]
  refine (piece_ok hx hat (by omega) (by omega)).mono fun v h2 hv => ?_
  obtain ⟨rfl, tt, rfl, p1, p2, p3⟩ := hv
  obtain ⟨y, hsl, hby⟩ := hb.cut p1 p2
  have i0 : (0 : Int) ≤ (at_ : Int) := by omega
  have i1 : (0 : Int) ≤ (tt : Int) := by omega
  have hbl : ((bs.take tt).drop at_).length = tt - at_ := by rw [List.length_drop, List.length_take]; omega
  generalize (bs.take tt).drop at_ = cs at *
  simp (maxSteps := 4000000) only [vm, vl, Arg.get, cells, stor, boundO, resultsV, resV, partK, loadV, Vm.part, fillC, splice, reduceIte, reduceCtorEq, Nat.reduceEqDiff, Nat.reduceAdd, Nat.reduceSub, Nat.reduceMul, Nat.reduceLeDiff, ne_eq, not_false_eq_true, Int.reduceEq, Int.reduceLT, Int.reduceLE, Int.reduceNeg, Int.reduceToNat, Int.reduceGT, Int.reduceGE, Nat.reduceLT, Nat.lt_add_one, Nat.zero_lt_succ, Nat.succ_pos, Nat.zero_le, beq_self_eq_true, i0, i1, hsl, Int.toNat_natCast]
  refine (Feed_ok HI HC gx ho (bs := cs) hby.bv (by omega)).mono fun v h3 hv => ?_
  obtain ⟨rfl, R, O2, F⟩ := hv
  unfold k_gatepostlaw05_HeadReads_12
  have hxl : ∀ j, Sx j → j < h2.length := by obtain ⟨_, _, _, _, _, _, _, _, _, h8⟩ := gx; exact h8
  have hyl : ∀ j, Sy j → j < h2.length := by obtain ⟨_, _, _, _, h8⟩ := gy; exact h8
  have hkx := gx.lt
  have hky := gy.lt
  have hkxc : kxc < h2.length := by obtain ⟨_, _, _, h2, _⟩ := gx; exact lt_of_get h2
  have gy2 : RR h3 Sy ky ans s' := gy.fr F (fun hh => by
    rcases hh with hh | hh
    · exact d1 hh
    · exact hk1 hh.symm) (fun j hj hh => by
    rcases hh with hh | hh
    · exact d4 j hh hj
    · exact d2 (by rw [← hh]; exact hj))
  simp (maxSteps := 4000000) only [vm, vl, Arg.get, cells, stor, boundO, resultsV, resV, partK, loadV, Vm.part, fillC, splice, reduceIte, reduceCtorEq, Nat.reduceEqDiff, Nat.reduceAdd, Nat.reduceSub, Nat.reduceMul, Nat.reduceLeDiff, ne_eq, not_false_eq_true, Int.reduceEq, Int.reduceLT, Int.reduceLE, Int.reduceNeg, Int.reduceToNat, Int.reduceGT, Int.reduceGE, Nat.reduceLT, Nat.lt_add_one, Nat.zero_lt_succ, Nat.succ_pos, Nat.zero_le, beq_self_eq_true, i0, i1, hsl, Int.toNat_natCast]
  refine (rFeed_ok HI HC gy2 ho (bs := cs) hby.bv (by omega)).mono fun v h4 hv => ?_
  obtain ⟨rfl, R2, _, F2⟩ := hv
  have hle := feed_le (ans := ans) (bs := cs) (st := s')
  have hty := feedS_ty (ans := ans) (bs := cs) ht
  have F1 := F.1
  have R3 := R.fr F2 (fun hh => by
    rcases hh with hh | hh
    · exact d2 hh
    · exact hk1 hh) (fun hh => by
    rcases hh with hh | hh
    · exact d3 hh
    · exact hk2 hh) (fun j hj hh => by
    rcases hj with hj | hj
    · rcases hh with hh | hh
      · exact d4 j hj hh
      · exact d1 (by rw [← hh]; exact hj)
    · rcases hh with hh | hh
      · have := hyl j hh; omega
      · omega)
  have D1 : ¬ growS Sx h2.length h3.length ky := fun hh => by
    rcases hh with hh | hh
    · exact d1 hh
    · omega
  have D2 : ¬ growS Sy h3.length h4.length kx := fun hh => by
    rcases hh with hh | hh
    · exact d2 hh
    · omega
  have D3 : ¬ growS Sy h3.length h4.length kxc := fun hh => by
    rcases hh with hh | hh
    · exact d3 hh
    · omega
  have D4 : ∀ j, growS Sx h2.length h3.length j → ¬ growS Sy h3.length h4.length j := fun j hj hh => by
    rcases hj with hj | hj
    · rcases hh with hh | hh
      · exact d4 j hj hh
      · have := hxl j hj; omega
    · rcases hh with hh | hh
      · have := hyl j hh; omega
      · omega
  generalize feedS ans cs s' = r at *
  obtain ⟨rn, rs⟩ := r
  simp only at hle hty R R2 R3 O2 ⊢
  have w2 := wrap64 (x := (at_ : Int) + rn) (by omega) (by omega)
  have w3 := wrap64 (x := (i : Int) + 1) (by omega) (by omega)
  have K4 := Reads2_ok (L := L) R3 R2 O2 hty
  unfold k_gatepostlaw05_HeadReads_11
  cases hd : rs.done with
  | true =>
    simp (maxSteps := 4000000) only [vm, vl, Arg.get, cells, stor, boundO, resultsV, resV, partK, loadV, Vm.part, fillC, splice, reduceIte, reduceCtorEq, Nat.reduceEqDiff, Nat.reduceAdd, Nat.reduceSub, Nat.reduceMul, Nat.reduceLeDiff, ne_eq, not_false_eq_true, Int.reduceEq, Int.reduceLT, Int.reduceLE, Int.reduceNeg, Int.reduceToNat, Int.reduceGT, Int.reduceGE, Nat.reduceLT, Nat.lt_add_one, Nat.zero_lt_succ, Nat.succ_pos, Nat.zero_le, beq_self_eq_true, eq_self, decide_true, Bool.not_true, w2, k_gatepostlaw05_HeadReads_10]
    exact K4
  | false =>
    by_cases he : rs.e = 0
    · have c4 : decide (rs.e = 0) = true := decide_eq_true he
      simp (maxSteps := 4000000) only [vm, vl, Arg.get, cells, stor, boundO, resultsV, resV, partK, loadV, Vm.part, fillC, splice, reduceIte, reduceCtorEq, Nat.reduceEqDiff, Nat.reduceAdd, Nat.reduceSub, Nat.reduceMul, Nat.reduceLeDiff, ne_eq, not_false_eq_true, Int.reduceEq, Int.reduceLT, Int.reduceLE, Int.reduceNeg, Int.reduceToNat, Int.reduceGT, Int.reduceGE, Nat.reduceLT, Nat.lt_add_one, Nat.zero_lt_succ, Nat.succ_pos, Nat.zero_le, beq_self_eq_true, eq_self, decide_true, Bool.not_true, w2, w3, c4, k_gatepostlaw05_HeadReads_10, k_gatepostlaw05_HeadReads_9]
      exact ⟨40 - (i + 1), by omega, i + 1, at_ + rn, rs, _, _, rfl, by omega, by omega, e0, e1, e7, e8, rfl, rfl, R3, R2, O2, hty, D1, D2, D3, D4⟩
    · have c4 : decide (rs.e = 0) = false := decide_eq_false he
      simp (maxSteps := 4000000) only [vm, vl, Arg.get, cells, stor, boundO, resultsV, resV, partK, loadV, Vm.part, fillC, splice, reduceIte, reduceCtorEq, Nat.reduceEqDiff, Nat.reduceAdd, Nat.reduceSub, Nat.reduceMul, Nat.reduceLeDiff, ne_eq, not_false_eq_true, Int.reduceEq, Int.reduceLT, Int.reduceLE, Int.reduceNeg, Int.reduceToNat, Int.reduceGT, Int.reduceGE, Nat.reduceLT, Nat.lt_add_one, Nat.zero_lt_succ, Nat.succ_pos, Nat.zero_le, beq_self_eq_true, eq_self, decide_true, Bool.not_true, Bool.not_false, w2, w3, c4, k_gatepostlaw05_HeadReads_10]
      exact K4
theorem names_ok : Cf F L i_gatepostlaw05_names [] h (Pu h (.bool true)) := by
  refine run_gatepostlaw05_names ?_
  simp only [p_gatepostlaw05_names]
  simp (maxSteps := 4000000) only [vm, vl, Arg.get, cells, stor, boundO, resultsV, resV, partK, loadV, Vm.part, fillC, splice, reduceIte, reduceCtorEq, Nat.reduceEqDiff, Nat.reduceAdd, Nat.reduceSub, Nat.reduceMul, Nat.reduceLeDiff, ne_eq, not_false_eq_true, Int.reduceEq, Int.reduceLT, Int.reduceLE, Int.reduceNeg, Int.reduceToNat, Int.reduceGT, Int.reduceGE, Nat.reduceLT, Nat.lt_add_one, Nat.zero_lt_succ, Nat.succ_pos, Nat.zero_le, beq_self_eq_true]
theorem ReadsA_ok (HI : IndexOk L) (HC : CountOk L) {H : Heap} {e : Env} {x0 x1 : V} {bs : Bs} {m : Nat} (hb : Bsl x0 bs) (hl : bs.length ≤ 9000) (hx : Ints x1 m) (e0 : e 0 = x0) (e1 : e 1 = x1) :
    k_gatepostlaw05_HeadReads_0 L (fun v _ => v = .bool true) e (.bool ans) H := by
  
  unfold k_gatepostlaw05_HeadReads_0
  refine New_ok.mono fun v h1 hv => ?_
  obtain ⟨rfl, _, R, t, rfl⟩ := hv
  have hkc : H.length + 1 < (H ++ t).length := by obtain ⟨_, _, _, h2, _⟩ := R; exact lt_of_get h2
  generalize H ++ t = H1 at *
  unfold k_gatepostlaw05_HeadReads_14
  simp (maxSteps := 4000000) only [vm, vl, Arg.get, cells, stor, boundO, resultsV, resV, partK, loadV, Vm.part, fillC, splice, reduceIte, reduceCtorEq, Nat.reduceEqDiff, Nat.reduceAdd, Nat.reduceSub, Nat.reduceMul, Nat.reduceLeDiff, ne_eq, not_false_eq_true, Int.reduceEq, Int.reduceLT, Int.reduceLE, Int.reduceNeg, Int.reduceToNat, Int.reduceGT, Int.reduceGE, Nat.reduceLT, Nat.lt_add_one, Nat.zero_lt_succ, Nat.succ_pos, Nat.zero_le, beq_self_eq_true]
  refine Cf.pu names_ok fun u => ?_
  unfold k_gatepostlaw05_HeadReads_13
  simp (maxSteps := 4000000) only [vm, vl, Arg.get, cells, stor, boundO, resultsV, resV, partK, loadV, Vm.part, fillC, splice, reduceIte, reduceCtorEq, Nat.reduceEqDiff, Nat.reduceAdd, Nat.reduceSub, Nat.reduceMul, Nat.reduceLeDiff, ne_eq, not_false_eq_true, Int.reduceEq, Int.reduceLT, Int.reduceLE, Int.reduceNeg, Int.reduceToNat, Int.reduceGT, Int.reduceGE, Nat.reduceLT, Nat.lt_add_one, Nat.zero_lt_succ, Nat.succ_pos, Nat.zero_le, beq_self_eq_true, Bool.not_true]
  have gy : RR (H1 ++ O.box (rrV ans st0 .nsl) :: u) (fun _ => False) H1.length ans st0 := ⟨.nsl, by rw [List.getElem?_append_right (Nat.le_refl _), Nat.sub_self]; rfl, .inl ⟨rfl, rfl⟩, id, fun _ hh => hh.elim⟩
  have ht0 : HTy st0 := ⟨⟨_, _, _, rfl⟩, _, _, _, rfl⟩
  exact Reads0_ok HI HC (R.more) gy st0_ok ht0 id id id (fun _ hh => hh.elim) (by omega) (by omega) hb hl hx e0 e1 rfl rfl
theorem Reads_ok (HI : IndexOk L) (HC : CountOk L) {x0 x1 : V} {bs : Bs} {m : Nat} (hb : (x0 = .nsl ∧ bs = []) ∨ x0 = .sl 1 .no (bs.map ofByte)) (hx : Ints x1 m) :
    Cf F L i_gatepostlaw05_HeadReads [x0, x1, .bool ans] h (fun v _ => v = .bool true) := by
  refine run_gatepostlaw05_HeadReads ?_
  simp only [p_gatepostlaw05_HeadReads]
  
  have hbs : Bsl x0 bs := hb.imp id fun hh => ⟨_, hh⟩
  refine bv_len (T := fun _ => False) hbs.bv ?_
  by_cases hl : bs.length ≤ 9000
  · have c1 : decide (((bs.length : Nat) : Int) > 9000) = false := decide_eq_false (by omega)
    simp (maxSteps := 4000000) only [vm, vl, Arg.get, cells, stor, boundO, resultsV, resV, partK, loadV, Vm.part, fillC, splice, reduceIte, reduceCtorEq, Nat.reduceEqDiff, Nat.reduceAdd, Nat.reduceSub, Nat.reduceMul, Nat.reduceLeDiff, ne_eq, not_false_eq_true, Int.reduceEq, Int.reduceLT, Int.reduceLE, Int.reduceNeg, Int.reduceToNat, Int.reduceGT, Int.reduceGE, Nat.reduceLT, Nat.lt_add_one, Nat.zero_lt_succ, Nat.succ_pos, Nat.zero_le, beq_self_eq_true, c1]
    exact ReadsA_ok HI HC hbs hl hx rfl rfl
  · have c1 : decide (((bs.length : Nat) : Int) > 9000) = true := decide_eq_true (by omega)
    obtain ⟨y, hsl, hby⟩ := hbs.cut (a := 0) (b := 9000) (by omega) (by omega)
    have i1 : (0 : Int) ≤ 9000 := by omega
    have i2 : Int.toNat 9000 = 9000 := rfl
    simp (maxSteps := 4000000) only [vm, vl, Arg.get, cells, stor, boundO, resultsV, resV, partK, loadV, Vm.part, fillC, splice, reduceIte, reduceCtorEq, Nat.reduceEqDiff, Nat.reduceAdd, Nat.reduceSub, Nat.reduceMul, Nat.reduceLeDiff, ne_eq, not_false_eq_true, Int.reduceEq, Int.reduceLT, Int.reduceLE, Int.reduceNeg, Int.reduceToNat, Int.reduceGT, Int.reduceGE, Nat.reduceLT, Nat.lt_add_one, Nat.zero_lt_succ, Nat.succ_pos, Nat.zero_le, beq_self_eq_true, c1, hsl, i1, i2]
    exact ReadsA_ok HI HC hby (by rw [List.drop_zero, List.length_take]; omega) hx rfl rfl
theorem HeadReads_row {x0 x1 x2 : V} (v0 : VPar [.sl [.i .u8]] x0) (v1 : VPar [.sl [.i .i64]] x1) (v2 : VPar [.l .b] x2) (w : World) (vs : List Value) (hv : Rvs w.heap.size G0 w [x0, x1, x2] vs) :
    Calls Tryd.prog i_gatepostlaw05_HeadReads vs.toArray w fun e w' => e = .returned (.bool true) ∧ RowKit.Below w.heap.size w w' := by
  obtain ⟨bs, hb⟩ := bytes_par v0
  obtain ⟨m, hx, _⟩ := ints_par v1
  obtain ⟨b, rfl⟩ := v2
  exact calls_at hm hF (lh_at w) (Reads_ok (indexOk fun _ _ _ h => .inl h) (countOk fun _ _ _ h => .inr h) hb hx) hv
end Go.Proofs.YtnfcjeajbjcppaaDoor.Vh
end
