/- DateForms on the small machine. -/
import Derived.Test.YtdgklgeddbfeaaaDoorVForms3
set_option linter.unusedVariables false
set_option linter.unusedSimpArgs false
namespace Go.Proofs.YtdgklgeddbfeaaaDoor.Vh
open Go.Vm Go.Vt
attribute [local congr] wi_congr wg_congr wgd_congr wb_congr wl_congr cf_congr
variable {L : FuncId → List V → V → Prop} {h : Heap}
theorem day_pick : ∀ i, i < 7 → ∀ w, w < 7 → ((dayLs.getD i []).take 3 == (dayLs.getD w []).take 3) = decide (i = w) := by decide +kernel
theorem days_at {K : V → Heap → Prop} {e : Env} {hh : Heap} {i : Nat} (hi : i < 7) : wi F L (.ixaSl 1 (.c (.sl 1 .full (dayLs.map .str))) (.c (.int .i64 i))) e hh K = K (.iptr [.str (dayLs.getD i [])]) hh := by
  rw [ListV.at (es := dayLs.map V.str) (.inr ⟨_, rfl⟩) hi, aggstr_at hi]; rfl
theorem forms3_ok {sec : Int} {s old : Bs} {w y m d a i c : Nat} (w0 : w < 7) (y1 : y < 10000) (m0 : m < 12) (d0 : d < 100) (a0 : a < 24) (i0 : i < 60) (c0 : c < 60)
    (hs : s.length = 29) (s1 : s.take 3 = (dayLs.getD w []).take 3) (s2 : (s.take 11).drop 8 = monLs.getD m []) (s3 : (s.take 25).drop 17 = two a ++ ([58] ++ (two i ++ ([58] ++ two c)))) (s4 : (s.take 16).drop 12 = two (y / 100) ++ two (y % 100))
    (ho : old.length < 1000) (h1 : dateS old = some sec) (h2 : dateS (plainF w y m d a i c) = some sec) : k_gatepostlaw02_DateForms_3 L (fun v _ => v = .bool true) (.int .i64 sec) (.str s) (.str old) (.str (dayB d)) h := by
  
  unfold k_gatepostlaw02_DateForms_3
  have l1 := (day3 w w0).2
  have l2 := mon3 m m0
  have l3 : (dayB d).length = 2 := by unfold dayB; split <;> rfl
  have l4 : (two a ++ ([58] ++ (two i ++ ([58] ++ two c)))).length = 8 := rfl
  have l5 : (two (y / 100) ++ two (y % 100)).length = 4 := rfl
  have ep : plainF w y m d a i c = (((((((((dayLs.getD w []).take 3 ++ [32]) ++ monLs.getD m []) ++ [32]) ++ dayB d) ++ [32]) ++ (two a ++ ([58] ++ (two i ++ ([58] ++ two c))))) ++ [32]) ++ (two (y / 100) ++ two (y % 100))) := by
    unfold plainF; simp only [List.append_assoc]
  generalize (dayLs.getD w []).take 3 = X1 at *
  generalize monLs.getD m [] = X2 at *
  generalize dayB d = X3 at *
  generalize (two a ++ ([58] ++ (two i ++ ([58] ++ two c)))) = X4 at *
  generalize (two (y / 100) ++ two (y % 100)) = X5 at *
  obtain ⟨A1, hA1⟩ : ∃ A, A = X1 ++ [32] := ⟨_, rfl⟩
  obtain ⟨A2, hA2⟩ : ∃ A, A = A1 ++ X2 := ⟨_, rfl⟩
  obtain ⟨A3, hA3⟩ : ∃ A, A = A2 ++ [32] := ⟨_, rfl⟩
  obtain ⟨A4, hA4⟩ : ∃ A, A = A3 ++ X3 := ⟨_, rfl⟩
  obtain ⟨A5, hA5⟩ : ∃ A, A = A4 ++ [32] := ⟨_, rfl⟩
  obtain ⟨A6, hA6⟩ : ∃ A, A = A5 ++ X4 := ⟨_, rfl⟩
  obtain ⟨A7, hA7⟩ : ∃ A, A = A6 ++ [32] := ⟨_, rfl⟩
  obtain ⟨A8, hA8⟩ : ∃ A, A = A7 ++ X5 := ⟨_, rfl⟩
  have e8 : plainF w y m d a i c = A8 := by rw [ep, hA8, hA7, hA6, hA5, hA4, hA3, hA2, hA1]
  rw [e8] at h2
  have m1 : A1.length = 4 := by rw [hA1]; simp [l1]
  have m2 : A2.length = 7 := by rw [hA2]; simp [m1, l2]
  have m3 : A3.length = 8 := by rw [hA3]; simp [m2]
  have m4 : A4.length = 10 := by rw [hA4]; simp [m3, l3]
  have m5 : A5.length = 11 := by rw [hA5]; simp [m4]
  have m6 : A6.length = 19 := by rw [hA6]; simp [m5, l4]
  have m7 : A7.length = 20 := by rw [hA7]; simp [m6]
  have m8 : A8.length = 24 := by rw [hA8]; simp [m7, l5]
  have b1 : binV .add (.str X1) (.str [32]) = some (.str A1) := by rw [hA1]; exact bin_sadd (by first | omega | (simp; omega))
  have b2 : binV .add (.str A1) (.str X2) = some (.str A2) := by rw [hA2]; exact bin_sadd (by first | omega | (simp; omega))
  have b3 : binV .add (.str A2) (.str [32]) = some (.str A3) := by rw [hA3]; exact bin_sadd (by first | omega | (simp; omega))
  have b4 : binV .add (.str A3) (.str X3) = some (.str A4) := by rw [hA4]; exact bin_sadd (by first | omega | (simp; omega))
  have b5 : binV .add (.str A4) (.str [32]) = some (.str A5) := by rw [hA5]; exact bin_sadd (by first | omega | (simp; omega))
  have b6 : binV .add (.str A5) (.str X4) = some (.str A6) := by rw [hA6]; exact bin_sadd (by first | omega | (simp; omega))
  have b7 : binV .add (.str A6) (.str [32]) = some (.str A7) := by rw [hA7]; exact bin_sadd (by first | omega | (simp; omega))
  have b8 : binV .add (.str A7) (.str X5) = some (.str A8) := by rw [hA8]; exact bin_sadd (by first | omega | (simp; omega))
  have o1 : 3 ≤ s.length := by omega
  have o2 : 11 ≤ s.length := by omega
  have o3 : 25 ≤ s.length := by omega
  have o4 : 16 ≤ s.length := by omega
  simp (maxSteps := 4000000) only [vm, vl, Arg.get, cells, stor, boundO, resultsV, resV, partK, loadV, Vm.part, fillC, splice, reduceIte, reduceCtorEq, Nat.reduceEqDiff, Nat.reduceAdd, Nat.reduceSub, Nat.reduceMul, Nat.reduceLeDiff, ne_eq, not_false_eq_true, Int.reduceEq, Int.reduceLT, Int.reduceLE, Int.reduceNeg, Int.reduceToNat, Int.reduceGT, Int.reduceGE, Nat.reduceLT, Nat.lt_add_one, Nat.zero_lt_succ, Nat.succ_pos, Nat.zero_le, beq_self_eq_true, o1, o2, o3, o4, s1, s2, s3, s4, b1, b2, b3, b4, b5, b6, b7, b8]
  refine Cf.pu (DParse_ok (by omega)) fun u1 => ?_
  rw [h1]
  simp (maxSteps := 4000000) only [vm, vl, Arg.get, cells, stor, boundO, resultsV, resV, partK, loadV, Vm.part, fillC, splice, reduceIte, reduceCtorEq, Nat.reduceEqDiff, Nat.reduceAdd, Nat.reduceSub, Nat.reduceMul, Nat.reduceLeDiff, ne_eq, not_false_eq_true, Int.reduceEq, Int.reduceLT, Int.reduceLE, Int.reduceNeg, Int.reduceToNat, Int.reduceGT, Int.reduceGE, Nat.reduceLT, Nat.lt_add_one, Nat.zero_lt_succ, Nat.succ_pos, Nat.zero_le, beq_self_eq_true, dateV]
  refine Cf.pu (DParse_ok (by omega)) fun u2 => ?_
  rw [h2]
  simp (maxSteps := 4000000) only [vm, vl, Arg.get, cells, stor, boundO, resultsV, resV, partK, loadV, Vm.part, fillC, splice, reduceIte, reduceCtorEq, Nat.reduceEqDiff, Nat.reduceAdd, Nat.reduceSub, Nat.reduceMul, Nat.reduceLeDiff, ne_eq, not_false_eq_true, Int.reduceEq, Int.reduceLT, Int.reduceLE, Int.reduceNeg, Int.reduceToNat, Int.reduceGT, Int.reduceGE, Nat.reduceLT, Nat.lt_add_one, Nat.zero_lt_succ, Nat.succ_pos, Nat.zero_le, beq_self_eq_true, dateV, decide_true]
theorem forms2_ok {sec : Int} {s : Bs} {w y m d a i c : Nat} (w0 : w < 7) (y1 : y < 10000) (m0 : m < 12) (d0 : d < 100) (a0 : a < 24) (i0 : i < 60) (c0 : c < 60)
    (hs : s.length = 29) (s1 : s.take 3 = (dayLs.getD w []).take 3) (s5 : (s.take 7).drop 5 = two d) (s2 : (s.take 11).drop 8 = monLs.getD m []) (s6 : (s.take 16).drop 14 = two (y % 100)) (s7 : s.drop 16 = [32] ++ (two a ++ ([58] ++ (two i ++ ([58] ++ (two c ++ [32, 71, 77, 84])))))) (s3 : (s.take 25).drop 17 = two a ++ ([58] ++ (two i ++ ([58] ++ two c)))) (s4 : (s.take 16).drop 12 = two (y / 100) ++ two (y % 100))
    (h1 : dateS (oldF w y m d a i c) = some sec) (h2 : dateS (plainF w y m d a i c) = some sec) : k_gatepostlaw02_DateForms_2 L (fun v _ => v = .bool true) (.int .i64 sec) (.str s) (.sl 1 .full (dayLs.map .str)) (.int .i64 w) h := by
  
  unfold k_gatepostlaw02_DateForms_2
  have l1 : (dayLs.getD w []).length ≤ 10 := nmD_len true w w0
  have l2 := mon3 m m0
  have l3 : (two d).length = 2 := rfl
  have l4 : (two (y % 100)).length = 2 := rfl
  have l5 : ([32] ++ (two a ++ ([58] ++ (two i ++ ([58] ++ (two c ++ [32, 71, 77, 84])))))).length = 13 := rfl
  have ep : oldF w y m d a i c = ((((((dayLs.getD w [] ++ [44, 32]) ++ two d) ++ [45]) ++ monLs.getD m []) ++ [45]) ++ two (y % 100)) ++ ([32] ++ (two a ++ ([58] ++ (two i ++ ([58] ++ (two c ++ [32, 71, 77, 84])))))) := by
    unfold oldF; simp only [List.append_assoc]
  have hz := two_zero d d0
  have hd0 := two_hd d d0
  have fin := fun old hh ho h1 => forms3_ok (L := L) (h := hh) (old := old) w0 y1 m0 d0 a0 i0 c0 hs s1 s2 s3 s4 ho h1 h2
  have at_ : ∀ (K : V → Heap → Prop) (e : Env) hh, wi F L (.ixaSl 1 (.c (.sl 1 .full (dayLs.map .str))) (.c (.int .i64 w))) e hh K = K (.iptr [.str (dayLs.getD w [])]) hh := fun K e hh => days_at (L := L) w0
  generalize (dayLs.map V.str) = LL at *
  generalize dayLs.getD w [] = X1 at *
  generalize monLs.getD m [] = X2 at *
  generalize ([32] ++ (two a ++ ([58] ++ (two i ++ ([58] ++ (two c ++ [32, 71, 77, 84])))))) = X4 at *
  generalize two (y % 100) = X3 at *
  obtain ⟨A1, hA1⟩ : ∃ A, A = X1 ++ [44, 32] := ⟨_, rfl⟩
  obtain ⟨A2, hA2⟩ : ∃ A, A = A1 ++ two d := ⟨_, rfl⟩
  obtain ⟨A3, hA3⟩ : ∃ A, A = A2 ++ [45] := ⟨_, rfl⟩
  obtain ⟨A4, hA4⟩ : ∃ A, A = A3 ++ X2 := ⟨_, rfl⟩
  obtain ⟨A5, hA5⟩ : ∃ A, A = A4 ++ [45] := ⟨_, rfl⟩
  obtain ⟨A6, hA6⟩ : ∃ A, A = A5 ++ X3 := ⟨_, rfl⟩
  obtain ⟨A7, hA7⟩ : ∃ A, A = A6 ++ X4 := ⟨_, rfl⟩
  have e8 : oldF w y m d a i c = A7 := by rw [ep, hA7, hA6, hA5, hA4, hA3, hA2, hA1]
  rw [e8] at h1
  have m1 : A1.length ≤ 12 := by rw [hA1]; simp; omega
  have m2 : A2.length ≤ 14 := by rw [hA2]; simp only [List.length_append]; omega
  have m3 : A3.length ≤ 15 := by rw [hA3]; simp; omega
  have m4 : A4.length ≤ 18 := by rw [hA4]; simp only [List.length_append]; omega
  have m5 : A5.length ≤ 19 := by rw [hA5]; simp; omega
  have m6 : A6.length ≤ 21 := by rw [hA6]; simp only [List.length_append]; omega
  have m7 : A7.length ≤ 34 := by rw [hA7]; simp only [List.length_append]; omega
  have b1 : binV .add (.str X1) (.str [44, 32]) = some (.str A1) := by rw [hA1]; exact bin_sadd (by first | omega | (simp; omega))
  have b2 : binV .add (.str A1) (.str (two d)) = some (.str A2) := by rw [hA2]; exact bin_sadd (by first | omega | (simp; omega))
  have b3 : binV .add (.str A2) (.str [45]) = some (.str A3) := by rw [hA3]; exact bin_sadd (by first | omega | (simp; omega))
  have b4 : binV .add (.str A3) (.str X2) = some (.str A4) := by rw [hA4]; exact bin_sadd (by first | omega | (simp; omega))
  have b5 : binV .add (.str A4) (.str [45]) = some (.str A5) := by rw [hA5]; exact bin_sadd (by first | omega | (simp; omega))
  have b6 : binV .add (.str A5) (.str X3) = some (.str A6) := by rw [hA6]; exact bin_sadd (by first | omega | (simp; omega))
  have b7 : binV .add (.str A6) (.str X4) = some (.str A7) := by rw [hA7]; exact bin_sadd (by first | omega | (simp; omega))
  have o1 : 7 ≤ s.length := by omega
  have o2 : 11 ≤ s.length := by omega
  have o4 : 16 ≤ s.length := by omega
  have F7 := fun hh => fin A7 hh (by omega) h1
  by_cases h10 : d < 10
  · have hb : dayB d = [32, UInt8.ofNat (48 + d % 10)] := if_pos h10
    have q0 := hz.2 h10
    have q1 : (two d).drop 1 = [UInt8.ofNat (48 + d % 10)] := rfl
    have q2 : ((48 : UInt8).toNat : Int) = 48 := by decide
    generalize two d = X5 at *
    have b8 : binV .add (.str [32]) (.str [UInt8.ofNat (48 + d % 10)]) = some (.str [32, UInt8.ofNat (48 + d % 10)]) := bin_sadd (by show 1 + 1 ≤ _; omega)
    have o5 : 0 < X5.length := by omega
    have o6 : 1 ≤ X5.length := by omega
    rw [hb] at F7
    simp (maxSteps := 4000000) only [vm, vl, Arg.get, cells, stor, boundO, resultsV, resV, partK, loadV, Vm.part, fillC, splice, reduceIte, reduceCtorEq, Nat.reduceEqDiff, Nat.reduceAdd, Nat.reduceSub, Nat.reduceMul, Nat.reduceLeDiff, ne_eq, not_false_eq_true, Int.reduceEq, Int.reduceLT, Int.reduceLE, Int.reduceNeg, Int.reduceToNat, Int.reduceGT, Int.reduceGE, Nat.reduceLT, Nat.lt_add_one, Nat.zero_lt_succ, Nat.succ_pos, Nat.zero_le, beq_self_eq_true, at_, List.take_length, o1, o2, o4, o5, o6, s2, s5, s6, s7, b1, b2, b3, b4, b5, b6, b7, b8, q0, q1, q2, decide_true]
    exact F7 _
  · have hb : dayB d = two d := if_neg h10
    have q0 : ¬ ((two d).getD 0 0 = 48) := fun h => h10 (hz.1 h)
    generalize two d = X5 at *
    have q2 : ¬ (((X5.getD 0 0).toNat : Int) = 48) := by
      intro e
      apply q0
      have : (X5.getD 0 0).toNat = (48 : UInt8).toNat := by
        have : (48 : UInt8).toNat = 48 := rfl
        omega
      exact UInt8.toNat_inj.1 this
    have o5 : 0 < X5.length := by omega
    rw [hb] at F7
    simp (maxSteps := 4000000) only [vm, vl, Arg.get, cells, stor, boundO, resultsV, resV, partK, loadV, Vm.part, fillC, splice, reduceIte, reduceCtorEq, Nat.reduceEqDiff, Nat.reduceAdd, Nat.reduceSub, Nat.reduceMul, Nat.reduceLeDiff, ne_eq, not_false_eq_true, Int.reduceEq, Int.reduceLT, Int.reduceLE, Int.reduceNeg, Int.reduceToNat, Int.reduceGT, Int.reduceGE, Nat.reduceLT, Nat.lt_add_one, Nat.zero_lt_succ, Nat.succ_pos, Nat.zero_le, beq_self_eq_true, at_, List.take_length, o1, o2, o4, o5, s2, s5, s6, s7, b1, b2, b3, b4, b5, b6, b7, q2, decide_false]
    exact F7 _
theorem DateForms_ok (HI : ItoaOk L) {n : Int} : Cf F L i_gatepostlaw02_DateForms [.int .i64 n] h (fun v _ => v = .bool true) := by
  refine run_gatepostlaw02_DateForms ?_
  simp only [p_gatepostlaw02_DateForms]
  obtain ⟨b0, b1⟩ := andI_range n 137438953471 (by omega) (by omega)
  generalize hA : bitsI .and .i64 n 137438953471 = A at *
  have t4 : A.tmod 3155760000 = A % 3155760000 := tmod_nn b0
  have t5 : 0 ≤ A % 3155760000 := by omega
  have t6 : A % 3155760000 < 3155760000 := by omega
  generalize A % 3155760000 = B at *
  simp only [vm, vl, Arg.get, hA, bin_rem, t4, k_gatepostlaw02_DateForms_0, reduceIte, Int.reduceEq]
  refine Cf.pu (Format_ok HI (by omega) (by omega) (by omega)) fun u1 => ?_
  have hl := fmt_len (sec := B) (by omega) (by omega)
  have hl' : ((fmtS B).length : Int) = 29 := by omega
  obtain ⟨w, y, m, d, a, i, c, w0, y1, y0, m0, d0, a0, i0, c0, hd, hw, hs, _, hy, e⟩ := fmt_form (sec := B) (by omega) (by omega)
  obtain ⟨s1, s5, s2, s6, s7, s3, s4⟩ := fmt_cut (day3 w w0).2 (mon3 m m0) (d2 := two d) (yh := two (y / 100)) (yl := two (y % 100)) (A := two a) (I := two i) (C := two c) rfl rfl rfl rfl rfl rfl (fmtS B) e
  have o := old_F w0 y0 (hy (by omega)) m0 d0 a0 i0 c0 hd (by omega) hw hs
  have q := plain_F w0 y1 m0 d0 a0 i0 c0 hd (by omega) hw hs
  have K2 := fun hh => forms2_ok (L := L) (h := hh) w0 y1 m0 d0 a0 i0 c0 hl s1 s5 s2 s6 s7 s3 s4 o q
  generalize fmtS B = s at *
  have eL : ([.str [77, 111, 110, 100, 97, 121], .str [84, 117, 101, 115, 100, 97, 121], .str [87, 101, 100, 110, 101, 115, 100, 97, 121], .str [84, 104, 117, 114, 115, 100, 97, 121], .str [70, 114, 105, 100, 97, 121], .str [83, 97, 116, 117, 114, 100, 97, 121], .str [83, 117, 110, 100, 97, 121]] : List V) = dayLs.map .str := rfl
  simp (maxSteps := 4000000) only [vm, vl, Arg.get, hl', decide_true, Bool.not_true, k_gatepostlaw02_DateForms_0, cells, stor, reduceIte, List.all_cons, List.all_nil, List.map_cons, List.map_nil, Bool.and_true, Bool.and_self, List.length_cons, List.length_nil, Nat.reduceAdd]
  refine l_gatepostlaw02_DateForms_0 (fun n e h' => ∃ j, n = 7 - j ∧ j ≤ 7 ∧ e 0 = .int .i64 B ∧ e 3 = .str s ∧ e 4 = .sl 1 .full (dayLs.map .str) ∧ e 5 = .int .i64 (if w < j then (w : Int) else -1) ∧ e 6 = .int .i64 j) ?_ (n := 7) ⟨0, by simp, by simp, rfl, rfl, rfl, rfl, rfl⟩
  rintro n e h' ⟨j, rfl, hj, e0, e3, e4, e5, e6⟩
  simp only [b_gatepostlaw02_DateForms_0]
  by_cases h7 : j < 7
  · have h7' : (j : Int) < 7 := by omega
    have at_ : ∀ (K : V → Heap → Prop) (e : Env) hh, wi F L (.ixaSl 1 (.c (.sl 1 .full (dayLs.map .str))) (.c (.int .i64 j))) e hh K = K (.iptr [.str (dayLs.getD j [])]) hh := fun K e hh => days_at (L := L) h7
    have w1 : IntKind.i64.wrap ((j : Int) + 1) = ((j + 1 : Nat) : Int) := by rw [wrap64 (by omega) (by omega)]; omega
    have o1 : 3 ≤ (dayLs.getD j []).length := (day3 j h7).1
    have o2 : 3 ≤ s.length := by omega
    have pk := day_pick j h7 w w0
    generalize (dayLs.map V.str) = LL at *
    generalize dayLs.getD j [] = X1 at *
    rw [← s1] at pk
    by_cases hjw : j = w
    · subst hjw
      have pk' : (X1.take 3 == s.take 3) = true := by rw [pk]; simp
      simp (maxSteps := 4000000) only [vm, vl, Arg.get, cells, stor, boundO, resultsV, resV, partK, loadV, Vm.part, fillC, splice, reduceIte, reduceCtorEq, Nat.reduceEqDiff, Nat.reduceAdd, Nat.reduceSub, Nat.reduceMul, Nat.reduceLeDiff, ne_eq, not_false_eq_true, Int.reduceEq, Int.reduceLT, Int.reduceLE, Int.reduceNeg, Int.reduceToNat, Int.reduceGT, Int.reduceGE, Nat.reduceLT, Nat.lt_add_one, Nat.zero_lt_succ, Nat.succ_pos, Nat.zero_le, beq_self_eq_true, k_gatepostlaw02_DateForms_3, k_gatepostlaw02_DateForms_2, k_gatepostlaw02_DateForms_1, k_gatepostlaw02_DateForms_5, k_gatepostlaw02_DateForms_4, k_gatepostlaw02_DateForms_0, e0, e3, e4, e5, e6, h7', decide_true, at_, o1, o2, pk', w1]
      exact ⟨7 - (j + 1), by omega, j + 1, rfl, by omega, by rw [if_pos (by omega)], rfl⟩
    · have pk' : (X1.take 3 == s.take 3) = false := by rw [pk]; simp [hjw]
      simp (maxSteps := 4000000) only [vm, vl, Arg.get, cells, stor, boundO, resultsV, resV, partK, loadV, Vm.part, fillC, splice, reduceIte, reduceCtorEq, Nat.reduceEqDiff, Nat.reduceAdd, Nat.reduceSub, Nat.reduceMul, Nat.reduceLeDiff, ne_eq, not_false_eq_true, Int.reduceEq, Int.reduceLT, Int.reduceLE, Int.reduceNeg, Int.reduceToNat, Int.reduceGT, Int.reduceGE, Nat.reduceLT, Nat.lt_add_one, Nat.zero_lt_succ, Nat.succ_pos, Nat.zero_le, beq_self_eq_true, k_gatepostlaw02_DateForms_3, k_gatepostlaw02_DateForms_2, k_gatepostlaw02_DateForms_1, k_gatepostlaw02_DateForms_5, k_gatepostlaw02_DateForms_4, k_gatepostlaw02_DateForms_0, e0, e3, e4, e5, e6, h7', decide_true, at_, o1, o2, pk', w1]
      refine ⟨7 - (j + 1), by omega, j + 1, rfl, by omega, ?_, rfl⟩
      have : (w < j + 1) ↔ (w < j) := by omega
      simp only [this]
  · have h7' : ¬ (j : Int) < 7 := by omega
    rw [if_pos (by omega)] at e5
    have hw0 : ¬ (w : Int) < 0 := by omega
    simp (maxSteps := 4000000) only [vm, vl, Arg.get, e0, e3, e4, e5, e6, h7', decide_false, k_gatepostlaw02_DateForms_1, hw0]
    exact K2 _
theorem DateForms_row {x0 : V} (v0 : VPar [.l (.i .i64)] x0) (w : World) (ht : TabAt w) (vs : List Value) (hv : Rvs w.heap.size G0 w [x0] vs) :
    Calls Tryd.prog i_gatepostlaw02_DateForms vs.toArray w fun e w' => e = .returned (.bool true) ∧ RowKit.Below w.heap.size w w' := by
  obtain ⟨n, rfl, _⟩ := v0
  exact calls_at hm hF (itoa_at ht) (DateForms_ok (itoaOk fun _ _ _ h => h)) hv
end Go.Proofs.YtdgklgeddbfeaaaDoor.Vh
