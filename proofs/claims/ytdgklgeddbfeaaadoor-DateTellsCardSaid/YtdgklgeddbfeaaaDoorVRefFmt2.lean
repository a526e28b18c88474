/- The reference's Format on the small machine. -/
import Derived.Test.YtdgklgeddbfeaaaDoorVRefFmt
set_option linter.unusedVariables false
set_option linter.unusedSimpArgs false
namespace Go.Proofs.YtdgklgeddbfeaaaDoor.Vh
open Go.Vm Go.Vt
attribute [local congr] wi_congr wg_congr wgd_congr wb_congr wl_congr cf_congr
variable {L : FuncId → List V → V → Prop} {h : Heap}
theorem sh_day : ∀ w, w < 7 → shLs.getD w [] = (dayLs.getD w []).take 3 := by decide +kernel
theorem Rfmt0_ok {sec : Int} (h0 : 0 ≤ sec) (h1 : sec / 86400 ≤ 2932896) : k_gatepostref02_Format_0 L (Pu h (.str (fmtS sec))) (.int .i64 sec) h := by
  
  obtain ⟨y, m, d, hc, y0, y1, m0, m1, d0, d1, _⟩ := civil_ok (sec / 86400) (by omega) h1
  have d2 := dim_le y m
  have ha : civA (sec / 86400) = (y, m, d) := by rw [civA, if_pos ⟨by omega, h1⟩, hc]
  have q1 : IntKind.i64.wrap (sec.tdiv 86400) = sec / 86400 := wdiv h0 (by omega) (by omega)
  have q2 : sec.tmod 86400 = sec % 86400 := tmod_nn h0
  have hF : fmtS sec = (dayLs.getD ((sec / 86400 + 3) % 7).toNat []).take 3 ++ [44, 32] ++ two d.toNat ++ [32] ++ monLs.getD (m - 1).toNat [] ++ [32] ++ (two (y.toNat / 100) ++ two (y.toNat % 100)) ++ [32] ++ two (sec % 86400 / 3600).toNat ++ [58] ++ two (sec % 86400 / 60 % 60).toNat ++ [58] ++ two (sec % 86400 % 60).toNat ++ [32, 71, 77, 84] := by
    unfold fmtS
    simp only [hc]
  generalize fmtS sec = fs at *
  simp (maxSteps := 4000000) only [vm, vl, Arg.get, cells, stor, boundO, resultsV, resV, partK, loadV, Vm.part, fillC, splice, reduceIte, reduceCtorEq, Nat.reduceEqDiff, Nat.reduceAdd, Nat.reduceSub, Nat.reduceMul, Nat.reduceLeDiff, ne_eq, not_false_eq_true, Int.reduceEq, Int.reduceLT, Int.reduceLE, Int.reduceNeg, Int.reduceToNat, Int.reduceGT, Int.reduceGE, Nat.reduceLT, Nat.lt_add_one, Nat.zero_lt_succ, Nat.succ_pos, Nat.zero_le, beq_self_eq_true, k_gatepostref02_Format_0, bin_quo, bin_rem, q1, q2]
  refine Cf.pu RCivil_ok fun t => ?_
  rw [ha]
  have dd0 : 0 ≤ sec / 86400 := by omega
  have c0 : 0 ≤ sec % 86400 := by omega
  have c1 : sec % 86400 < 86400 := by omega
  generalize sec % 86400 = c at *
  generalize sec / 86400 = day at *
  obtain ⟨w, hw, hw7⟩ : ∃ w : Nat, (day + 3) % 7 = w ∧ w < 7 := ⟨((day + 3) % 7).toNat, by omega, by omega⟩
  obtain ⟨mi, hmi, hmi12⟩ : ∃ i : Nat, m = (i : Int) + 1 ∧ i < 12 := ⟨(m - 1).toNat, by omega, by omega⟩
  obtain ⟨yn, rfl⟩ : ∃ n : Nat, y = n := ⟨y.toNat, by omega⟩
  obtain ⟨dn', rfl⟩ : ∃ n : Nat, d = n := ⟨d.toNat, by omega⟩
  obtain ⟨ch, hch⟩ : ∃ n : Nat, c / 3600 = n := ⟨(c / 3600).toNat, by omega⟩
  obtain ⟨cm, hcm⟩ : ∃ n : Nat, c / 60 % 60 = n := ⟨(c / 60 % 60).toNat, by omega⟩
  obtain ⟨cs, hcs⟩ : ∃ n : Nat, c % 60 = n := ⟨(c % 60).toNat, by omega⟩
  have q3 : IntKind.i64.wrap (day + 3) = day + 3 := wrap64 (by omega) (by omega)
  have q4 : (day + 3).tmod 7 = (w : Int) := by rw [tmod_nn (by omega), hw]
  have q5 : IntKind.i64.wrap (m - 1) = (mi : Int) := by rw [wrap64 (by omega) (by omega)]; omega
  have q6 : IntKind.i64.wrap (c.tdiv 3600) = (ch : Int) := by rw [wdiv c0 (by omega) (by omega), hch]
  have q7 : IntKind.i64.wrap (c.tdiv 60) = c / 60 := wdiv c0 (by omega) (by omega)
  have q8 : (c / 60).tmod 60 = (cm : Int) := by rw [tmod_nn (by omega), hcm]
  have q9 : c.tmod 60 = (cs : Int) := by rw [tmod_nn c0, hcs]
  have qa : IntKind.i64.wrap ((yn : Int).tdiv 100) = (yn / 100 : Nat) := by rw [wdiv (by omega) (by omega) (by omega)]; omega
  have qb : (yn : Int).tmod 100 = (yn % 100 : Nat) := by rw [tmod_nn (by omega)]; omega
  obtain ⟨u1, u2⟩ := day3 w hw7
  have u3 := mon3 mi hmi12
  have e1 : ((dn' : Int)).toNat = dn' := by omega
  have e2 : ((yn : Int)).toNat = yn := by omega
  have e3 : (m - 1).toNat = mi := by omega
  rw [hw, hch, hcm, hcs, e1, e2, e3, Int.toNat_natCast, Int.toNat_natCast, Int.toNat_natCast, Int.toNat_natCast] at hF
  have r1 : (shLs.map V.str).getD w (.tup []) = .str ((dayLs.getD w []).take 3) := by rw [aggstr_at hw7, sh_day w hw7]
  have r2 : (monLs.map V.str).getD mi (.tup []) = .str (monLs.getD mi []) := aggstr_at hmi12
  have z1 : (shLs.map V.str).length = 7 := rfl
  have z2 : (monLs.map V.str).length = 12 := rfl
  have i0 : (0 : Int) ≤ w := by omega
  have i1 : (0 : Int) ≤ mi := by omega
  have S1 : ∀ hh, Cf F L i_gatepostref02_short [] hh (Pu hh (.sl 1 .full (shLs.map .str))) := fun hh => short_ok
  have S2 : ∀ hh, Cf F L i_gatepostref02_months [] hh (Pu hh (.sl 1 .full (monLs.map .str))) := fun hh => months_ok
  have P1 : ∀ hh, Cf F L i_gatepostref02_two [.int .i64 (dn' : Int)] hh (Pu hh (.str (two dn'))) := fun hh => Rtwo_ok (by omega)
  have P2 : ∀ hh, Cf F L i_gatepostref02_two [.int .i64 ((yn / 100 : Nat) : Int)] hh (Pu hh (.str (two (yn / 100)))) := fun hh => Rtwo_ok (by omega)
  have P3 : ∀ hh, Cf F L i_gatepostref02_two [.int .i64 ((yn % 100 : Nat) : Int)] hh (Pu hh (.str (two (yn % 100)))) := fun hh => Rtwo_ok (by omega)
  have P4 : ∀ hh, Cf F L i_gatepostref02_two [.int .i64 (ch : Int)] hh (Pu hh (.str (two ch))) := fun hh => Rtwo_ok (by omega)
  have P5 : ∀ hh, Cf F L i_gatepostref02_two [.int .i64 (cm : Int)] hh (Pu hh (.str (two cm))) := fun hh => Rtwo_ok (by omega)
  have P6 : ∀ hh, Cf F L i_gatepostref02_two [.int .i64 (cs : Int)] hh (Pu hh (.str (two cs))) := fun hh => Rtwo_ok (by omega)
  have hp1 : (two dn').length = 2 := rfl
  have hp2 : (two (yn / 100)).length = 2 := rfl
  have hp3 : (two (yn % 100)).length = 2 := rfl
  have hp4 : (two ch).length = 2 := rfl
  have hp5 : (two cm).length = 2 := rfl
  have hp6 : (two cs).length = 2 := rfl
  generalize (shLs.map V.str) = LS at *
  generalize (monLs.map V.str) = LM at *
  generalize two dn' = p1 at *
  generalize two (yn / 100) = p2 at *
  generalize two (yn % 100) = p3 at *
  generalize two ch = p4 at *
  generalize two cm = p5 at *
  generalize two cs = p6 at *
  generalize yn / 100 = ya at *
  generalize yn % 100 = yb at *
  generalize (dayLs.getD w []).take 3 = dn at *
  generalize monLs.getD mi [] = mn at *
  have hdn := u2
  have hmn := u3
  obtain ⟨A0, hA0⟩ : ∃ A : Bs, A = dn ++ [44, 32] := ⟨_, rfl⟩
  have lA0 : A0.length = 5 := by rw [hA0, List.length_append]; simp only [hdn, hmn, hp1, hp2, hp3, hp4, hp5, hp6, List.length_cons, List.length_nil]
  have bA0 : binV .add (.str dn) (.str [44, 32]) = some (.str A0) := by rw [hA0]; exact bin_sadd (by simp only [hdn, hmn, hp1, hp2, hp3, hp4, hp5, hp6, List.length_cons, List.length_nil]; omega)
  obtain ⟨A1, hA1⟩ : ∃ A : Bs, A = A0 ++ p1 := ⟨_, rfl⟩
  have lA1 : A1.length = 7 := by rw [hA1, List.length_append]; simp only [hdn, hmn, hp1, hp2, hp3, hp4, hp5, hp6, lA0, List.length_cons, List.length_nil]
  have bA1 : binV .add (.str A0) (.str p1) = some (.str A1) := by rw [hA1]; exact bin_sadd (by simp only [hdn, hmn, hp1, hp2, hp3, hp4, hp5, hp6, lA0, List.length_cons, List.length_nil]; omega)
  obtain ⟨A2, hA2⟩ : ∃ A : Bs, A = A1 ++ [32] := ⟨_, rfl⟩
  have lA2 : A2.length = 8 := by rw [hA2, List.length_append]; simp only [hdn, hmn, hp1, hp2, hp3, hp4, hp5, hp6, lA0, lA1, List.length_cons, List.length_nil]
  have bA2 : binV .add (.str A1) (.str [32]) = some (.str A2) := by rw [hA2]; exact bin_sadd (by simp only [hdn, hmn, hp1, hp2, hp3, hp4, hp5, hp6, lA0, lA1, List.length_cons, List.length_nil]; omega)
  obtain ⟨A3, hA3⟩ : ∃ A : Bs, A = A2 ++ mn := ⟨_, rfl⟩
  have lA3 : A3.length = 11 := by rw [hA3, List.length_append]; simp only [hdn, hmn, hp1, hp2, hp3, hp4, hp5, hp6, lA0, lA1, lA2, List.length_cons, List.length_nil]
  have bA3 : binV .add (.str A2) (.str mn) = some (.str A3) := by rw [hA3]; exact bin_sadd (by simp only [hdn, hmn, hp1, hp2, hp3, hp4, hp5, hp6, lA0, lA1, lA2, List.length_cons, List.length_nil]; omega)
  obtain ⟨A4, hA4⟩ : ∃ A : Bs, A = A3 ++ [32] := ⟨_, rfl⟩
  have lA4 : A4.length = 12 := by rw [hA4, List.length_append]; simp only [hdn, hmn, hp1, hp2, hp3, hp4, hp5, hp6, lA0, lA1, lA2, lA3, List.length_cons, List.length_nil]
  have bA4 : binV .add (.str A3) (.str [32]) = some (.str A4) := by rw [hA4]; exact bin_sadd (by simp only [hdn, hmn, hp1, hp2, hp3, hp4, hp5, hp6, lA0, lA1, lA2, lA3, List.length_cons, List.length_nil]; omega)
  obtain ⟨A5, hA5⟩ : ∃ A : Bs, A = A4 ++ p2 := ⟨_, rfl⟩
  have lA5 : A5.length = 14 := by rw [hA5, List.length_append]; simp only [hdn, hmn, hp1, hp2, hp3, hp4, hp5, hp6, lA0, lA1, lA2, lA3, lA4, List.length_cons, List.length_nil]
  have bA5 : binV .add (.str A4) (.str p2) = some (.str A5) := by rw [hA5]; exact bin_sadd (by simp only [hdn, hmn, hp1, hp2, hp3, hp4, hp5, hp6, lA0, lA1, lA2, lA3, lA4, List.length_cons, List.length_nil]; omega)
  obtain ⟨A6, hA6⟩ : ∃ A : Bs, A = A5 ++ p3 := ⟨_, rfl⟩
  have lA6 : A6.length = 16 := by rw [hA6, List.length_append]; simp only [hdn, hmn, hp1, hp2, hp3, hp4, hp5, hp6, lA0, lA1, lA2, lA3, lA4, lA5, List.length_cons, List.length_nil]
  have bA6 : binV .add (.str A5) (.str p3) = some (.str A6) := by rw [hA6]; exact bin_sadd (by simp only [hdn, hmn, hp1, hp2, hp3, hp4, hp5, hp6, lA0, lA1, lA2, lA3, lA4, lA5, List.length_cons, List.length_nil]; omega)
  obtain ⟨A7, hA7⟩ : ∃ A : Bs, A = A6 ++ [32] := ⟨_, rfl⟩
  have lA7 : A7.length = 17 := by rw [hA7, List.length_append]; simp only [hdn, hmn, hp1, hp2, hp3, hp4, hp5, hp6, lA0, lA1, lA2, lA3, lA4, lA5, lA6, List.length_cons, List.length_nil]
  have bA7 : binV .add (.str A6) (.str [32]) = some (.str A7) := by rw [hA7]; exact bin_sadd (by simp only [hdn, hmn, hp1, hp2, hp3, hp4, hp5, hp6, lA0, lA1, lA2, lA3, lA4, lA5, lA6, List.length_cons, List.length_nil]; omega)
  obtain ⟨A8, hA8⟩ : ∃ A : Bs, A = A7 ++ p4 := ⟨_, rfl⟩
  have lA8 : A8.length = 19 := by rw [hA8, List.length_append]; simp only [hdn, hmn, hp1, hp2, hp3, hp4, hp5, hp6, lA0, lA1, lA2, lA3, lA4, lA5, lA6, lA7, List.length_cons, List.length_nil]
  have bA8 : binV .add (.str A7) (.str p4) = some (.str A8) := by rw [hA8]; exact bin_sadd (by simp only [hdn, hmn, hp1, hp2, hp3, hp4, hp5, hp6, lA0, lA1, lA2, lA3, lA4, lA5, lA6, lA7, List.length_cons, List.length_nil]; omega)
  obtain ⟨A9, hA9⟩ : ∃ A : Bs, A = A8 ++ [58] := ⟨_, rfl⟩
  have lA9 : A9.length = 20 := by rw [hA9, List.length_append]; simp only [hdn, hmn, hp1, hp2, hp3, hp4, hp5, hp6, lA0, lA1, lA2, lA3, lA4, lA5, lA6, lA7, lA8, List.length_cons, List.length_nil]
  have bA9 : binV .add (.str A8) (.str [58]) = some (.str A9) := by rw [hA9]; exact bin_sadd (by simp only [hdn, hmn, hp1, hp2, hp3, hp4, hp5, hp6, lA0, lA1, lA2, lA3, lA4, lA5, lA6, lA7, lA8, List.length_cons, List.length_nil]; omega)
  obtain ⟨A10, hA10⟩ : ∃ A : Bs, A = A9 ++ p5 := ⟨_, rfl⟩
  have lA10 : A10.length = 22 := by rw [hA10, List.length_append]; simp only [hdn, hmn, hp1, hp2, hp3, hp4, hp5, hp6, lA0, lA1, lA2, lA3, lA4, lA5, lA6, lA7, lA8, lA9, List.length_cons, List.length_nil]
  have bA10 : binV .add (.str A9) (.str p5) = some (.str A10) := by rw [hA10]; exact bin_sadd (by simp only [hdn, hmn, hp1, hp2, hp3, hp4, hp5, hp6, lA0, lA1, lA2, lA3, lA4, lA5, lA6, lA7, lA8, lA9, List.length_cons, List.length_nil]; omega)
  obtain ⟨A11, hA11⟩ : ∃ A : Bs, A = A10 ++ [58] := ⟨_, rfl⟩
  have lA11 : A11.length = 23 := by rw [hA11, List.length_append]; simp only [hdn, hmn, hp1, hp2, hp3, hp4, hp5, hp6, lA0, lA1, lA2, lA3, lA4, lA5, lA6, lA7, lA8, lA9, lA10, List.length_cons, List.length_nil]
  have bA11 : binV .add (.str A10) (.str [58]) = some (.str A11) := by rw [hA11]; exact bin_sadd (by simp only [hdn, hmn, hp1, hp2, hp3, hp4, hp5, hp6, lA0, lA1, lA2, lA3, lA4, lA5, lA6, lA7, lA8, lA9, lA10, List.length_cons, List.length_nil]; omega)
  obtain ⟨A12, hA12⟩ : ∃ A : Bs, A = A11 ++ p6 := ⟨_, rfl⟩
  have lA12 : A12.length = 25 := by rw [hA12, List.length_append]; simp only [hdn, hmn, hp1, hp2, hp3, hp4, hp5, hp6, lA0, lA1, lA2, lA3, lA4, lA5, lA6, lA7, lA8, lA9, lA10, lA11, List.length_cons, List.length_nil]
  have bA12 : binV .add (.str A11) (.str p6) = some (.str A12) := by rw [hA12]; exact bin_sadd (by simp only [hdn, hmn, hp1, hp2, hp3, hp4, hp5, hp6, lA0, lA1, lA2, lA3, lA4, lA5, lA6, lA7, lA8, lA9, lA10, lA11, List.length_cons, List.length_nil]; omega)
  obtain ⟨A13, hA13⟩ : ∃ A : Bs, A = A12 ++ [32, 71, 77, 84] := ⟨_, rfl⟩
  have lA13 : A13.length = 29 := by rw [hA13, List.length_append]; simp only [hdn, hmn, hp1, hp2, hp3, hp4, hp5, hp6, lA0, lA1, lA2, lA3, lA4, lA5, lA6, lA7, lA8, lA9, lA10, lA11, lA12, List.length_cons, List.length_nil]
  have bA13 : binV .add (.str A12) (.str [32, 71, 77, 84]) = some (.str A13) := by rw [hA13]; exact bin_sadd (by simp only [hdn, hmn, hp1, hp2, hp3, hp4, hp5, hp6, lA0, lA1, lA2, lA3, lA4, lA5, lA6, lA7, lA8, lA9, lA10, lA11, lA12, List.length_cons, List.length_nil]; omega)
  have eF : fs = A13 := by rw [hF, hA13, hA12, hA11, hA10, hA9, hA8, hA7, hA6, hA5, hA4, hA3, hA2, hA1, hA0]; simp only [List.append_assoc]
  subst eF
  simp (maxSteps := 4000000) only [vm, vl, Arg.get, cells, stor, boundO, resultsV, resV, partK, loadV, Vm.part, fillC, splice, reduceIte, reduceCtorEq, Nat.reduceEqDiff, Nat.reduceAdd, Nat.reduceSub, Nat.reduceMul, Nat.reduceLeDiff, ne_eq, not_false_eq_true, Int.reduceEq, Int.reduceLT, Int.reduceLE, Int.reduceNeg, Int.reduceToNat, Int.reduceGT, Int.reduceGE, Nat.reduceLT, Nat.lt_add_one, Nat.zero_lt_succ, Nat.succ_pos, Nat.zero_le, beq_self_eq_true, k_gatepostref02_Format_0, civV, bin_quo, bin_rem, q3, q4, q5, q6, q7, q8, q9, qa, qb, r1, r2, z1, z2, i0, i1, hw7, hmi12, bA0, bA1, bA2, bA3, bA4, bA5, bA6, bA7, bA8, bA9, bA10, bA11, bA12, bA13]
  refine Cf.pu (S1 _) fun v0 => ?_
  try simp (maxSteps := 4000000) only [vm, vl, Arg.get, cells, stor, boundO, resultsV, resV, partK, loadV, Vm.part, fillC, splice, reduceIte, reduceCtorEq, Nat.reduceEqDiff, Nat.reduceAdd, Nat.reduceSub, Nat.reduceMul, Nat.reduceLeDiff, ne_eq, not_false_eq_true, Int.reduceEq, Int.reduceLT, Int.reduceLE, Int.reduceNeg, Int.reduceToNat, Int.reduceGT, Int.reduceGE, Nat.reduceLT, Nat.lt_add_one, Nat.zero_lt_succ, Nat.succ_pos, Nat.zero_le, beq_self_eq_true, k_gatepostref02_Format_0, civV, bin_quo, bin_rem, q3, q4, q5, q6, q7, q8, q9, qa, qb, r1, r2, z1, z2, i0, i1, hw7, hmi12, bA0, bA1, bA2, bA3, bA4, bA5, bA6, bA7, bA8, bA9, bA10, bA11, bA12, bA13]
  refine Cf.pu (P1 _) fun v1 => ?_
  try simp (maxSteps := 4000000) only [vm, vl, Arg.get, cells, stor, boundO, resultsV, resV, partK, loadV, Vm.part, fillC, splice, reduceIte, reduceCtorEq, Nat.reduceEqDiff, Nat.reduceAdd, Nat.reduceSub, Nat.reduceMul, Nat.reduceLeDiff, ne_eq, not_false_eq_true, Int.reduceEq, Int.reduceLT, Int.reduceLE, Int.reduceNeg, Int.reduceToNat, Int.reduceGT, Int.reduceGE, Nat.reduceLT, Nat.lt_add_one, Nat.zero_lt_succ, Nat.succ_pos, Nat.zero_le, beq_self_eq_true, k_gatepostref02_Format_0, civV, bin_quo, bin_rem, q3, q4, q5, q6, q7, q8, q9, qa, qb, r1, r2, z1, z2, i0, i1, hw7, hmi12, bA0, bA1, bA2, bA3, bA4, bA5, bA6, bA7, bA8, bA9, bA10, bA11, bA12, bA13]
  refine Cf.pu (S2 _) fun v2 => ?_
  try simp (maxSteps := 4000000) only [vm, vl, Arg.get, cells, stor, boundO, resultsV, resV, partK, loadV, Vm.part, fillC, splice, reduceIte, reduceCtorEq, Nat.reduceEqDiff, Nat.reduceAdd, Nat.reduceSub, Nat.reduceMul, Nat.reduceLeDiff, ne_eq, not_false_eq_true, Int.reduceEq, Int.reduceLT, Int.reduceLE, Int.reduceNeg, Int.reduceToNat, Int.reduceGT, Int.reduceGE, Nat.reduceLT, Nat.lt_add_one, Nat.zero_lt_succ, Nat.succ_pos, Nat.zero_le, beq_self_eq_true, k_gatepostref02_Format_0, civV, bin_quo, bin_rem, q3, q4, q5, q6, q7, q8, q9, qa, qb, r1, r2, z1, z2, i0, i1, hw7, hmi12, bA0, bA1, bA2, bA3, bA4, bA5, bA6, bA7, bA8, bA9, bA10, bA11, bA12, bA13]
  refine Cf.pu (P2 _) fun v3 => ?_
  try simp (maxSteps := 4000000) only [vm, vl, Arg.get, cells, stor, boundO, resultsV, resV, partK, loadV, Vm.part, fillC, splice, reduceIte, reduceCtorEq, Nat.reduceEqDiff, Nat.reduceAdd, Nat.reduceSub, Nat.reduceMul, Nat.reduceLeDiff, ne_eq, not_false_eq_true, Int.reduceEq, Int.reduceLT, Int.reduceLE, Int.reduceNeg, Int.reduceToNat, Int.reduceGT, Int.reduceGE, Nat.reduceLT, Nat.lt_add_one, Nat.zero_lt_succ, Nat.succ_pos, Nat.zero_le, beq_self_eq_true, k_gatepostref02_Format_0, civV, bin_quo, bin_rem, q3, q4, q5, q6, q7, q8, q9, qa, qb, r1, r2, z1, z2, i0, i1, hw7, hmi12, bA0, bA1, bA2, bA3, bA4, bA5, bA6, bA7, bA8, bA9, bA10, bA11, bA12, bA13]
  refine Cf.pu (P3 _) fun v4 => ?_
  try simp (maxSteps := 4000000) only [vm, vl, Arg.get, cells, stor, boundO, resultsV, resV, partK, loadV, Vm.part, fillC, splice, reduceIte, reduceCtorEq, Nat.reduceEqDiff, Nat.reduceAdd, Nat.reduceSub, Nat.reduceMul, Nat.reduceLeDiff, ne_eq, not_false_eq_true, Int.reduceEq, Int.reduceLT, Int.reduceLE, Int.reduceNeg, Int.reduceToNat, Int.reduceGT, Int.reduceGE, Nat.reduceLT, Nat.lt_add_one, Nat.zero_lt_succ, Nat.succ_pos, Nat.zero_le, beq_self_eq_true, k_gatepostref02_Format_0, civV, bin_quo, bin_rem, q3, q4, q5, q6, q7, q8, q9, qa, qb, r1, r2, z1, z2, i0, i1, hw7, hmi12, bA0, bA1, bA2, bA3, bA4, bA5, bA6, bA7, bA8, bA9, bA10, bA11, bA12, bA13]
  refine Cf.pu (P4 _) fun v5 => ?_
  try simp (maxSteps := 4000000) only [vm, vl, Arg.get, cells, stor, boundO, resultsV, resV, partK, loadV, Vm.part, fillC, splice, reduceIte, reduceCtorEq, Nat.reduceEqDiff, Nat.reduceAdd, Nat.reduceSub, Nat.reduceMul, Nat.reduceLeDiff, ne_eq, not_false_eq_true, Int.reduceEq, Int.reduceLT, Int.reduceLE, Int.reduceNeg, Int.reduceToNat, Int.reduceGT, Int.reduceGE, Nat.reduceLT, Nat.lt_add_one, Nat.zero_lt_succ, Nat.succ_pos, Nat.zero_le, beq_self_eq_true, k_gatepostref02_Format_0, civV, bin_quo, bin_rem, q3, q4, q5, q6, q7, q8, q9, qa, qb, r1, r2, z1, z2, i0, i1, hw7, hmi12, bA0, bA1, bA2, bA3, bA4, bA5, bA6, bA7, bA8, bA9, bA10, bA11, bA12, bA13]
  refine Cf.pu (P5 _) fun v6 => ?_
  try simp (maxSteps := 4000000) only [vm, vl, Arg.get, cells, stor, boundO, resultsV, resV, partK, loadV, Vm.part, fillC, splice, reduceIte, reduceCtorEq, Nat.reduceEqDiff, Nat.reduceAdd, Nat.reduceSub, Nat.reduceMul, Nat.reduceLeDiff, ne_eq, not_false_eq_true, Int.reduceEq, Int.reduceLT, Int.reduceLE, Int.reduceNeg, Int.reduceToNat, Int.reduceGT, Int.reduceGE, Nat.reduceLT, Nat.lt_add_one, Nat.zero_lt_succ, Nat.succ_pos, Nat.zero_le, beq_self_eq_true, k_gatepostref02_Format_0, civV, bin_quo, bin_rem, q3, q4, q5, q6, q7, q8, q9, qa, qb, r1, r2, z1, z2, i0, i1, hw7, hmi12, bA0, bA1, bA2, bA3, bA4, bA5, bA6, bA7, bA8, bA9, bA10, bA11, bA12, bA13]
  refine Cf.pu (P6 _) fun v7 => ?_
  try simp (maxSteps := 4000000) only [vm, vl, Arg.get, cells, stor, boundO, resultsV, resV, partK, loadV, Vm.part, fillC, splice, reduceIte, reduceCtorEq, Nat.reduceEqDiff, Nat.reduceAdd, Nat.reduceSub, Nat.reduceMul, Nat.reduceLeDiff, ne_eq, not_false_eq_true, Int.reduceEq, Int.reduceLT, Int.reduceLE, Int.reduceNeg, Int.reduceToNat, Int.reduceGT, Int.reduceGE, Nat.reduceLT, Nat.lt_add_one, Nat.zero_lt_succ, Nat.succ_pos, Nat.zero_le, beq_self_eq_true, k_gatepostref02_Format_0, civV, bin_quo, bin_rem, q3, q4, q5, q6, q7, q8, q9, qa, qb, r1, r2, z1, z2, i0, i1, hw7, hmi12, bA0, bA1, bA2, bA3, bA4, bA5, bA6, bA7, bA8, bA9, bA10, bA11, bA12, bA13]
theorem RFormat_ok {sec : Int} : Cf F L i_gatepostref02_Format [.int .i64 sec] h (Pu h (.str (fmtS (if 0 ≤ sec ∧ sec / 86400 ≤ 2932896 then sec else 0)))) := by
  refine run_gatepostref02_Format ?_
  simp only [p_gatepostref02_Format]
  
  by_cases h0 : sec < 0
  · rw [if_neg (by omega)]
    simp (maxSteps := 4000000) only [vm, vl, Arg.get, cells, stor, boundO, resultsV, resV, partK, loadV, Vm.part, fillC, splice, reduceIte, reduceCtorEq, Nat.reduceEqDiff, Nat.reduceAdd, Nat.reduceSub, Nat.reduceMul, Nat.reduceLeDiff, ne_eq, not_false_eq_true, Int.reduceEq, Int.reduceLT, Int.reduceLE, Int.reduceNeg, Int.reduceToNat, Int.reduceGT, Int.reduceGE, Nat.reduceLT, Nat.lt_add_one, Nat.zero_lt_succ, Nat.succ_pos, Nat.zero_le, beq_self_eq_true, h0, decide_true]
    exact Rfmt0_ok (by omega) (by omega)
  by_cases h1 : sec ≥ 253402300800
  · rw [if_neg (by omega)]
    simp (maxSteps := 4000000) only [vm, vl, Arg.get, cells, stor, boundO, resultsV, resV, partK, loadV, Vm.part, fillC, splice, reduceIte, reduceCtorEq, Nat.reduceEqDiff, Nat.reduceAdd, Nat.reduceSub, Nat.reduceMul, Nat.reduceLeDiff, ne_eq, not_false_eq_true, Int.reduceEq, Int.reduceLT, Int.reduceLE, Int.reduceNeg, Int.reduceToNat, Int.reduceGT, Int.reduceGE, Nat.reduceLT, Nat.lt_add_one, Nat.zero_lt_succ, Nat.succ_pos, Nat.zero_le, beq_self_eq_true, h0, h1, decide_true, decide_false]
    exact Rfmt0_ok (by omega) (by omega)
  · rw [if_pos (by omega)]
    simp (maxSteps := 4000000) only [vm, vl, Arg.get, cells, stor, boundO, resultsV, resV, partK, loadV, Vm.part, fillC, splice, reduceIte, reduceCtorEq, Nat.reduceEqDiff, Nat.reduceAdd, Nat.reduceSub, Nat.reduceMul, Nat.reduceLeDiff, ne_eq, not_false_eq_true, Int.reduceEq, Int.reduceLT, Int.reduceLE, Int.reduceNeg, Int.reduceToNat, Int.reduceGT, Int.reduceGE, Nat.reduceLT, Nat.lt_add_one, Nat.zero_lt_succ, Nat.succ_pos, Nat.zero_le, beq_self_eq_true, h0, h1, decide_true, decide_false]
    exact Rfmt0_ok (by omega) (by omega)
end Go.Proofs.YtdgklgeddbfeaaaDoor.Vh
