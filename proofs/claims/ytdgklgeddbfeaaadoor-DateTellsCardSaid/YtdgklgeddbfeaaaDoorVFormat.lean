/- Package date's pad and Format on the small machine. -/
import Derived.Test.YtdgklgeddbfeaaaDoorTok
import Derived.Test.YtdgklgeddbfeaaaDoorVDate
import Derived.Test.YtdgklgeddbfeaaaDoorVItoa
set_option linter.unusedVariables false
set_option linter.unusedSimpArgs false
namespace Go.Proofs.YtdgklgeddbfeaaaDoor.Vh
open Go.Vm Go.Vt
attribute [local congr] wi_congr wg_congr wgd_congr wb_congr wl_congr cf_congr
variable {L : FuncId → List V → V → Prop} {h : Heap}

def dayLs : List Bs := [[77, 111, 110, 100, 97, 121], [84, 117, 101, 115, 100, 97, 121], [87, 101, 100, 110, 101, 115, 100, 97, 121], [84, 104, 117, 114, 115, 100, 97, 121], [70, 114, 105, 100, 97, 121], [83, 97, 116, 117, 114, 100, 97, 121], [83, 117, 110, 100, 97, 121]]
def monLs : List Bs := [[74, 97, 110], [70, 101, 98], [77, 97, 114], [65, 112, 114], [77, 97, 121], [74, 117, 110], [74, 117, 108], [65, 117, 103], [83, 101, 112], [79, 99, 116], [78, 111, 118], [68, 101, 99]]
theorem longDays_ok : Cf F L i_date_longDays [] h (Pu h (.agg (dayLs.map .str))) := by
  refine run_date_longDays ?_
  simp only [p_date_longDays]
  simp (maxSteps := 4000000) only [vm, vl, Arg.get, cells, stor, boundO, resultsV, resV, partK, loadV, Vm.part, fillC, splice, reduceIte, reduceCtorEq, Nat.reduceEqDiff, Nat.reduceAdd, Nat.reduceSub, Nat.reduceMul, Nat.reduceLeDiff, ne_eq, not_false_eq_true, Int.reduceEq, Int.reduceLT, Int.reduceLE, Int.reduceNeg, Int.reduceToNat, Int.reduceGT, Int.reduceGE, Nat.reduceLT, Nat.lt_add_one, Nat.zero_lt_succ, Nat.succ_pos, Nat.zero_le, beq_self_eq_true]
  rfl
theorem monthNames_ok : Cf F L i_date_monthNames [] h (Pu h (.agg (monLs.map .str))) := by
  refine run_date_monthNames ?_
  simp only [p_date_monthNames]
  simp (maxSteps := 4000000) only [vm, vl, Arg.get, cells, stor, boundO, resultsV, resV, partK, loadV, Vm.part, fillC, splice, reduceIte, reduceCtorEq, Nat.reduceEqDiff, Nat.reduceAdd, Nat.reduceSub, Nat.reduceMul, Nat.reduceLeDiff, ne_eq, not_false_eq_true, Int.reduceEq, Int.reduceLT, Int.reduceLE, Int.reduceNeg, Int.reduceToNat, Int.reduceGT, Int.reduceGE, Nat.reduceLT, Nat.lt_add_one, Nat.zero_lt_succ, Nat.succ_pos, Nat.zero_le, beq_self_eq_true]
  rfl
def padS (s : Bs) (k : Nat) : Bs := List.replicate (k - s.length) 48 ++ s
theorem padS_step {s : Bs} {k : Nat} (h : s.length < k) : padS (48 :: s) k = padS s k := by
  unfold padS
  obtain ⟨m, hm⟩ : ∃ m, k - s.length = m + 1 := ⟨k - s.length - 1, by omega⟩
  rw [hm, List.length_cons, show k - (s.length + 1) = m by omega, List.replicate_succ']
  simp
theorem padS_done {s : Bs} {k : Nat} (h : k ≤ s.length) : padS s k = s := by
  unfold padS
  rw [show k - s.length = 0 by omega]; rfl
theorem pad_ok (HI : ItoaOk L) {n : Int} {k : Nat} (h0 : -9223372036854775808 ≤ n) (h1 : n ≤ 9223372036854775807) (hk : k ≤ 100) (hl : (Go.Lib.itoa n).length ≤ 100) : Cf F L i_date_pad [.int .i64 n, .int .i64 k] h (Pu h (.str (padS (Go.Lib.itoa n) k))) := by
  refine run_date_pad ?_
  simp only [p_date_pad]
  refine Cf.pu (HI h0 h1) fun t => ?_
  generalize Go.Lib.itoa n = s0 at *
  refine l_date_pad_0 (fun m e h' => ∃ x : Bs, m = k - x.length ∧ x.length ≤ 100 + k ∧ e 1 = .int .i64 k ∧ e 5 = .str x ∧ padS x k = padS s0 k ∧ ∃ t, h' = h ++ t) ?_ (n := k - s0.length) ⟨s0, rfl, by omega, rfl, rfl, rfl, t, rfl⟩
  rintro m e h' ⟨x, rfl, hx, e1, e5, hp, t, rfl⟩
  simp only [b_date_pad_0]
  by_cases hc : x.length < k
  · have hc' : (x.length : Int) < k := by omega
    have a : binV .add (.str [48]) (.str x) = some (.str (48 :: x)) := bin_sadd (by simp; omega)
    simp (maxSteps := 4000000) only [vm, vl, Arg.get, cells, stor, boundO, resultsV, resV, partK, loadV, Vm.part, fillC, splice, reduceIte, reduceCtorEq, Nat.reduceEqDiff, Nat.reduceAdd, Nat.reduceSub, Nat.reduceMul, Nat.reduceLeDiff, ne_eq, not_false_eq_true, Int.reduceEq, Int.reduceLT, Int.reduceLE, Int.reduceNeg, Int.reduceToNat, Int.reduceGT, Int.reduceGE, Nat.reduceLT, Nat.lt_add_one, Nat.zero_lt_succ, Nat.succ_pos, Nat.zero_le, beq_self_eq_true, k_date_pad_0, k_date_pad_1, e1, e5, hc', a]
    exact ⟨k - (48 :: x).length, by simp only [List.length_cons]; omega, 48 :: x, rfl, by simp only [List.length_cons]; omega, rfl, by rw [padS_step hc, hp], t, rfl⟩
  · have hc' : ¬ (x.length : Int) < k := by omega
    simp (maxSteps := 4000000) only [vm, vl, Arg.get, cells, stor, boundO, resultsV, resV, partK, loadV, Vm.part, fillC, splice, reduceIte, reduceCtorEq, Nat.reduceEqDiff, Nat.reduceAdd, Nat.reduceSub, Nat.reduceMul, Nat.reduceLeDiff, ne_eq, not_false_eq_true, Int.reduceEq, Int.reduceLT, Int.reduceLE, Int.reduceNeg, Int.reduceToNat, Int.reduceGT, Int.reduceGE, Nat.reduceLT, Nat.lt_add_one, Nat.zero_lt_succ, Nat.succ_pos, Nat.zero_le, beq_self_eq_true, k_date_pad_0, k_date_pad_1, e1, e5, hc']
    rw [← hp, padS_done (by omega)]
def two (n : Nat) : Bs := [UInt8.ofNat (48 + n / 10), UInt8.ofNat (48 + n % 10)]
theorem itoa_nat (n : Nat) : Go.Lib.itoa (n : Int) = Go.Lib.decDigits n := by
  unfold Go.Lib.itoa
  rw [if_neg (by omega)]; rfl
theorem itoa_two {n : Nat} (h : n < 100) : padS (Go.Lib.itoa (n : Int)) 2 = two n ∧ (Go.Lib.itoa (n : Int)).length ≤ 100 := by
  rw [itoa_nat]
  by_cases h1 : n < 10
  · rw [Go.Lib.decDigits_one h1]
    refine ⟨?_, by simp⟩
    unfold padS two
    rw [show n / 10 = 0 by omega, show n % 10 = n by omega]; rfl
  · rw [Go.Lib.decDigits_two h1 h]
    exact ⟨rfl, by simp⟩
theorem decDigits_step {n : Nat} (h : 10 ≤ n) : Go.Lib.decDigits n = Go.Lib.decDigits (n / 10) ++ [UInt8.ofNat (48 + n % 10)] := by
  rw [Go.Lib.decDigits, dif_neg (by omega)]
theorem itoa_four {n : Nat} (h0 : 1000 ≤ n) (h1 : n < 10000) : padS (Go.Lib.itoa (n : Int)) 4 = two (n / 100) ++ two (n % 100) ∧ (Go.Lib.itoa (n : Int)).length ≤ 100 := by
  rw [itoa_nat, decDigits_step (by omega), decDigits_step (n := n / 10) (by omega), Go.Lib.decDigits_two (i := n / 10 / 10) (by omega) (by omega)]
  refine ⟨?_, by simp⟩
  unfold two padS
  rw [show n / 10 / 10 = n / 100 by omega, show n / 10 % 10 = n % 100 / 10 by omega, show n % 100 % 10 = n % 10 by omega]
  rfl
def fmtS (sec : Int) : Bs :=
  let t := civilS (sec / 86400)
  let c := sec % 86400
  (dayLs.getD ((sec / 86400 + 3) % 7).toNat []).take 3 ++ [44, 32] ++ two t.2.2.toNat ++ [32] ++ monLs.getD (t.2.1 - 1).toNat [] ++ [32] ++ (two (t.1.toNat / 100) ++ two (t.1.toNat % 100)) ++ [32] ++ two (c / 3600).toNat ++ [58] ++ two (c / 60 % 60).toNat ++ [58] ++ two (c % 60).toNat ++ [32, 71, 77, 84]
theorem day3 : ∀ w, w < 7 → 3 ≤ (dayLs.getD w []).length ∧ ((dayLs.getD w []).take 3).length = 3 := by decide
theorem mon3 : ∀ w, w < 12 → (monLs.getD w []).length = 3 := by decide
theorem aggstr_at {l : List Bs} {i : Nat} (hi : i < l.length) : (l.map V.str).getD i (.tup []) = .str (l.getD i []) := by
  rw [List.getD_eq_getElem?_getD, List.getD_eq_getElem?_getD, List.getElem?_map, List.getElem?_eq_getElem hi]; rfl
theorem fmt0_ok (HI : ItoaOk L) {sec : Int} (h0 : 0 ≤ sec) (h1 : sec / 86400 ≤ 2932896) : k_date_Format_0 L (Pu h (.str (fmtS sec))) (.int .i64 sec) h := by
  
  obtain ⟨y, m, d, hc, y0, y1, m0, m1, d0, d1, _⟩ := civil_ok (sec / 86400) (by omega) h1
  have d2 := dim_le y m
  have ha : civA (sec / 86400) = (y, m, d) := by rw [civA, if_pos ⟨by omega, h1⟩, hc]
  have q1 : IntKind.i64.wrap (sec.tdiv 86400) = sec / 86400 := wdiv h0 (by omega) (by omega)
  have q2 : sec.tmod 86400 = sec % 86400 := tmod_nn h0
  have hcc := Cf.pu (F := F) (L := L) (h := h) (K := fun v h' => v = civV (y, m, d) ∧ ∃ t, h' = h ++ t) (by rw [← ha]; exact Civil_ok) fun t => ⟨rfl, t, rfl⟩
  have hF : fmtS sec = (dayLs.getD ((sec / 86400 + 3) % 7).toNat []).take 3 ++ [44, 32] ++ two d.toNat ++ [32] ++ monLs.getD (m - 1).toNat [] ++ [32] ++ (two (y.toNat / 100) ++ two (y.toNat % 100)) ++ [32] ++ two (sec % 86400 / 3600).toNat ++ [58] ++ two (sec % 86400 / 60 % 60).toNat ++ [58] ++ two (sec % 86400 % 60).toNat ++ [32, 71, 77, 84] := by
    unfold fmtS
    simp only [hc]
  generalize fmtS sec = fs at *
  simp (maxSteps := 4000000) only [vm, vl, Arg.get, cells, stor, boundO, resultsV, resV, partK, loadV, Vm.part, fillC, splice, reduceIte, reduceCtorEq, Nat.reduceEqDiff, Nat.reduceAdd, Nat.reduceSub, Nat.reduceMul, Nat.reduceLeDiff, ne_eq, not_false_eq_true, Int.reduceEq, Int.reduceLT, Int.reduceLE, Int.reduceNeg, Int.reduceToNat, Int.reduceGT, Int.reduceGE, Nat.reduceLT, Nat.lt_add_one, Nat.zero_lt_succ, Nat.succ_pos, Nat.zero_le, beq_self_eq_true, k_date_Format_0, bin_quo, bin_rem, q1, q2]
  refine Cf.pu Civil_ok fun t => ?_
  rw [ha]
  have dd0 : 0 ≤ sec / 86400 := by omega
  have c0 : 0 ≤ sec % 86400 := by omega
  have c1 : sec % 86400 < 86400 := by omega
  generalize sec % 86400 = c at *
  generalize sec / 86400 = day at *
  obtain ⟨w, hw, hw7⟩ : ∃ w : Nat, (day + 3) % 7 = w ∧ w < 7 := ⟨((day + 3) % 7).toNat, by omega, by omega⟩
  obtain ⟨mi, hmi, hmi12⟩ : ∃ i : Nat, m = (i : Int) + 1 ∧ i < 12 := ⟨(m - 1).toNat, by omega, by omega⟩
  obtain ⟨yn, rfl⟩ : ∃ n : Nat, y = n := ⟨y.toNat, by omega⟩
  obtain ⟨dn', rfl⟩ : ∃ n : Nat, d = n := ⟨d.toNat, by omega⟩
  obtain ⟨ch, hch⟩ : ∃ n : Nat, c / 3600 = n := ⟨(c / 3600).toNat, by omega⟩
  obtain ⟨cm, hcm⟩ : ∃ n : Nat, c / 60 % 60 = n := ⟨(c / 60 % 60).toNat, by omega⟩
  obtain ⟨cs, hcs⟩ : ∃ n : Nat, c % 60 = n := ⟨(c % 60).toNat, by omega⟩
  have q3 : IntKind.i64.wrap (day + 3) = day + 3 := wrap64 (by omega) (by omega)
  have q4 : (day + 3).tmod 7 = (w : Int) := by rw [tmod_nn (by omega), hw]
  have q5 : IntKind.i64.wrap (m - 1) = (mi : Int) := by rw [wrap64 (by omega) (by omega)]; omega
  have q6 : IntKind.i64.wrap (c.tdiv 3600) = (ch : Int) := by rw [wdiv c0 (by omega) (by omega), hch]
  have q7 : IntKind.i64.wrap (c.tdiv 60) = c / 60 := wdiv c0 (by omega) (by omega)
  have q8 : (c / 60).tmod 60 = (cm : Int) := by rw [tmod_nn (by omega), hcm]
  have q9 : c.tmod 60 = (cs : Int) := by rw [tmod_nn c0, hcs]
  obtain ⟨u1, u2⟩ := day3 w hw7
  have u3 := mon3 mi hmi12
  have r1 : (dayLs.map V.str).getD w (.tup []) = .str (dayLs.getD w []) := aggstr_at hw7
  have r2 : (monLs.map V.str).getD mi (.tup []) = .str (monLs.getD mi []) := aggstr_at hmi12
  have z1 : (dayLs.map V.str).length = 7 := rfl
  have z2 : (monLs.map V.str).length = 12 := rfl
  have i0 : (0 : Int) ≤ w := by omega
  have w7i : (w : Int) < 7 := by omega
  have w6 : w ≤ 6 := by omega
  have m7i : (mi : Int) < 12 := by omega
  have m6 : mi ≤ 11 := by omega
  have i1 : (0 : Int) ≤ mi := by omega
  obtain ⟨b1, l1⟩ := itoa_two (n := dn') (by omega)
  obtain ⟨b2, l2⟩ := itoa_four (n := yn) (by omega) (by omega)
  obtain ⟨b3, l3⟩ := itoa_two (n := ch) (by omega)
  obtain ⟨b4, l4⟩ := itoa_two (n := cm) (by omega)
  obtain ⟨b5, l5⟩ := itoa_two (n := cs) (by omega)
  have P1 : ∀ h, Cf F L i_date_pad [.int .i64 (dn' : Int), .int .i64 2] h (Pu h (.str (two dn'))) := fun h => by
    have := pad_ok (L := L) (h := h) HI (n := dn') (k := 2) (by omega) (by omega) (by omega) l1
    rw [b1] at this
    exact this
  have P2 : ∀ h, Cf F L i_date_pad [.int .i64 (yn : Int), .int .i64 4] h (Pu h (.str (two (yn / 100) ++ two (yn % 100)))) := fun h => by
    have := pad_ok (L := L) (h := h) HI (n := yn) (k := 4) (by omega) (by omega) (by omega) l2
    rw [b2] at this
    exact this
  have P3 : ∀ h, Cf F L i_date_pad [.int .i64 (ch : Int), .int .i64 2] h (Pu h (.str (two ch))) := fun h => by
    have := pad_ok (L := L) (h := h) HI (n := ch) (k := 2) (by omega) (by omega) (by omega) l3
    rw [b3] at this
    exact this
  have P4 : ∀ h, Cf F L i_date_pad [.int .i64 (cm : Int), .int .i64 2] h (Pu h (.str (two cm))) := fun h => by
    have := pad_ok (L := L) (h := h) HI (n := cm) (k := 2) (by omega) (by omega) (by omega) l4
    rw [b4] at this
    exact this
  have P5 : ∀ h, Cf F L i_date_pad [.int .i64 (cs : Int), .int .i64 2] h (Pu h (.str (two cs))) := fun h => by
    have := pad_ok (L := L) (h := h) HI (n := cs) (k := 2) (by omega) (by omega) (by omega) l5
    rw [b5] at this
    exact this
  have e1 : ((dn' : Int)).toNat = dn' := by omega
  have e2 : ((yn : Int)).toNat = yn := by omega
  have e3 : (m - 1).toNat = mi := by omega
  rw [hw, hch, hcm, hcs, e1, e2, e3, Int.toNat_natCast, Int.toNat_natCast, Int.toNat_natCast, Int.toNat_natCast] at hF
  have hp1 : (two dn').length = 2 := rfl
  have hp2 : (two (yn / 100) ++ two (yn % 100)).length = 4 := rfl
  have hp3 : (two ch).length = 2 := rfl
  have hp4 : (two cm).length = 2 := rfl
  have hp5 : (two cs).length = 2 := rfl
  generalize two dn' = p1 at *
  generalize two (yn / 100) ++ two (yn % 100) = p2 at *
  generalize two ch = p3 at *
  generalize two cm = p4 at *
  generalize two cs = p5 at *
  generalize hdl : dayLs.getD w [] = dl at *
  generalize hdn' : dl.take 3 = dn at *
  generalize monLs.getD mi [] = mn at *
  have hdn := u2
  have hmn := u3
  obtain ⟨A0, hA0⟩ : ∃ A : Bs, A = dn ++ [44, 32] := ⟨_, rfl⟩
  have lA0 : A0.length = 5 := by rw [hA0, List.length_append, hdn, show ([44, 32] : List UInt8).length = 2 from rfl]
  have a0 : binV .add (.str dn) (.str [44, 32]) = some (.str A0) := by rw [hA0]; exact bin_sadd (by rw [hdn, show ([44, 32] : List UInt8).length = 2 from rfl]; omega)
  obtain ⟨A1, hA1⟩ : ∃ A : Bs, A = A0 ++ p1 := ⟨_, rfl⟩
  have lA1 : A1.length = 7 := by rw [hA1, List.length_append, lA0, hp1]
  have a1 : binV .add (.str A0) (.str p1) = some (.str A1) := by rw [hA1]; exact bin_sadd (by rw [lA0, hp1]; omega)
  obtain ⟨A2, hA2⟩ : ∃ A : Bs, A = A1 ++ [32] := ⟨_, rfl⟩
  have lA2 : A2.length = 8 := by rw [hA2, List.length_append, lA1, show ([32] : List UInt8).length = 1 from rfl]
  have a2 : binV .add (.str A1) (.str [32]) = some (.str A2) := by rw [hA2]; exact bin_sadd (by rw [lA1, show ([32] : List UInt8).length = 1 from rfl]; omega)
  obtain ⟨A3, hA3⟩ : ∃ A : Bs, A = A2 ++ mn := ⟨_, rfl⟩
  have lA3 : A3.length = 11 := by rw [hA3, List.length_append, lA2, hmn]
  have a3 : binV .add (.str A2) (.str mn) = some (.str A3) := by rw [hA3]; exact bin_sadd (by rw [lA2, hmn]; omega)
  obtain ⟨A4, hA4⟩ : ∃ A : Bs, A = A3 ++ [32] := ⟨_, rfl⟩
  have lA4 : A4.length = 12 := by rw [hA4, List.length_append, lA3, show ([32] : List UInt8).length = 1 from rfl]
  have a4 : binV .add (.str A3) (.str [32]) = some (.str A4) := by rw [hA4]; exact bin_sadd (by rw [lA3, show ([32] : List UInt8).length = 1 from rfl]; omega)
  obtain ⟨A5, hA5⟩ : ∃ A : Bs, A = A4 ++ p2 := ⟨_, rfl⟩
  have lA5 : A5.length = 16 := by rw [hA5, List.length_append, lA4, hp2]
  have a5 : binV .add (.str A4) (.str p2) = some (.str A5) := by rw [hA5]; exact bin_sadd (by rw [lA4, hp2]; omega)
  obtain ⟨A6, hA6⟩ : ∃ A : Bs, A = A5 ++ [32] := ⟨_, rfl⟩
  have lA6 : A6.length = 17 := by rw [hA6, List.length_append, lA5, show ([32] : List UInt8).length = 1 from rfl]
  have a6 : binV .add (.str A5) (.str [32]) = some (.str A6) := by rw [hA6]; exact bin_sadd (by rw [lA5, show ([32] : List UInt8).length = 1 from rfl]; omega)
  obtain ⟨A7, hA7⟩ : ∃ A : Bs, A = A6 ++ p3 := ⟨_, rfl⟩
  have lA7 : A7.length = 19 := by rw [hA7, List.length_append, lA6, hp3]
  have a7 : binV .add (.str A6) (.str p3) = some (.str A7) := by rw [hA7]; exact bin_sadd (by rw [lA6, hp3]; omega)
  obtain ⟨A8, hA8⟩ : ∃ A : Bs, A = A7 ++ [58] := ⟨_, rfl⟩
  have lA8 : A8.length = 20 := by rw [hA8, List.length_append, lA7, show ([58] : List UInt8).length = 1 from rfl]
  have a8 : binV .add (.str A7) (.str [58]) = some (.str A8) := by rw [hA8]; exact bin_sadd (by rw [lA7, show ([58] : List UInt8).length = 1 from rfl]; omega)
  obtain ⟨A9, hA9⟩ : ∃ A : Bs, A = A8 ++ p4 := ⟨_, rfl⟩
  have lA9 : A9.length = 22 := by rw [hA9, List.length_append, lA8, hp4]
  have a9 : binV .add (.str A8) (.str p4) = some (.str A9) := by rw [hA9]; exact bin_sadd (by rw [lA8, hp4]; omega)
  obtain ⟨A10, hA10⟩ : ∃ A : Bs, A = A9 ++ [58] := ⟨_, rfl⟩
  have lA10 : A10.length = 23 := by rw [hA10, List.length_append, lA9, show ([58] : List UInt8).length = 1 from rfl]
  have a10 : binV .add (.str A9) (.str [58]) = some (.str A10) := by rw [hA10]; exact bin_sadd (by rw [lA9, show ([58] : List UInt8).length = 1 from rfl]; omega)
  obtain ⟨A11, hA11⟩ : ∃ A : Bs, A = A10 ++ p5 := ⟨_, rfl⟩
  have lA11 : A11.length = 25 := by rw [hA11, List.length_append, lA10, hp5]
  have a11 : binV .add (.str A10) (.str p5) = some (.str A11) := by rw [hA11]; exact bin_sadd (by rw [lA10, hp5]; omega)
  obtain ⟨A12, hA12⟩ : ∃ A : Bs, A = A11 ++ [32, 71, 77, 84] := ⟨_, rfl⟩
  have lA12 : A12.length = 29 := by rw [hA12, List.length_append, lA11, show ([32, 71, 77, 84] : List UInt8).length = 4 from rfl]
  have a12 : binV .add (.str A11) (.str [32, 71, 77, 84]) = some (.str A12) := by rw [hA12]; exact bin_sadd (by rw [lA11, show ([32, 71, 77, 84] : List UInt8).length = 4 from rfl]; omega)
  rw [show dn ++ [44, 32] ++ p1 ++ [32] ++ mn ++ [32] ++ p2 ++ [32] ++ p3 ++ [58] ++ p4 ++ [58] ++ p5 ++ [32, 71, 77, 84] = A12 from by rw [hA12, hA11, hA10, hA9, hA8, hA7, hA6, hA5, hA4, hA3, hA2, hA1, hA0]] at hF
  subst hF
  simp only [civV]
  simp (maxSteps := 4000000) only [vm, vl, Arg.get, cells, stor, boundO, resultsV, resV, partK, loadV, Vm.part, fillC, splice, reduceIte, reduceCtorEq, Nat.reduceEqDiff, Nat.reduceAdd, Nat.reduceSub, Nat.reduceMul, Nat.reduceLeDiff, ne_eq, not_false_eq_true, Int.reduceEq, Int.reduceLT, Int.reduceLE, Int.reduceNeg, Int.reduceToNat, Int.reduceGT, Int.reduceGE, Nat.reduceLT, Nat.lt_add_one, Nat.zero_lt_succ, Nat.succ_pos, Nat.zero_le, beq_self_eq_true, k_date_Format_0, bin_quo, bin_rem, q1, q2]
  refine Cf.pu longDays_ok fun t1 => ?_
  generalize dayLs.map V.str = dvs at *
  simp (maxSteps := 4000000) only [vm, vl, Arg.get, cells, stor, boundO, resultsV, resV, partK, loadV, Vm.part, fillC, splice, reduceIte, reduceCtorEq, Nat.reduceEqDiff, Nat.reduceAdd, Nat.reduceSub, Nat.reduceMul, Nat.reduceLeDiff, ne_eq, not_false_eq_true, Int.reduceEq, Int.reduceLT, Int.reduceLE, Int.reduceNeg, Int.reduceToNat, Int.reduceGT, Int.reduceGE, Nat.reduceLT, Nat.lt_add_one, Nat.zero_lt_succ, Nat.succ_pos, Nat.zero_le, beq_self_eq_true, k_date_Format_0, bin_quo, bin_rem, q3, q4, r1, z1, i0, w7i, w6, Int.toNat_natCast, u1, List.drop_zero, hdn', a0]
  refine Cf.pu (P1 _) fun t2 => ?_
  simp (maxSteps := 4000000) only [vm, vl, Arg.get, cells, stor, boundO, resultsV, resV, partK, loadV, Vm.part, fillC, splice, reduceIte, reduceCtorEq, Nat.reduceEqDiff, Nat.reduceAdd, Nat.reduceSub, Nat.reduceMul, Nat.reduceLeDiff, ne_eq, not_false_eq_true, Int.reduceEq, Int.reduceLT, Int.reduceLE, Int.reduceNeg, Int.reduceToNat, Int.reduceGT, Int.reduceGE, Nat.reduceLT, Nat.lt_add_one, Nat.zero_lt_succ, Nat.succ_pos, Nat.zero_le, beq_self_eq_true, k_date_Format_0, a1, a2]
  refine Cf.pu monthNames_ok fun t3 => ?_
  generalize monLs.map V.str = mvs at *
  simp (maxSteps := 4000000) only [vm, vl, Arg.get, cells, stor, boundO, resultsV, resV, partK, loadV, Vm.part, fillC, splice, reduceIte, reduceCtorEq, Nat.reduceEqDiff, Nat.reduceAdd, Nat.reduceSub, Nat.reduceMul, Nat.reduceLeDiff, ne_eq, not_false_eq_true, Int.reduceEq, Int.reduceLT, Int.reduceLE, Int.reduceNeg, Int.reduceToNat, Int.reduceGT, Int.reduceGE, Nat.reduceLT, Nat.lt_add_one, Nat.zero_lt_succ, Nat.succ_pos, Nat.zero_le, beq_self_eq_true, k_date_Format_0, q5, r2, z2, i1, m7i, m6, Int.toNat_natCast, a3, a4]
  refine Cf.pu (P2 _) fun t4 => ?_
  simp (maxSteps := 4000000) only [vm, vl, Arg.get, cells, stor, boundO, resultsV, resV, partK, loadV, Vm.part, fillC, splice, reduceIte, reduceCtorEq, Nat.reduceEqDiff, Nat.reduceAdd, Nat.reduceSub, Nat.reduceMul, Nat.reduceLeDiff, ne_eq, not_false_eq_true, Int.reduceEq, Int.reduceLT, Int.reduceLE, Int.reduceNeg, Int.reduceToNat, Int.reduceGT, Int.reduceGE, Nat.reduceLT, Nat.lt_add_one, Nat.zero_lt_succ, Nat.succ_pos, Nat.zero_le, beq_self_eq_true, k_date_Format_0, a5, a6, bin_quo, bin_rem, q6]
  refine Cf.pu (P3 _) fun t5 => ?_
  simp (maxSteps := 4000000) only [vm, vl, Arg.get, cells, stor, boundO, resultsV, resV, partK, loadV, Vm.part, fillC, splice, reduceIte, reduceCtorEq, Nat.reduceEqDiff, Nat.reduceAdd, Nat.reduceSub, Nat.reduceMul, Nat.reduceLeDiff, ne_eq, not_false_eq_true, Int.reduceEq, Int.reduceLT, Int.reduceLE, Int.reduceNeg, Int.reduceToNat, Int.reduceGT, Int.reduceGE, Nat.reduceLT, Nat.lt_add_one, Nat.zero_lt_succ, Nat.succ_pos, Nat.zero_le, beq_self_eq_true, k_date_Format_0, a7, a8, bin_quo, bin_rem, q7, q8]
  refine Cf.pu (P4 _) fun t6 => ?_
  simp (maxSteps := 4000000) only [vm, vl, Arg.get, cells, stor, boundO, resultsV, resV, partK, loadV, Vm.part, fillC, splice, reduceIte, reduceCtorEq, Nat.reduceEqDiff, Nat.reduceAdd, Nat.reduceSub, Nat.reduceMul, Nat.reduceLeDiff, ne_eq, not_false_eq_true, Int.reduceEq, Int.reduceLT, Int.reduceLE, Int.reduceNeg, Int.reduceToNat, Int.reduceGT, Int.reduceGE, Nat.reduceLT, Nat.lt_add_one, Nat.zero_lt_succ, Nat.succ_pos, Nat.zero_le, beq_self_eq_true, k_date_Format_0, a9, a10, bin_quo, bin_rem, q9]
  refine Cf.pu (P5 _) fun t7 => ?_
  simp (maxSteps := 4000000) only [vm, vl, Arg.get, cells, stor, boundO, resultsV, resV, partK, loadV, Vm.part, fillC, splice, reduceIte, reduceCtorEq, Nat.reduceEqDiff, Nat.reduceAdd, Nat.reduceSub, Nat.reduceMul, Nat.reduceLeDiff, ne_eq, not_false_eq_true, Int.reduceEq, Int.reduceLT, Int.reduceLE, Int.reduceNeg, Int.reduceToNat, Int.reduceGT, Int.reduceGE, Nat.reduceLT, Nat.lt_add_one, Nat.zero_lt_succ, Nat.succ_pos, Nat.zero_le, beq_self_eq_true, k_date_Format_0, a11, a12]
theorem Format_ok (HI : ItoaOk L) {sec : Int} (h0 : 0 ≤ sec) (h1 : sec / 86400 ≤ 2932896) (h2 : sec ≤ 9223372036854775807) : Cf F L i_date_Format [.int .i64 sec] h (Pu h (.str (fmtS sec))) := by
  refine run_date_Format ?_
  simp only [p_date_Format]
  
  have n0 : ¬ sec < 0 := by omega
  have q1 : IntKind.i64.wrap (sec.tdiv 86400) = sec / 86400 := wdiv h0 (by omega) (by omega)
  have n1 : ¬ sec / 86400 > 2932896 := by omega
  simp (maxSteps := 4000000) only [vm, vl, Arg.get, cells, stor, boundO, resultsV, resV, partK, loadV, Vm.part, fillC, splice, reduceIte, reduceCtorEq, Nat.reduceEqDiff, Nat.reduceAdd, Nat.reduceSub, Nat.reduceMul, Nat.reduceLeDiff, ne_eq, not_false_eq_true, Int.reduceEq, Int.reduceLT, Int.reduceLE, Int.reduceNeg, Int.reduceToNat, Int.reduceGT, Int.reduceGE, Nat.reduceLT, Nat.lt_add_one, Nat.zero_lt_succ, Nat.succ_pos, Nat.zero_le, beq_self_eq_true, n0, q1, n1, bin_quo, decide_false]
  exact fmt0_ok HI h0 h1
theorem Format_zero (HI : ItoaOk L) {sec : Int} (h0 : sec < 0 ∨ 2932896 < sec / 86400) (h1 : -9223372036854775808 ≤ sec) (h2 : sec ≤ 9223372036854775807) : Cf F L i_date_Format [.int .i64 sec] h (Pu h (.str (fmtS 0))) := by
  refine run_date_Format ?_
  simp only [p_date_Format]
  
  by_cases n0 : sec < 0
  · simp (maxSteps := 4000000) only [vm, vl, Arg.get, cells, stor, boundO, resultsV, resV, partK, loadV, Vm.part, fillC, splice, reduceIte, reduceCtorEq, Nat.reduceEqDiff, Nat.reduceAdd, Nat.reduceSub, Nat.reduceMul, Nat.reduceLeDiff, ne_eq, not_false_eq_true, Int.reduceEq, Int.reduceLT, Int.reduceLE, Int.reduceNeg, Int.reduceToNat, Int.reduceGT, Int.reduceGE, Nat.reduceLT, Nat.lt_add_one, Nat.zero_lt_succ, Nat.succ_pos, Nat.zero_le, beq_self_eq_true, n0, decide_true]
    exact fmt0_ok HI (by omega) (by omega)
  · have q1 : IntKind.i64.wrap (sec.tdiv 86400) = sec / 86400 := wdiv (by omega) (by omega) (by omega)
    have n1 : sec / 86400 > 2932896 := by omega
    simp (maxSteps := 4000000) only [vm, vl, Arg.get, cells, stor, boundO, resultsV, resV, partK, loadV, Vm.part, fillC, splice, reduceIte, reduceCtorEq, Nat.reduceEqDiff, Nat.reduceAdd, Nat.reduceSub, Nat.reduceMul, Nat.reduceLeDiff, ne_eq, not_false_eq_true, Int.reduceEq, Int.reduceLT, Int.reduceLE, Int.reduceNeg, Int.reduceToNat, Int.reduceGT, Int.reduceGE, Nat.reduceLT, Nat.lt_add_one, Nat.zero_lt_succ, Nat.succ_pos, Nat.zero_le, beq_self_eq_true, n0, q1, n1, bin_quo, decide_true, decide_false]
    exact fmt0_ok HI (by omega) (by omega)
end Go.Proofs.YtdgklgeddbfeaaaDoor.Vh
