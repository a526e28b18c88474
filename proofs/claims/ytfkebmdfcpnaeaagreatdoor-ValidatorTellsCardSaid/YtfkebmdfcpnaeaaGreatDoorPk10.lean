/- Several texts in one: VFormatA, VReaders, VFormsA, VValid, VSplit3, VFew, VRGet, VBackA. -/
import Derived.Test.YtfkebmdfcpnaeaaGreatDoorPk3
import Derived.Test.YtfkebmdfcpnaeaaGreatDoorPk5
import Derived.Test.YtfkebmdfcpnaeaaGreatDoorPk9
import Derived.Lib.ItoaNum
import Derived.Lib.AppendIntMem
import Derived.Test.YtfkebmdfcpnaeaaGreatDoorPk4
import Derived.Test.YtfkebmdfcpnaeaaGreatDoorPk8
import Derived.Test.YtfkebmdfcpnaeaaGreatDoorPk7
import Derived.Test.YtfkebmdfcpnaeaaGreatDoorPk6
section
set_option linter.unusedVariables false
set_option linter.unusedSimpArgs false
namespace Go.Proofs.YtfkebmdfcpnaeaaGreatDoor.Vh
open Go.Vm
abbrev TabAt (w : World) : Prop := Lib.TabIs Tryz.prog w "internal/strconv.uint64pow10" .u64 Lib.pow10Tab
def LItoa : FuncId → List V → V → Prop := fun f args v => f = i_strconv_Itoa ∧ ∃ n : Int, -9223372036854775808 ≤ n ∧ n ≤ 9223372036854775807 ∧ args = [.int .i64 n] ∧ v = .str (Go.Lib.itoa n)
theorem itoa_at {w0 : World} (ht : TabAt w0) : LibAt Tryz.prog w0 LItoa := by
  rintro f args v ⟨rfl, n, h0, h1, rfl, rfl⟩
  refine ⟨by kernel_rfl, good_below fun B G h w vs hr hb hv => ?_⟩
  obtain ⟨a, rfl, ha⟩ := rvs_one hv
  cases ha
  have htab : TabAt w := Lib.tabBelow_of_tabIs ht w (hb.2.mono hb.1)
  refine (Tryz.strconv_Itoa n h0 h1 w htab).mono fun e w' ⟨h1, k, os, h2⟩ => ?_
  subst h2
  exact ⟨_, h1, .str _, Lib.below_grow _ _ (Nat.le_refl _) k os⟩
def ItoaOk (L : FuncId → List V → V → Prop) : Prop := ∀ {n : Int} {h : Heap}, -9223372036854775808 ≤ n → n ≤ 9223372036854775807 → Cf F L i_strconv_Itoa [.int .i64 n] h (Pu h (.str (Go.Lib.itoa n)))
theorem itoaOk {L : FuncId → List V → V → Prop} (hL : ∀ f a v, LItoa f a v → L f a v) : ItoaOk L :=
  fun h0 h1 => wlib (hL _ _ _ ⟨rfl, _, h0, h1, rfl, rfl⟩) ⟨rfl, [], by simp⟩
open Go.Vm Go.Vt
attribute [local congr] wi_congr wg_congr wgd_congr wb_congr wl_congr cf_congr
variable {L : FuncId → List V → V → Prop} {h : Heap}
def dayLs : List Bs := [[77, 111, 110, 100, 97, 121], [84, 117, 101, 115, 100, 97, 121], [87, 101, 100, 110, 101, 115, 100, 97, 121], [84, 104, 117, 114, 115, 100, 97, 121], [70, 114, 105, 100, 97, 121], [83, 97, 116, 117, 114, 100, 97, 121], [83, 117, 110, 100, 97, 121]]
def monLs : List Bs := [[74, 97, 110], [70, 101, 98], [77, 97, 114], [65, 112, 114], [77, 97, 121], [74, 117, 110], [74, 117, 108], [65, 117, 103], [83, 101, 112], [79, 99, 116], [78, 111, 118], [68, 101, 99]]
theorem longDays_ok : Cf F L i_date_longDays [] h (Pu h (.agg (dayLs.map .str))) := by
  refine run_date_longDays ?_
  simp only [p_date_longDays]
  simp (maxSteps := 4000000) only [vm, vl, Arg.get, cells, stor, boundO, resultsV, resV, partK, loadV, Vm.part, fillC, splice, reduceIte, reduceCtorEq, Nat.reduceEqDiff, Nat.reduceAdd, Nat.reduceSub, Nat.reduceMul, Nat.reduceLeDiff, ne_eq, not_false_eq_true, Int.reduceEq, Int.reduceLT, Int.reduceLE, Int.reduceNeg, Int.reduceToNat, Int.reduceGT, Int.reduceGE, Nat.reduceLT, Nat.lt_add_one, Nat.zero_lt_succ, Nat.succ_pos, Nat.zero_le, beq_self_eq_true]
  rfl
theorem monthNames_ok : Cf F L i_date_monthNames [] h (Pu h (.agg (monLs.map .str))) := by
  refine run_date_monthNames ?_
  simp only [p_date_monthNames]
  simp (maxSteps := 4000000) only [vm, vl, Arg.get, cells, stor, boundO, resultsV, resV, partK, loadV, Vm.part, fillC, splice, reduceIte, reduceCtorEq, Nat.reduceEqDiff, Nat.reduceAdd, Nat.reduceSub, Nat.reduceMul, Nat.reduceLeDiff, ne_eq, not_false_eq_true, Int.reduceEq, Int.reduceLT, Int.reduceLE, Int.reduceNeg, Int.reduceToNat, Int.reduceGT, Int.reduceGE, Nat.reduceLT, Nat.lt_add_one, Nat.zero_lt_succ, Nat.succ_pos, Nat.zero_le, beq_self_eq_true]
  rfl
def padS (s : Bs) (k : Nat) : Bs := List.replicate (k - s.length) 48 ++ s
theorem padS_step {s : Bs} {k : Nat} (h : s.length < k) : padS (48 :: s) k = padS s k := by
  unfold padS
  obtain ⟨m, hm⟩ : ∃ m, k - s.length = m + 1 := ⟨k - s.length - 1, by omega⟩
  rw [hm, List.length_cons, show k - (s.length + 1) = m by omega, List.replicate_succ']
  simp
theorem padS_done {s : Bs} {k : Nat} (h : k ≤ s.length) : padS s k = s := by
  unfold padS
  rw [show k - s.length = 0 by omega]; rfl
theorem pad_ok (HI : ItoaOk L) {n : Int} {k : Nat} (h0 : -9223372036854775808 ≤ n) (h1 : n ≤ 9223372036854775807) (hk : k ≤ 100) (hl : (Go.Lib.itoa n).length ≤ 100) : Cf F L i_date_pad [.int .i64 n, .int .i64 k] h (Pu h (.str (padS (Go.Lib.itoa n) k))) := by
  refine run_date_pad ?_
  simp only [p_date_pad]
  refine Cf.pu (HI h0 h1) fun t => ?_
  generalize Go.Lib.itoa n = s0 at *
  refine l_date_pad_0 (fun m e h' => ∃ x : Bs, m = k - x.length ∧ x.length ≤ 100 + k ∧ e 1 = .int .i64 k ∧ e 5 = .str x ∧ padS x k = padS s0 k ∧ ∃ t, h' = h ++ t) ?_ (n := k - s0.length) ⟨s0, rfl, by omega, rfl, rfl, rfl, t, rfl⟩
  rintro m e h' ⟨x, rfl, hx, e1, e5, hp, t, rfl⟩
  simp only [b_date_pad_0]
  by_cases hc : x.length < k
  · have hc' : (x.length : Int) < k := by omega
    have a : binV .add (.str [48]) (.str x) = some (.str (48 :: x)) := bin_sadd (by simp; omega)
    simp (maxSteps := 4000000) only [vm, vl, Arg.get, cells, stor, boundO, resultsV, resV, partK, loadV, Vm.part, fillC, splice, reduceIte, reduceCtorEq, Nat.reduceEqDiff, Nat.reduceAdd, Nat.reduceSub, Nat.reduceMul, Nat.reduceLeDiff, ne_eq, not_false_eq_true, Int.reduceEq, Int.reduceLT, Int.reduceLE, Int.reduceNeg, Int.reduceToNat, Int.reduceGT, Int.reduceGE, Nat.reduceLT, Nat.lt_add_one, Nat.zero_lt_succ, Nat.succ_pos, Nat.zero_le, beq_self_eq_true, k_date_pad_0, k_date_pad_1, e1, e5, hc', a]
    exact ⟨k - (48 :: x).length, by simp only [List.length_cons]; omega, 48 :: x, rfl, by simp only [List.length_cons]; omega, rfl, by rw [padS_step hc, hp], t, rfl⟩
  · have hc' : ¬ (x.length : Int) < k := by omega
    simp (maxSteps := 4000000) only [vm, vl, Arg.get, cells, stor, boundO, resultsV, resV, partK, loadV, Vm.part, fillC, splice, reduceIte, reduceCtorEq, Nat.reduceEqDiff, Nat.reduceAdd, Nat.reduceSub, Nat.reduceMul, Nat.reduceLeDiff, ne_eq, not_false_eq_true, Int.reduceEq, Int.reduceLT, Int.reduceLE, Int.reduceNeg, Int.reduceToNat, Int.reduceGT, Int.reduceGE, Nat.reduceLT, Nat.lt_add_one, Nat.zero_lt_succ, Nat.succ_pos, Nat.zero_le, beq_self_eq_true, k_date_pad_0, k_date_pad_1, e1, e5, hc']
    rw [← hp, padS_done (by omega)]
def two (n : Nat) : Bs := [UInt8.ofNat (48 + n / 10), UInt8.ofNat (48 + n % 10)]
theorem itoa_nat (n : Nat) : Go.Lib.itoa (n : Int) = Go.Lib.decDigits n := by
  unfold Go.Lib.itoa
  rw [if_neg (by omega)]; rfl
theorem itoa_two {n : Nat} (h : n < 100) : padS (Go.Lib.itoa (n : Int)) 2 = two n ∧ (Go.Lib.itoa (n : Int)).length ≤ 100 := by
  rw [itoa_nat]
  by_cases h1 : n < 10
  · rw [Go.Lib.decDigits_one h1]
    refine ⟨?_, by simp⟩
    unfold padS two
    rw [show n / 10 = 0 by omega, show n % 10 = n by omega]; rfl
  · rw [Go.Lib.decDigits_two h1 h]
    exact ⟨rfl, by simp⟩
theorem decDigits_step {n : Nat} (h : 10 ≤ n) : Go.Lib.decDigits n = Go.Lib.decDigits (n / 10) ++ [UInt8.ofNat (48 + n % 10)] := by
  rw [Go.Lib.decDigits, dif_neg (by omega)]
theorem itoa_four {n : Nat} (h0 : 1000 ≤ n) (h1 : n < 10000) : padS (Go.Lib.itoa (n : Int)) 4 = two (n / 100) ++ two (n % 100) ∧ (Go.Lib.itoa (n : Int)).length ≤ 100 := by
  rw [itoa_nat, decDigits_step (by omega), decDigits_step (n := n / 10) (by omega), Go.Lib.decDigits_two (i := n / 10 / 10) (by omega) (by omega)]
  refine ⟨?_, by simp⟩
  unfold two padS
  rw [show n / 10 / 10 = n / 100 by omega, show n / 10 % 10 = n % 100 / 10 by omega, show n % 100 % 10 = n % 10 by omega]
  rfl
def fmtS (sec : Int) : Bs :=
  let t := civilS (sec / 86400)
  let c := sec % 86400
  (dayLs.getD ((sec / 86400 + 3) % 7).toNat []).take 3 ++ [44, 32] ++ two t.2.2.toNat ++ [32] ++ monLs.getD (t.2.1 - 1).toNat [] ++ [32] ++ (two (t.1.toNat / 100) ++ two (t.1.toNat % 100)) ++ [32] ++ two (c / 3600).toNat ++ [58] ++ two (c / 60 % 60).toNat ++ [58] ++ two (c % 60).toNat ++ [32, 71, 77, 84]
theorem day3 : ∀ w, w < 7 → 3 ≤ (dayLs.getD w []).length ∧ ((dayLs.getD w []).take 3).length = 3 := by decide
theorem mon3 : ∀ w, w < 12 → (monLs.getD w []).length = 3 := by decide
theorem aggstr_at {l : List Bs} {i : Nat} (hi : i < l.length) : (l.map V.str).getD i (.tup []) = .str (l.getD i []) := by
  rw [List.getD_eq_getElem?_getD, List.getD_eq_getElem?_getD, List.getElem?_map, List.getElem?_eq_getElem hi]; rfl
theorem fmt0_ok (HI : ItoaOk L) {sec : Int} (h0 : 0 ≤ sec) (h1 : sec / 86400 ≤ 2932896) : k_date_Format_0 L (Pu h (.str (fmtS sec))) (.int .i64 sec) h := by
  
  obtain ⟨y, m, d, hc, y0, y1, m0, m1, d0, d1, _⟩ := civil_ok (sec / 86400) (by omega) h1
  have d2 := dim_le y m
  have ha : civA (sec / 86400) = (y, m, d) := by rw [civA, if_pos ⟨by omega, h1⟩, hc]
  have q1 : IntKind.i64.wrap (sec.tdiv 86400) = sec / 86400 := wdiv h0 (by omega) (by omega)
  have q2 : sec.tmod 86400 = sec % 86400 := tmod_nn h0
  have hcc := Cf.pu (F := F) (L := L) (h := h) (K := fun v h' => v = civV (y, m, d) ∧ ∃ t, h' = h ++ t) (by rw [← ha]; exact Civil_ok) fun t => ⟨rfl, t, rfl⟩
  have hF : fmtS sec = (dayLs.getD ((sec / 86400 + 3) % 7).toNat []).take 3 ++ [44, 32] ++ two d.toNat ++ [32] ++ monLs.getD (m - 1).toNat [] ++ [32] ++ (two (y.toNat / 100) ++ two (y.toNat % 100)) ++ [32] ++ two (sec % 86400 / 3600).toNat ++ [58] ++ two (sec % 86400 / 60 % 60).toNat ++ [58] ++ two (sec % 86400 % 60).toNat ++ [32, 71, 77, 84] := by
    unfold fmtS
    simp only [hc]
  generalize fmtS sec = fs at *
  simp (maxSteps := 4000000) only [vm, vl, Arg.get, cells, stor, boundO, resultsV, resV, partK, loadV, Vm.part, fillC, splice, reduceIte, reduceCtorEq, Nat.reduceEqDiff, Nat.reduceAdd, Nat.reduceSub, Nat.reduceMul, Nat.reduceLeDiff, ne_eq, not_false_eq_true, Int.reduceEq, Int.reduceLT, Int.reduceLE, Int.reduceNeg, Int.reduceToNat, Int.reduceGT, Int.reduceGE, Nat.reduceLT, Nat.lt_add_one, Nat.zero_lt_succ, Nat.succ_pos, Nat.zero_le, beq_self_eq_true, k_date_Format_0, bin_quo, bin_rem, q1, q2]
  refine Cf.pu Civil_ok fun t => ?_
  rw [ha]
  have dd0 : 0 ≤ sec / 86400 := by omega
  have c0 : 0 ≤ sec % 86400 := by omega
  have c1 : sec % 86400 < 86400 := by omega
  generalize sec % 86400 = c at *
  generalize sec / 86400 = day at *
  obtain ⟨w, hw, hw7⟩ : ∃ w : Nat, (day + 3) % 7 = w ∧ w < 7 := ⟨((day + 3) % 7).toNat, by omega, by omega⟩
  obtain ⟨mi, hmi, hmi12⟩ : ∃ i : Nat, m = (i : Int) + 1 ∧ i < 12 := ⟨(m - 1).toNat, by omega, by omega⟩
  obtain ⟨yn, rfl⟩ : ∃ n : Nat, y = n := ⟨y.toNat, by omega⟩
  obtain ⟨dn', rfl⟩ : ∃ n : Nat, d = n := ⟨d.toNat, by omega⟩
  obtain ⟨ch, hch⟩ : ∃ n : Nat, c / 3600 = n := ⟨(c / 3600).toNat, by omega⟩
  obtain ⟨cm, hcm⟩ : ∃ n : Nat, c / 60 % 60 = n := ⟨(c / 60 % 60).toNat, by omega⟩
  obtain ⟨cs, hcs⟩ : ∃ n : Nat, c % 60 = n := ⟨(c % 60).toNat, by omega⟩
  have q3 : IntKind.i64.wrap (day + 3) = day + 3 := wrap64 (by omega) (by omega)
  have q4 : (day + 3).tmod 7 = (w : Int) := by rw [tmod_nn (by omega), hw]
  have q5 : IntKind.i64.wrap (m - 1) = (mi : Int) := by rw [wrap64 (by omega) (by omega)]; omega
  have q6 : IntKind.i64.wrap (c.tdiv 3600) = (ch : Int) := by rw [wdiv c0 (by omega) (by omega), hch]
  have q7 : IntKind.i64.wrap (c.tdiv 60) = c / 60 := wdiv c0 (by omega) (by omega)
  have q8 : (c / 60).tmod 60 = (cm : Int) := by rw [tmod_nn (by omega), hcm]
  have q9 : c.tmod 60 = (cs : Int) := by rw [tmod_nn c0, hcs]
  obtain ⟨u1, u2⟩ := day3 w hw7
  have u3 := mon3 mi hmi12
  have r1 : (dayLs.map V.str).getD w (.tup []) = .str (dayLs.getD w []) := aggstr_at hw7
  have r2 : (monLs.map V.str).getD mi (.tup []) = .str (monLs.getD mi []) := aggstr_at hmi12
  have z1 : (dayLs.map V.str).length = 7 := rfl
  have z2 : (monLs.map V.str).length = 12 := rfl
  have i0 : (0 : Int) ≤ w := by omega
  have w7i : (w : Int) < 7 := by omega
  have w6 : w ≤ 6 := by omega
  have m7i : (mi : Int) < 12 := by omega
  have m6 : mi ≤ 11 := by omega
  have i1 : (0 : Int) ≤ mi := by omega
  obtain ⟨b1, l1⟩ := itoa_two (n := dn') (by omega)
  obtain ⟨b2, l2⟩ := itoa_four (n := yn) (by omega) (by omega)
  obtain ⟨b3, l3⟩ := itoa_two (n := ch) (by omega)
  obtain ⟨b4, l4⟩ := itoa_two (n := cm) (by omega)
  obtain ⟨b5, l5⟩ := itoa_two (n := cs) (by omega)
  have P1 : ∀ h, Cf F L i_date_pad [.int .i64 (dn' : Int), .int .i64 2] h (Pu h (.str (two dn'))) := fun h => by
    have := pad_ok (L := L) (h := h) HI (n := dn') (k := 2) (by omega) (by omega) (by omega) l1
    rw [b1] at this
    exact this
  have P2 : ∀ h, Cf F L i_date_pad [.int .i64 (yn : Int), .int .i64 4] h (Pu h (.str (two (yn / 100) ++ two (yn % 100)))) := fun h => by
    have := pad_ok (L := L) (h := h) HI (n := yn) (k := 4) (by omega) (by omega) (by omega) l2
    rw [b2] at this
    exact this
  have P3 : ∀ h, Cf F L i_date_pad [.int .i64 (ch : Int), .int .i64 2] h (Pu h (.str (two ch))) := fun h => by
    have := pad_ok (L := L) (h := h) HI (n := ch) (k := 2) (by omega) (by omega) (by omega) l3
    rw [b3] at this
    exact this
  have P4 : ∀ h, Cf F L i_date_pad [.int .i64 (cm : Int), .int .i64 2] h (Pu h (.str (two cm))) := fun h => by
    have := pad_ok (L := L) (h := h) HI (n := cm) (k := 2) (by omega) (by omega) (by omega) l4
    rw [b4] at this
    exact this
  have P5 : ∀ h, Cf F L i_date_pad [.int .i64 (cs : Int), .int .i64 2] h (Pu h (.str (two cs))) := fun h => by
    have := pad_ok (L := L) (h := h) HI (n := cs) (k := 2) (by omega) (by omega) (by omega) l5
    rw [b5] at this
    exact this
  have e1 : ((dn' : Int)).toNat = dn' := by omega
  have e2 : ((yn : Int)).toNat = yn := by omega
  have e3 : (m - 1).toNat = mi := by omega
  rw [hw, hch, hcm, hcs, e1, e2, e3, Int.toNat_natCast, Int.toNat_natCast, Int.toNat_natCast, Int.toNat_natCast] at hF
  have hp1 : (two dn').length = 2 := rfl
  have hp2 : (two (yn / 100) ++ two (yn % 100)).length = 4 := rfl
  have hp3 : (two ch).length = 2 := rfl
  have hp4 : (two cm).length = 2 := rfl
  have hp5 : (two cs).length = 2 := rfl
  generalize two dn' = p1 at *
  generalize two (yn / 100) ++ two (yn % 100) = p2 at *
  generalize two ch = p3 at *
  generalize two cm = p4 at *
  generalize two cs = p5 at *
  generalize hdl : dayLs.getD w [] = dl at *
  generalize hdn' : dl.take 3 = dn at *
  generalize monLs.getD mi [] = mn at *
  have hdn := u2
  have hmn := u3
  obtain ⟨A0, hA0⟩ : ∃ A : Bs, A = dn ++ [44, 32] := ⟨_, rfl⟩
  have lA0 : A0.length = 5 := by rw [hA0, List.length_append, hdn, show ([44, 32] : List UInt8).length = 2 from rfl]
  have a0 : binV .add (.str dn) (.str [44, 32]) = some (.str A0) := by rw [hA0]; exact bin_sadd (by rw [hdn, show ([44, 32] : List UInt8).length = 2 from rfl]; omega)
  obtain ⟨A1, hA1⟩ : ∃ A : Bs, A = A0 ++ p1 := ⟨_, rfl⟩
  have lA1 : A1.length = 7 := by rw [hA1, List.length_append, lA0, hp1]
  have a1 : binV .add (.str A0) (.str p1) = some (.str A1) := by rw [hA1]; exact bin_sadd (by rw [lA0, hp1]; omega)
  obtain ⟨A2, hA2⟩ : ∃ A : Bs, A = A1 ++ [32] := ⟨_, rfl⟩
  have lA2 : A2.length = 8 := by rw [hA2, List.length_append, lA1, show ([32] : List UInt8).length = 1 from rfl]
  have a2 : binV .add (.str A1) (.str [32]) = some (.str A2) := by rw [hA2]; exact bin_sadd (by rw [lA1, show ([32] : List UInt8).length = 1 from rfl]; omega)
  obtain ⟨A3, hA3⟩ : ∃ A : Bs, A = A2 ++ mn := ⟨_, rfl⟩
  have lA3 : A3.length = 11 := by rw [hA3, List.length_append, lA2, hmn]
  have a3 : binV .add (.str A2) (.str mn) = some (.str A3) := by rw [hA3]; exact bin_sadd (by rw [lA2, hmn]; omega)
  obtain ⟨A4, hA4⟩ : ∃ A : Bs, A = A3 ++ [32] := ⟨_, rfl⟩
  have lA4 : A4.length = 12 := by rw [hA4, List.length_append, lA3, show ([32] : List UInt8).length = 1 from rfl]
  have a4 : binV .add (.str A3) (.str [32]) = some (.str A4) := by rw [hA4]; exact bin_sadd (by rw [lA3, show ([32] : List UInt8).length = 1 from rfl]; omega)
  obtain ⟨A5, hA5⟩ : ∃ A : Bs, A = A4 ++ p2 := ⟨_, rfl⟩
  have lA5 : A5.length = 16 := by rw [hA5, List.length_append, lA4, hp2]
  have a5 : binV .add (.str A4) (.str p2) = some (.str A5) := by rw [hA5]; exact bin_sadd (by rw [lA4, hp2]; omega)
  obtain ⟨A6, hA6⟩ : ∃ A : Bs, A = A5 ++ [32] := ⟨_, rfl⟩
  have lA6 : A6.length = 17 := by rw [hA6, List.length_append, lA5, show ([32] : List UInt8).length = 1 from rfl]
  have a6 : binV .add (.str A5) (.str [32]) = some (.str A6) := by rw [hA6]; exact bin_sadd (by rw [lA5, show ([32] : List UInt8).length = 1 from rfl]; omega)
  obtain ⟨A7, hA7⟩ : ∃ A : Bs, A = A6 ++ p3 := ⟨_, rfl⟩
  have lA7 : A7.length = 19 := by rw [hA7, List.length_append, lA6, hp3]
  have a7 : binV .add (.str A6) (.str p3) = some (.str A7) := by rw [hA7]; exact bin_sadd (by rw [lA6, hp3]; omega)
  obtain ⟨A8, hA8⟩ : ∃ A : Bs, A = A7 ++ [58] := ⟨_, rfl⟩
  have lA8 : A8.length = 20 := by rw [hA8, List.length_append, lA7, show ([58] : List UInt8).length = 1 from rfl]
  have a8 : binV .add (.str A7) (.str [58]) = some (.str A8) := by rw [hA8]; exact bin_sadd (by rw [lA7, show ([58] : List UInt8).length = 1 from rfl]; omega)
  obtain ⟨A9, hA9⟩ : ∃ A : Bs, A = A8 ++ p4 := ⟨_, rfl⟩
  have lA9 : A9.length = 22 := by rw [hA9, List.length_append, lA8, hp4]
  have a9 : binV .add (.str A8) (.str p4) = some (.str A9) := by rw [hA9]; exact bin_sadd (by rw [lA8, hp4]; omega)
  obtain ⟨A10, hA10⟩ : ∃ A : Bs, A = A9 ++ [58] := ⟨_, rfl⟩
  have lA10 : A10.length = 23 := by rw [hA10, List.length_append, lA9, show ([58] : List UInt8).length = 1 from rfl]
  have a10 : binV .add (.str A9) (.str [58]) = some (.str A10) := by rw [hA10]; exact bin_sadd (by rw [lA9, show ([58] : List UInt8).length = 1 from rfl]; omega)
  obtain ⟨A11, hA11⟩ : ∃ A : Bs, A = A10 ++ p5 := ⟨_, rfl⟩
  have lA11 : A11.length = 25 := by rw [hA11, List.length_append, lA10, hp5]
  have a11 : binV .add (.str A10) (.str p5) = some (.str A11) := by rw [hA11]; exact bin_sadd (by rw [lA10, hp5]; omega)
  obtain ⟨A12, hA12⟩ : ∃ A : Bs, A = A11 ++ [32, 71, 77, 84] := ⟨_, rfl⟩
  have lA12 : A12.length = 29 := by rw [hA12, List.length_append, lA11, show ([32, 71, 77, 84] : List UInt8).length = 4 from rfl]
  have a12 : binV .add (.str A11) (.str [32, 71, 77, 84]) = some (.str A12) := by rw [hA12]; exact bin_sadd (by rw [lA11, show ([32, 71, 77, 84] : List UInt8).length = 4 from rfl]; omega)
  rw [show dn ++ [44, 32] ++ p1 ++ [32] ++ mn ++ [32] ++ p2 ++ [32] ++ p3 ++ [58] ++ p4 ++ [58] ++ p5 ++ [32, 71, 77, 84] = A12 from by rw [hA12, hA11, hA10, hA9, hA8, hA7, hA6, hA5, hA4, hA3, hA2, hA1, hA0]] at hF
  subst hF
  simp only [civV]
  simp (maxSteps := 4000000) only [vm, vl, Arg.get, cells, stor, boundO, resultsV, resV, partK, loadV, Vm.part, fillC, splice, reduceIte, reduceCtorEq, Nat.reduceEqDiff, Nat.reduceAdd, Nat.reduceSub, Nat.reduceMul, Nat.reduceLeDiff, ne_eq, not_false_eq_true, Int.reduceEq, Int.reduceLT, Int.reduceLE, Int.reduceNeg, Int.reduceToNat, Int.reduceGT, Int.reduceGE, Nat.reduceLT, Nat.lt_add_one, Nat.zero_lt_succ, Nat.succ_pos, Nat.zero_le, beq_self_eq_true, k_date_Format_0, bin_quo, bin_rem, q1, q2]
  refine Cf.pu longDays_ok fun t1 => ?_
  generalize dayLs.map V.str = dvs at *
  simp (maxSteps := 4000000) only [vm, vl, Arg.get, cells, stor, boundO, resultsV, resV, partK, loadV, Vm.part, fillC, splice, reduceIte, reduceCtorEq, Nat.reduceEqDiff, Nat.reduceAdd, Nat.reduceSub, Nat.reduceMul, Nat.reduceLeDiff, ne_eq, not_false_eq_true, Int.reduceEq, Int.reduceLT, Int.reduceLE, Int.reduceNeg, Int.reduceToNat, Int.reduceGT, Int.reduceGE, Nat.reduceLT, Nat.lt_add_one, Nat.zero_lt_succ, Nat.succ_pos, Nat.zero_le, beq_self_eq_true, k_date_Format_0, bin_quo, bin_rem, q3, q4, r1, z1, i0, w7i, w6, Int.toNat_natCast, u1, List.drop_zero, hdn', a0]
  refine Cf.pu (P1 _) fun t2 => ?_
  simp (maxSteps := 4000000) only [vm, vl, Arg.get, cells, stor, boundO, resultsV, resV, partK, loadV, Vm.part, fillC, splice, reduceIte, reduceCtorEq, Nat.reduceEqDiff, Nat.reduceAdd, Nat.reduceSub, Nat.reduceMul, Nat.reduceLeDiff, ne_eq, not_false_eq_true, Int.reduceEq, Int.reduceLT, Int.reduceLE, Int.reduceNeg, Int.reduceToNat, Int.reduceGT, Int.reduceGE, Nat.reduceLT, Nat.lt_add_one, Nat.zero_lt_succ, Nat.succ_pos, Nat.zero_le, beq_self_eq_true, k_date_Format_0, a1, a2]
  refine Cf.pu monthNames_ok fun t3 => ?_
  generalize monLs.map V.str = mvs at *
  simp (maxSteps := 4000000) only [vm, vl, Arg.get, cells, stor, boundO, resultsV, resV, partK, loadV, Vm.part, fillC, splice, reduceIte, reduceCtorEq, Nat.reduceEqDiff, Nat.reduceAdd, Nat.reduceSub, Nat.reduceMul, Nat.reduceLeDiff, ne_eq, not_false_eq_true, Int.reduceEq, Int.reduceLT, Int.reduceLE, Int.reduceNeg, Int.reduceToNat, Int.reduceGT, Int.reduceGE, Nat.reduceLT, Nat.lt_add_one, Nat.zero_lt_succ, Nat.succ_pos, Nat.zero_le, beq_self_eq_true, k_date_Format_0, q5, r2, z2, i1, m7i, m6, Int.toNat_natCast, a3, a4]
  refine Cf.pu (P2 _) fun t4 => ?_
  simp (maxSteps := 4000000) only [vm, vl, Arg.get, cells, stor, boundO, resultsV, resV, partK, loadV, Vm.part, fillC, splice, reduceIte, reduceCtorEq, Nat.reduceEqDiff, Nat.reduceAdd, Nat.reduceSub, Nat.reduceMul, Nat.reduceLeDiff, ne_eq, not_false_eq_true, Int.reduceEq, Int.reduceLT, Int.reduceLE, Int.reduceNeg, Int.reduceToNat, Int.reduceGT, Int.reduceGE, Nat.reduceLT, Nat.lt_add_one, Nat.zero_lt_succ, Nat.succ_pos, Nat.zero_le, beq_self_eq_true, k_date_Format_0, a5, a6, bin_quo, bin_rem, q6]
  refine Cf.pu (P3 _) fun t5 => ?_
  simp (maxSteps := 4000000) only [vm, vl, Arg.get, cells, stor, boundO, resultsV, resV, partK, loadV, Vm.part, fillC, splice, reduceIte, reduceCtorEq, Nat.reduceEqDiff, Nat.reduceAdd, Nat.reduceSub, Nat.reduceMul, Nat.reduceLeDiff, ne_eq, not_false_eq_true, Int.reduceEq, Int.reduceLT, Int.reduceLE, Int.reduceNeg, Int.reduceToNat, Int.reduceGT, Int.reduceGE, Nat.reduceLT, Nat.lt_add_one, Nat.zero_lt_succ, Nat.succ_pos, Nat.zero_le, beq_self_eq_true, k_date_Format_0, a7, a8, bin_quo, bin_rem, q7, q8]
  refine Cf.pu (P4 _) fun t6 => ?_
  simp (maxSteps := 4000000) only [vm, vl, Arg.get, cells, stor, boundO, resultsV, resV, partK, loadV, Vm.part, fillC, splice, reduceIte, reduceCtorEq, Nat.reduceEqDiff, Nat.reduceAdd, Nat.reduceSub, Nat.reduceMul, Nat.reduceLeDiff, ne_eq, not_false_eq_true, Int.reduceEq, Int.reduceLT, Int.reduceLE, Int.reduceNeg, Int.reduceToNat, Int.reduceGT, Int.reduceGE, Nat.reduceLT, Nat.lt_add_one, Nat.zero_lt_succ, Nat.succ_pos, Nat.zero_le, beq_self_eq_true, k_date_Format_0, a9, a10, bin_quo, bin_rem, q9]
  refine Cf.pu (P5 _) fun t7 => ?_
  simp (maxSteps := 4000000) only [vm, vl, Arg.get, cells, stor, boundO, resultsV, resV, partK, loadV, Vm.part, fillC, splice, reduceIte, reduceCtorEq, Nat.reduceEqDiff, Nat.reduceAdd, Nat.reduceSub, Nat.reduceMul, Nat.reduceLeDiff, ne_eq, not_false_eq_true, Int.reduceEq, Int.reduceLT, Int.reduceLE, Int.reduceNeg, Int.reduceToNat, Int.reduceGT, Int.reduceGE, Nat.reduceLT, Nat.lt_add_one, Nat.zero_lt_succ, Nat.succ_pos, Nat.zero_le, beq_self_eq_true, k_date_Format_0, a11, a12]
theorem Format_ok (HI : ItoaOk L) {sec : Int} (h0 : 0 ≤ sec) (h1 : sec / 86400 ≤ 2932896) (h2 : sec ≤ 9223372036854775807) : Cf F L i_date_Format [.int .i64 sec] h (Pu h (.str (fmtS sec))) := by
  refine run_date_Format ?_
  simp only [p_date_Format]
  
  have n0 : ¬ sec < 0 := by omega
  have q1 : IntKind.i64.wrap (sec.tdiv 86400) = sec / 86400 := wdiv h0 (by omega) (by omega)
  have n1 : ¬ sec / 86400 > 2932896 := by omega
  simp (maxSteps := 4000000) only [vm, vl, Arg.get, cells, stor, boundO, resultsV, resV, partK, loadV, Vm.part, fillC, splice, reduceIte, reduceCtorEq, Nat.reduceEqDiff, Nat.reduceAdd, Nat.reduceSub, Nat.reduceMul, Nat.reduceLeDiff, ne_eq, not_false_eq_true, Int.reduceEq, Int.reduceLT, Int.reduceLE, Int.reduceNeg, Int.reduceToNat, Int.reduceGT, Int.reduceGE, Nat.reduceLT, Nat.lt_add_one, Nat.zero_lt_succ, Nat.succ_pos, Nat.zero_le, beq_self_eq_true, n0, q1, n1, bin_quo, decide_false]
  exact fmt0_ok HI h0 h1
end Go.Proofs.YtfkebmdfcpnaeaaGreatDoor.Vh
end
section
set_option linter.unusedVariables false
set_option linter.unusedSimpArgs false
namespace Go.Proofs.YtfkebmdfcpnaeaaGreatDoor.Vh
open Go.Vm Go.Vt
attribute [local congr] wi_congr wg_congr wgd_congr wb_congr wl_congr cf_congr
variable {L : FuncId → List V → V → Prop} {h : Heap}
/-- A reader: what is left, and whether all was well. -/
abbrev Rd := Bs × Bool
def bx (r : Rd) : O := .box [.str r.1, .bool r.2]
def RdP (h : Heap) (id : Nat) (x : V) (r : Rd) (v : V) (h' : Heap) : Prop := v = x ∧ ∃ t, h' = h.set id (bx r) ++ t
theorem Cf.rd {f : FuncId} {args : List V} {id : Nat} {x : V} {r : Rd} {K : V → Heap → Prop} (hc : Cf F L f args h (RdP h id x r)) (k : ∀ t, K x (h.set id (bx r) ++ t)) : Cf F L f args h K :=
  hc.mono fun v h' ⟨h1, t, h2⟩ => by rw [h1, h2]; exact k t
theorem rd_len {id : Nat} {o : O} (hb : h[id]? = some o) : id < h.length := (List.getElem?_eq_some_iff.1 hb).1
theorem rd_at {id : Nat} {o : O} {t : Heap} (hi : id < h.length) : (h.set id o ++ t)[id]? = some o := by
  rw [List.getElem?_append_left (by rw [List.length_set]; exact hi), List.getElem?_set_self hi]
theorem rd_set {id : Nat} {o o' : O} {t : Heap} (hi : id < h.length) : (h.set id o ++ t).set id o' = h.set id o' ++ t := by
  rw [List.set_append_left _ _ (by rw [List.length_set]; exact hi), List.set_set]
def takeR (n : Nat) (r : Rd) : Bs × Rd := if r.1.length < n then ([], (r.1, false)) else (r.1.take n, (r.1.drop n, r.2))
theorem take_ok {id n : Nat} {r : Rd} (hb : h[id]? = some (bx r)) (hn : n ≤ 1000000) (hl : r.1.length < 9223372036854775807) : Cf F L i___gatepost_date_reader__take [.ptr id 0, .int .i64 n] h (RdP h id (.str (takeR n r).1) (takeR n r).2) := by
  refine run___gatepost_date_reader__take ?_
  simp only [p___gatepost_date_reader__take]
  have hb' : h[id]? = some (O.box [.str r.1, .bool r.2]) := hb
  by_cases hc : r.1.length < n
  · have hc' : (r.1.length : Int) < n := by omega
    have e : takeR n r = ([], (r.1, false)) := if_pos hc
    rw [e]
    simp (maxSteps := 4000000) only [vm, vl, Arg.get, cells, stor, boundO, resultsV, resV, partK, loadV, Vm.part, fillC, splice, reduceIte, reduceCtorEq, Nat.reduceEqDiff, Nat.reduceAdd, Nat.reduceSub, Nat.reduceMul, Nat.reduceLeDiff, ne_eq, not_false_eq_true, Int.reduceEq, Int.reduceLT, Int.reduceLE, Int.reduceNeg, Int.reduceToNat, Int.reduceGT, Int.reduceGE, Nat.reduceLT, Nat.lt_add_one, Nat.zero_lt_succ, Nat.succ_pos, Nat.zero_le, beq_self_eq_true, k___gatepost_date_reader__take_0, hb', hc']
    exact ⟨rfl, [], by simp [bx]⟩
  · have hc' : ¬ (r.1.length : Int) < n := by omega
    have e : takeR n r = (r.1.take n, (r.1.drop n, r.2)) := if_neg hc
    have g0 : (0 : Int) ≤ n := by omega
    have g1 : n ≤ r.1.length := by omega
    have g2 : List.take r.1.length r.1 = r.1 := List.take_of_length_le (Nat.le_refl _)
    rw [e]
    simp (maxSteps := 4000000) only [vm, vl, Arg.get, cells, stor, boundO, resultsV, resV, partK, loadV, Vm.part, fillC, splice, reduceIte, reduceCtorEq, Nat.reduceEqDiff, Nat.reduceAdd, Nat.reduceSub, Nat.reduceMul, Nat.reduceLeDiff, ne_eq, not_false_eq_true, Int.reduceEq, Int.reduceLT, Int.reduceLE, Int.reduceNeg, Int.reduceToNat, Int.reduceGT, Int.reduceGE, Nat.reduceLT, Nat.lt_add_one, Nat.zero_lt_succ, Nat.succ_pos, Nat.zero_le, beq_self_eq_true, k___gatepost_date_reader__take_0, hb', hc', g0, g1, g2, Int.toNat_natCast, List.drop_zero]
    exact ⟨rfl, [], by simp [bx]⟩
def needR (p : Bs) (r : Rd) : Rd := if (takeR p.length r).1 = p then (takeR p.length r).2 else ((takeR p.length r).2.1, false)
theorem need_ok {id : Nat} {p : Bs} {r : Rd} (hb : h[id]? = some (bx r)) (hn : p.length ≤ 1000000) (hl : r.1.length < 9223372036854775807) : Cf F L i___gatepost_date_reader__need [.ptr id 0, .str p] h (RdP h id (.tup []) (needR p r)) := by
  refine run___gatepost_date_reader__need ?_
  simp only [p___gatepost_date_reader__need]
  have hi := rd_len hb
  simp (maxSteps := 4000000) only [vm, vl, Arg.get, cells, stor, boundO, resultsV, resV, partK, loadV, Vm.part, fillC, splice, reduceIte, reduceCtorEq, Nat.reduceEqDiff, Nat.reduceAdd, Nat.reduceSub, Nat.reduceMul, Nat.reduceLeDiff, ne_eq, not_false_eq_true, Int.reduceEq, Int.reduceLT, Int.reduceLE, Int.reduceNeg, Int.reduceToNat, Int.reduceGT, Int.reduceGE, Nat.reduceLT, Nat.lt_add_one, Nat.zero_lt_succ, Nat.succ_pos, Nat.zero_le, beq_self_eq_true]
  refine Cf.rd (take_ok hb hn hl) fun t => ?_
  unfold needR
  generalize takeR p.length r = q at *
  obtain ⟨x, r'⟩ := q
  have hb2 : (h.set id (bx r') ++ t)[id]? = some (O.box [.str r'.1, .bool r'.2]) := rd_at hi
  by_cases hx : x = p
  · have d : (x == p) = true := by simpa using hx
    rw [if_pos hx]
    simp (maxSteps := 4000000) only [vm, vl, Arg.get, cells, stor, boundO, resultsV, resV, partK, loadV, Vm.part, fillC, splice, reduceIte, reduceCtorEq, Nat.reduceEqDiff, Nat.reduceAdd, Nat.reduceSub, Nat.reduceMul, Nat.reduceLeDiff, ne_eq, not_false_eq_true, Int.reduceEq, Int.reduceLT, Int.reduceLE, Int.reduceNeg, Int.reduceToNat, Int.reduceGT, Int.reduceGE, Nat.reduceLT, Nat.lt_add_one, Nat.zero_lt_succ, Nat.succ_pos, Nat.zero_le, beq_self_eq_true, d, Bool.not_true]
    exact ⟨rfl, t, rfl⟩
  · have d : (x == p) = false := by simpa using hx
    rw [if_neg hx]
    simp (maxSteps := 4000000) only [vm, vl, Arg.get, cells, stor, boundO, resultsV, resV, partK, loadV, Vm.part, fillC, splice, reduceIte, reduceCtorEq, Nat.reduceEqDiff, Nat.reduceAdd, Nat.reduceSub, Nat.reduceMul, Nat.reduceLeDiff, ne_eq, not_false_eq_true, Int.reduceEq, Int.reduceLT, Int.reduceLE, Int.reduceNeg, Int.reduceToNat, Int.reduceGT, Int.reduceGE, Nat.reduceLT, Nat.lt_add_one, Nat.zero_lt_succ, Nat.succ_pos, Nat.zero_le, beq_self_eq_true, d, Bool.not_false, hb2]
    refine ⟨rfl, t, ?_⟩
    rw [rd_set hi]; rfl
def dgt (c : UInt8) : Int := ((c.toNat + 208) % 256 : Nat)
def isDig (c : UInt8) : Bool := decide (48 ≤ (c.toNat : Int) ∧ (c.toNat : Int) ≤ 57)
theorem dgt_wrap (c : UInt8) : IntKind.u8.wrap ((c.toNat : Int) - 48) = dgt c := byte_all (p := fun c => IntKind.u8.wrap ((c.toNat : Int) - 48) = dgt c) (by decide +kernel) c
theorem dgt_range (c : UInt8) : 0 ≤ dgt c ∧ dgt c ≤ 255 := by unfold dgt; omega
theorem digit_ok {c : UInt8} {id ir iv : Nat} {r : Rd} {v : Int} (hb : h[id]? = some (bx r)) (h1 : h[ir]? = some (.box [.ptr id 0])) (h2 : h[iv]? = some (.box [.int .i64 v])) (hne : iv ≠ id) (v0 : 0 ≤ v) (v1 : v ≤ 100000000) :
    Cf F L i___gatepost_date_reader__number_1 [.int .u8 c.toNat, .ptr ir 0, .ptr iv 0] h (fun _ h' => h' = (h.set id (bx (r.1, r.2 && isDig c))).set iv (.box [.int .i64 (10 * v + dgt c)])) := by
  refine run___gatepost_date_reader__number_1 ?_
  simp only [p___gatepost_date_reader__number_1]
  have hb' : h[id]? = some (O.box [.str r.1, .bool r.2]) := hb
  obtain ⟨d0, d1⟩ := dgt_range c
  have w1 : IntKind.i64.wrap (10 * v) = 10 * v := wrap64 (by omega) (by omega)
  have w2 : IntKind.i64.wrap (dgt c) = dgt c := wrap64 (by omega) (by omega)
  have w3 : IntKind.i64.wrap (10 * v + dgt c) = 10 * v + dgt c := wrap64 (by omega) (by omega)
  have wd := dgt_wrap c
  have hiv : (h.set id (bx (r.1, false)))[iv]? = some (.box [.int .i64 v]) := by rw [List.getElem?_set_ne (Ne.symm hne)]; exact h2
  have hiv' : (h.set id (O.box [.str r.1, .bool false]))[iv]? = some (.box [.int .i64 v]) := hiv
  have same : h.set id (bx r) = h := by
    have hi := rd_len hb
    apply List.ext_getElem?
    intro j
    by_cases hj : id = j
    · subst hj; rw [List.getElem?_set_self hi, hb]
    · rw [List.getElem?_set_ne hj]
  by_cases c1 : (c.toNat : Int) < 48
  · have q : isDig c = false := by simp [isDig]; omega
    rw [q, Bool.and_false]
    simp (maxSteps := 4000000) only [vm, vl, Arg.get, cells, stor, boundO, resultsV, resV, partK, loadV, Vm.part, fillC, splice, reduceIte, reduceCtorEq, Nat.reduceEqDiff, Nat.reduceAdd, Nat.reduceSub, Nat.reduceMul, Nat.reduceLeDiff, ne_eq, not_false_eq_true, Int.reduceEq, Int.reduceLT, Int.reduceLE, Int.reduceNeg, Int.reduceToNat, Int.reduceGT, Int.reduceGE, Nat.reduceLT, Nat.lt_add_one, Nat.zero_lt_succ, Nat.succ_pos, Nat.zero_le, beq_self_eq_true, k___gatepost_date_reader__number_1_0, c1, decide_true, h1, hb', hiv', h2, w1, w2, w3, wd]
    rfl
  · by_cases c2 : (c.toNat : Int) > 57
    · have q : isDig c = false := by simp [isDig]; omega
      rw [q, Bool.and_false]
      simp (maxSteps := 4000000) only [vm, vl, Arg.get, cells, stor, boundO, resultsV, resV, partK, loadV, Vm.part, fillC, splice, reduceIte, reduceCtorEq, Nat.reduceEqDiff, Nat.reduceAdd, Nat.reduceSub, Nat.reduceMul, Nat.reduceLeDiff, ne_eq, not_false_eq_true, Int.reduceEq, Int.reduceLT, Int.reduceLE, Int.reduceNeg, Int.reduceToNat, Int.reduceGT, Int.reduceGE, Nat.reduceLT, Nat.lt_add_one, Nat.zero_lt_succ, Nat.succ_pos, Nat.zero_le, beq_self_eq_true, k___gatepost_date_reader__number_1_0, c1, c2, decide_true, decide_false, h1, hb', hiv', h2, w1, w2, w3, wd]
      rfl
    · have q : isDig c = true := by simp [isDig]; omega
      rw [q, Bool.and_true, same]
      simp (maxSteps := 4000000) only [vm, vl, Arg.get, cells, stor, boundO, resultsV, resV, partK, loadV, Vm.part, fillC, splice, reduceIte, reduceCtorEq, Nat.reduceEqDiff, Nat.reduceAdd, Nat.reduceSub, Nat.reduceMul, Nat.reduceLeDiff, ne_eq, not_false_eq_true, Int.reduceEq, Int.reduceLT, Int.reduceLE, Int.reduceNeg, Int.reduceToNat, Int.reduceGT, Int.reduceGE, Nat.reduceLT, Nat.lt_add_one, Nat.zero_lt_succ, Nat.succ_pos, Nat.zero_le, beq_self_eq_true, k___gatepost_date_reader__number_1_0, c1, c2, decide_true, decide_false, h1, hb', hiv', h2, w1, w2, w3, wd]
def numV (s : Bs) : Int := s.foldl (fun v c => 10 * v + dgt c) 0
theorem numV_snoc (s : Bs) (c : UInt8) : numV (s ++ [c]) = 10 * numV s + dgt c := by simp [numV, List.foldl_append]
theorem numV_le {s : Bs} (h : s.length ≤ 4) : 0 ≤ numV s ∧ numV s ≤ 283305 := by
  match s, h with
  | [], _ => simp [numV]
  | [a], _ => have := dgt_range a; simp [numV]; omega
  | [a, b], _ => have := dgt_range a; have := dgt_range b; simp [numV]; omega
  | [a, b, c], _ => have := dgt_range a; have := dgt_range b; have := dgt_range c; simp [numV]; omega
  | [a, b, c, d], _ => have := dgt_range a; have := dgt_range b; have := dgt_range c; have := dgt_range d; simp [numV]; omega
  | _ :: _ :: _ :: _ :: _ :: _, h => simp at h
def numR (n : Nat) (r : Rd) : Int × Rd := (numV (takeR n r).1, ((takeR n r).2.1, (takeR n r).2.2 && (takeR n r).1.all isDig))
theorem takeR_len (n : Nat) (r : Rd) : (takeR n r).1.length ≤ n := by
  unfold takeR; split
  · simp
  · rw [List.length_take]; omega
theorem num_loop {id ir iv : Nat} {s : Bs} {r : Rd} {e : Env} {hh : Heap} (hi : id < h.length) (hs : s.length ≤ 4) (e5 : e 5 = .str s) (e6 : e 6 = .ptr iv 0) (e7 : e 7 = .fn i___gatepost_date_reader__number_1 [.ptr ir 0, .ptr iv 0]) (e14 : e 14 = .int .i64 s.length) (e15 : e 15 = .int .i64 0)
    (hh1 : ∃ t, hh = h.set id (bx r) ++ t) (g1 : hh[ir]? = some (.box [.ptr id 0])) (g2 : hh[iv]? = some (.box [.int .i64 0])) (n1 : h.length ≤ ir) (n2 : h.length ≤ iv) (n3 : ir ≠ iv) :
    Wl F L lc___gatepost_date_reader__number_0 (q___gatepost_date_reader__number_0 L (RdP h id (.int .i64 (numV s)) (r.1, r.2 && s.all isDig))) e hh := by
  refine l___gatepost_date_reader__number_0 (fun n e h' => ∃ i, n = s.length - i ∧ i ≤ s.length ∧ e 5 = .str s ∧ e 6 = .ptr iv 0 ∧ e 7 = .fn i___gatepost_date_reader__number_1 [.ptr ir 0, .ptr iv 0] ∧ e 14 = .int .i64 s.length ∧ e 15 = .int .i64 i ∧
    (∃ t, h' = h.set id (bx (r.1, r.2 && (s.take i).all isDig)) ++ t) ∧ h'[ir]? = some (.box [.ptr id 0]) ∧ h'[iv]? = some (.box [.int .i64 (numV (s.take i))])) ?_ (n := s.length) ⟨0, by simp, by simp, e5, e6, e7, e14, e15, by simpa using hh1, g1, by simpa [numV] using g2⟩
  clear e5 e6 e7 e14 e15 hh1 g1 g2
  rintro n e h' ⟨i, rfl, hil, e5, e6, e7, e14, e15, ⟨t, rfl⟩, g1, g2⟩
  simp only [b___gatepost_date_reader__number_0]
  
  rcases Nat.lt_or_eq_of_le hil with hlt | rfl
  · have hl : (i : Int) < s.length := by omega
    have w := wrap64 (x := (i : Int) + 1) (by omega) (by omega)
    obtain ⟨c, hc, htk⟩ : ∃ c, s.getD i 0 = c ∧ s.take (i + 1) = s.take i ++ [c] := ⟨s[i], by rw [List.getD_eq_getElem?_getD, List.getElem?_eq_getElem hlt]; rfl, by rw [List.take_add_one, List.getElem?_eq_getElem hlt]; rfl⟩
    have i0 : (0 : Int) ≤ i := by omega
    obtain ⟨b0, b1⟩ := numV_le (s := s.take i) (by rw [List.length_take]; omega)
    simp (maxSteps := 4000000) only [vm, vl, Arg.get, cells, stor, boundO, resultsV, resV, partK, loadV, Vm.part, fillC, splice, reduceIte, reduceCtorEq, Nat.reduceEqDiff, Nat.reduceAdd, Nat.reduceSub, Nat.reduceMul, Nat.reduceLeDiff, ne_eq, not_false_eq_true, Int.reduceEq, Int.reduceLT, Int.reduceLE, Int.reduceNeg, Int.reduceToNat, Int.reduceGT, Int.reduceGE, Nat.reduceLT, Nat.lt_add_one, Nat.zero_lt_succ, Nat.succ_pos, Nat.zero_le, beq_self_eq_true, k___gatepost_date_reader__number_0, k___gatepost_date_reader__number_2, k___gatepost_date_reader__number_1, e5, e6, e7, e14, e15, hl, i0, hlt, hc, Int.toNat_natCast]
    refine (digit_ok (c := c) (id := id) (ir := ir) (iv := iv) (r := (r.1, r.2 && (s.take i).all isDig)) (rd_at hi) g1 g2 (by omega) b0 (by omega)).mono fun _ h2 hp => ?_
    subst hp
    simp (maxSteps := 4000000) only [vm, vl, Arg.get, cells, stor, boundO, resultsV, resV, partK, loadV, Vm.part, fillC, splice, reduceIte, reduceCtorEq, Nat.reduceEqDiff, Nat.reduceAdd, Nat.reduceSub, Nat.reduceMul, Nat.reduceLeDiff, ne_eq, not_false_eq_true, Int.reduceEq, Int.reduceLT, Int.reduceLE, Int.reduceNeg, Int.reduceToNat, Int.reduceGT, Int.reduceGE, Nat.reduceLT, Nat.lt_add_one, Nat.zero_lt_succ, Nat.succ_pos, Nat.zero_le, beq_self_eq_true, k___gatepost_date_reader__number_0, k___gatepost_date_reader__number_2, k___gatepost_date_reader__number_1, w]
    refine ⟨s.length - (i + 1), by omega, i + 1, rfl, hlt, rfl, ?_, ?_, ?_⟩
    · rw [rd_set hi, List.set_append_right _ _ (by rw [List.length_set]; exact n2)]
      refine ⟨t.set (iv - (h.set id (bx (r.1, (r.2 && (s.take i).all isDig) && isDig c))).length) (.box [.int .i64 (10 * numV (s.take i) + dgt c)]), ?_⟩
      rw [htk, List.all_append]
      simp only [List.all_cons, List.all_nil, Bool.and_true, Bool.and_assoc]
    · rw [List.getElem?_set_ne (Ne.symm n3), List.getElem?_set_ne (by omega)]; exact g1
    · rw [htk, numV_snoc]
      refine List.getElem?_set_self ?_
      rw [List.length_set]
      exact (List.getElem?_eq_some_iff.1 g2).1
  · have hn : ¬ (s.length : Int) < s.length := by omega
    rw [List.take_of_length_le (Nat.le_refl _)] at g2 ⊢
    simp (maxSteps := 4000000) only [vm, vl, Arg.get, cells, stor, boundO, resultsV, resV, partK, loadV, Vm.part, fillC, splice, reduceIte, reduceCtorEq, Nat.reduceEqDiff, Nat.reduceAdd, Nat.reduceSub, Nat.reduceMul, Nat.reduceLeDiff, ne_eq, not_false_eq_true, Int.reduceEq, Int.reduceLT, Int.reduceLE, Int.reduceNeg, Int.reduceToNat, Int.reduceGT, Int.reduceGE, Nat.reduceLT, Nat.lt_add_one, Nat.zero_lt_succ, Nat.succ_pos, Nat.zero_le, beq_self_eq_true, k___gatepost_date_reader__number_0, k___gatepost_date_reader__number_2, k___gatepost_date_reader__number_1, e5, e6, e7, e14, e15, hn, g2]
    exact ⟨rfl, t, rfl⟩
theorem number_ok {id n : Nat} {r : Rd} (hb : h[id]? = some (bx r)) (hn : n ≤ 4) (hl : r.1.length < 9223372036854775807) : Cf F L i___gatepost_date_reader__number [.ptr id 0, .int .i64 n] h (RdP h id (.int .i64 (numR n r).1) (numR n r).2) := by
  refine run___gatepost_date_reader__number ?_
  simp only [p___gatepost_date_reader__number]
  
  have hi := rd_len hb
  simp (maxSteps := 4000000) only [vm, vl, Arg.get, cells, stor, boundO, resultsV, resV, partK, loadV, Vm.part, fillC, splice, reduceIte, reduceCtorEq, Nat.reduceEqDiff, Nat.reduceAdd, Nat.reduceSub, Nat.reduceMul, Nat.reduceLeDiff, ne_eq, not_false_eq_true, Int.reduceEq, Int.reduceLT, Int.reduceLE, Int.reduceNeg, Int.reduceToNat, Int.reduceGT, Int.reduceGE, Nat.reduceLT, Nat.lt_add_one, Nat.zero_lt_succ, Nat.succ_pos, Nat.zero_le, beq_self_eq_true]
  refine Cf.rd (take_ok (h := h ++ [O.box [.ptr id 0]]) (get_old hb) (by omega) hl) fun t => ?_
  have hql := takeR_len n r
  have eR : numR n r = (numV (takeR n r).1, ((takeR n r).2.1, (takeR n r).2.2 && (takeR n r).1.all isDig)) := rfl
  rw [eR]
  generalize takeR n r = q at *
  obtain ⟨s, r'⟩ := q
  rw [List.set_append_left _ _ hi]
  simp only at hql ⊢
  simp (maxSteps := 4000000) only [vm, vl, Arg.get, cells, stor, boundO, resultsV, resV, partK, loadV, Vm.part, fillC, splice, reduceIte, reduceCtorEq, Nat.reduceEqDiff, Nat.reduceAdd, Nat.reduceSub, Nat.reduceMul, Nat.reduceLeDiff, ne_eq, not_false_eq_true, Int.reduceEq, Int.reduceLT, Int.reduceLE, Int.reduceNeg, Int.reduceToNat, Int.reduceGT, Int.reduceGE, Nat.reduceLT, Nat.lt_add_one, Nat.zero_lt_succ, Nat.succ_pos, Nat.zero_le, beq_self_eq_true]
  refine num_loop hi (by omega) rfl rfl rfl rfl rfl ⟨_, rfl⟩ ?_ ?_ (Nat.le_refl _) (by omega) (by omega)
  · rw [List.getElem?_append_right (by rw [List.length_set]; omega), List.length_set, Nat.sub_self]; rfl
  · rw [List.getElem?_append_right (by rw [List.length_set]; omega), List.length_set, show h.length + (t.length + 1) - h.length = t.length + 1 by omega, List.getElem?_cons_succ, List.getElem?_append_right (Nat.le_refl _), Nat.sub_self]; rfl
open Go.Vm Go.Vt
attribute [local congr] wi_congr wg_congr wgd_congr wb_congr wl_congr cf_congr
/-- A text's first place in a list; the length where it is not. -/
def lpos (x : Bs) (l : List Bs) : Nat := (l.takeWhile (· != x)).length
theorem lpos_cons (x y : Bs) (r : List Bs) : lpos x (y :: r) = if y = x then 0 else lpos x r + 1 := by
  unfold lpos
  rw [List.takeWhile_cons]
  by_cases h : y = x <;> simp [h]
theorem lpos_at {x : Bs} : ∀ {l : List Bs} {i : Nat}, i < l.length → (∀ j, j < i → l.getD j [] ≠ x) → l.getD i [] = x → lpos x l = i
  | y :: r, 0, _, _, h => by rw [lpos_cons, if_pos (by simpa using h)]
  | y :: r, i + 1, hi, hj, h => by
    rw [lpos_cons, if_neg (by simpa using hj 0 (by omega)), lpos_at (by simpa using hi) (fun j hlt => by simpa using hj (j + 1) (by omega)) (by simpa using h)]
  | [], _, hi, _, _ => by simp at hi
theorem lpos_none {x : Bs} : ∀ {l : List Bs}, (∀ j, j < l.length → l.getD j [] ≠ x) → lpos x l = l.length
  | [], _ => rfl
  | y :: r, hj => by
    rw [lpos_cons, if_neg (by simpa using hj 0 (by simp)), lpos_none fun j hlt => by simpa using hj (j + 1) (by simpa using hlt)]; rfl
def monR (r : Rd) : Int × Rd := if lpos (takeR 3 r).1 monLs < 12 then ((lpos (takeR 3 r).1 monLs : Int) + 1, (takeR 3 r).2) else (0, ((takeR 3 r).2.1, false))
theorem month_ok' {id : Nat} {r : Rd} (hb : h[id]? = some (bx r)) (hl : r.1.length < 9223372036854775807) : Cf F L i___gatepost_date_reader__month [.ptr id 0] h (RdP h id (.int .i64 (monR r).1) (monR r).2) := by
  refine run___gatepost_date_reader__month ?_
  simp only [p___gatepost_date_reader__month]
  have hi := rd_len hb
  simp (maxSteps := 4000000) only [vm, vl, Arg.get, cells, stor, boundO, resultsV, resV, partK, loadV, Vm.part, fillC, splice, reduceIte, reduceCtorEq, Nat.reduceEqDiff, Nat.reduceAdd, Nat.reduceSub, Nat.reduceMul, Nat.reduceLeDiff, ne_eq, not_false_eq_true, Int.reduceEq, Int.reduceLT, Int.reduceLE, Int.reduceNeg, Int.reduceToNat, Int.reduceGT, Int.reduceGE, Nat.reduceLT, Nat.lt_add_one, Nat.zero_lt_succ, Nat.succ_pos, Nat.zero_le, beq_self_eq_true, k___gatepost_date_reader__month_0, k___gatepost_date_reader__month_2, k___gatepost_date_reader__month_1]
  refine Cf.rd (take_ok (n := 3) hb (by omega) hl) fun t => ?_
  unfold monR
  generalize takeR 3 r = q at *
  obtain ⟨s, r'⟩ := q
  simp only
  try simp (maxSteps := 4000000) only [vm, vl, Arg.get, cells, stor, boundO, resultsV, resV, partK, loadV, Vm.part, fillC, splice, reduceIte, reduceCtorEq, Nat.reduceEqDiff, Nat.reduceAdd, Nat.reduceSub, Nat.reduceMul, Nat.reduceLeDiff, ne_eq, not_false_eq_true, Int.reduceEq, Int.reduceLT, Int.reduceLE, Int.reduceNeg, Int.reduceToNat, Int.reduceGT, Int.reduceGE, Nat.reduceLT, Nat.lt_add_one, Nat.zero_lt_succ, Nat.succ_pos, Nat.zero_le, beq_self_eq_true, k___gatepost_date_reader__month_0, k___gatepost_date_reader__month_2, k___gatepost_date_reader__month_1]
  refine Cf.pu monthNames_ok fun t1 => ?_
  try simp (maxSteps := 4000000) only [vm, vl, Arg.get, cells, stor, boundO, resultsV, resV, partK, loadV, Vm.part, fillC, splice, reduceIte, reduceCtorEq, Nat.reduceEqDiff, Nat.reduceAdd, Nat.reduceSub, Nat.reduceMul, Nat.reduceLeDiff, ne_eq, not_false_eq_true, Int.reduceEq, Int.reduceLT, Int.reduceLE, Int.reduceNeg, Int.reduceToNat, Int.reduceGT, Int.reduceGE, Nat.reduceLT, Nat.lt_add_one, Nat.zero_lt_succ, Nat.succ_pos, Nat.zero_le, beq_self_eq_true, k___gatepost_date_reader__month_0, k___gatepost_date_reader__month_2, k___gatepost_date_reader__month_1]
  refine l___gatepost_date_reader__month_0 (fun n e h' => ∃ i, n = 12 - i ∧ i ≤ 12 ∧ e 0 = .ptr id 0 ∧ e 3 = .str s ∧ e 8 = .agg (monLs.map .str) ∧ e 9 = .int .i64 i ∧ (∃ t, h' = h.set id (bx r') ++ t) ∧ ∀ j, j < i → monLs.getD j [] ≠ s) ?_ (n := 12) ⟨0, by simp, by simp, rfl, rfl, rfl, rfl, ⟨_, rfl⟩, by simp⟩
  rintro n e h' ⟨i, rfl, hil, e0, e3, e8, e9, ⟨t2, rfl⟩, hj⟩
  simp only [b___gatepost_date_reader__month_0]
  have hb2 : (h.set id (bx r') ++ t2)[id]? = some (O.box [.str r'.1, .bool r'.2]) := rd_at hi
  have z2 : (monLs.map V.str).length = 12 := rfl
  rcases Nat.lt_or_eq_of_le hil with hlt | rfl
  · have hl12 : (i : Int) < 12 := by omega
    have i0 : (0 : Int) ≤ i := by omega
    have i11 : i ≤ 11 := by omega
    have r2 : (monLs.map V.str).getD i (.tup []) = .str (monLs.getD i []) := aggstr_at hlt
    have w := wrap64 (x := (i : Int) + 1) (by omega) (by omega)
    generalize hmv : monLs.map V.str = mvs at *
    by_cases hx : monLs.getD i [] = s
    · have hp : lpos s monLs = i := lpos_at hlt hj hx
      have d : (monLs.getD i [] == s) = true := by simpa using hx
      rw [hp, if_pos hlt]
      simp (maxSteps := 4000000) only [vm, vl, Arg.get, cells, stor, boundO, resultsV, resV, partK, loadV, Vm.part, fillC, splice, reduceIte, reduceCtorEq, Nat.reduceEqDiff, Nat.reduceAdd, Nat.reduceSub, Nat.reduceMul, Nat.reduceLeDiff, ne_eq, not_false_eq_true, Int.reduceEq, Int.reduceLT, Int.reduceLE, Int.reduceNeg, Int.reduceToNat, Int.reduceGT, Int.reduceGE, Nat.reduceLT, Nat.lt_add_one, Nat.zero_lt_succ, Nat.succ_pos, Nat.zero_le, beq_self_eq_true, k___gatepost_date_reader__month_0, k___gatepost_date_reader__month_2, k___gatepost_date_reader__month_1, e0, e3, e8, e9, hl12, i0, i11, z2, r2, w, d, Int.toNat_natCast]
      exact ⟨rfl, t2, rfl⟩
    · have d : (monLs.getD i [] == s) = false := by simpa using hx
      simp (maxSteps := 4000000) only [vm, vl, Arg.get, cells, stor, boundO, resultsV, resV, partK, loadV, Vm.part, fillC, splice, reduceIte, reduceCtorEq, Nat.reduceEqDiff, Nat.reduceAdd, Nat.reduceSub, Nat.reduceMul, Nat.reduceLeDiff, ne_eq, not_false_eq_true, Int.reduceEq, Int.reduceLT, Int.reduceLE, Int.reduceNeg, Int.reduceToNat, Int.reduceGT, Int.reduceGE, Nat.reduceLT, Nat.lt_add_one, Nat.zero_lt_succ, Nat.succ_pos, Nat.zero_le, beq_self_eq_true, k___gatepost_date_reader__month_0, k___gatepost_date_reader__month_2, k___gatepost_date_reader__month_1, e0, e3, e8, e9, hl12, i0, i11, z2, r2, w, d, Int.toNat_natCast]
      refine ⟨12 - (i + 1), by omega, i + 1, rfl, hlt, rfl, ⟨t2, rfl⟩, ?_⟩
      intro j hj'
      rcases Nat.lt_or_ge j i with h1 | h1
      · exact hj j h1
      · have : j = i := by omega
        subst this; exact hx
  · have hp : lpos s monLs = 12 := lpos_none hj
    rw [hp, if_neg (by omega)]
    have hn : ¬ (((12 : Nat) : Int) < 12) := by omega
    simp (maxSteps := 4000000) only [vm, vl, Arg.get, cells, stor, boundO, resultsV, resV, partK, loadV, Vm.part, fillC, splice, reduceIte, reduceCtorEq, Nat.reduceEqDiff, Nat.reduceAdd, Nat.reduceSub, Nat.reduceMul, Nat.reduceLeDiff, ne_eq, not_false_eq_true, Int.reduceEq, Int.reduceLT, Int.reduceLE, Int.reduceNeg, Int.reduceToNat, Int.reduceGT, Int.reduceGE, Nat.reduceLT, Nat.lt_add_one, Nat.zero_lt_succ, Nat.succ_pos, Nat.zero_le, beq_self_eq_true, k___gatepost_date_reader__month_0, k___gatepost_date_reader__month_2, k___gatepost_date_reader__month_1, e0, e3, e8, e9, hn, hb2]
    refine ⟨rfl, t2, ?_⟩
    rw [rd_set hi]; rfl
theorem takeR_rest (n : Nat) (r : Rd) : (takeR n r).2.1.length ≤ r.1.length := by
  unfold takeR; split
  · simp
  · simp only [List.length_drop]; omega
theorem needR_rest (p : Bs) (r : Rd) : (needR p r).1.length ≤ r.1.length := by
  have := takeR_rest p.length r
  unfold needR; split <;> exact this
theorem numR_rest (n : Nat) (r : Rd) : (numR n r).2.1.length ≤ r.1.length := takeR_rest n r
theorem numR_le {n : Nat} (hn : n ≤ 4) (r : Rd) : 0 ≤ (numR n r).1 ∧ (numR n r).1 ≤ 283305 := numV_le (Nat.le_trans (takeR_len n r) hn)
theorem monR_rest (r : Rd) : (monR r).2.1.length ≤ r.1.length := by
  have := takeR_rest 3 r
  unfold monR; split <;> exact this
theorem daysS_range (y m d : Int) : -1 ≤ daysS y m d ∧ daysS y m d ≤ 2932896 := by
  unfold daysS
  split
  · rename_i h
    obtain ⟨h1, h2, _⟩ := civil_num y m d h.1 h.2.1 h.2.2.1 h.2.2.2.1 h.2.2.2.2.1 h.2.2.2.2.2
    omega
  · omega
def secR (r : Rd) (w y m d c : Int) : V := if r.2 = true ∧ r.1 = [] ∧ 0 ≤ daysS y m d ∧ (daysS y m d + 3) % 7 = w then .tup [.int .i64 (daysS y m d * 86400 + c), .bool true] else .tup [.int .i64 0, .bool false]
theorem second_ok {id : Nat} {r : Rd} {w y m d c : Int} (hb : h[id]? = some (bx r)) (c0 : 0 ≤ c) (c1 : c ≤ 100000000000) : Cf F L i___gatepost_date_reader__second [.ptr id 0, .int .i64 w, .int .i64 y, .int .i64 m, .int .i64 d, .int .i64 c] h (Pu h (secR r w y m d c)) := by
  refine run___gatepost_date_reader__second ?_
  simp only [p___gatepost_date_reader__second]
  refine Cf.pu Days_ok fun t => ?_
  obtain ⟨d0, d1⟩ := daysS_range y m d
  unfold secR
  generalize daysS y m d = n at *
  obtain ⟨s, ok⟩ := r
  have hb' : (h ++ t)[id]? = some (O.box [.str s, .bool ok]) := get_old hb
  cases ok with
  | false =>
    rw [if_neg (by rintro ⟨h, _⟩; cases h)]
    simp (maxSteps := 4000000) only [vm, vl, Arg.get, cells, stor, boundO, resultsV, resV, partK, loadV, Vm.part, fillC, splice, reduceIte, reduceCtorEq, Nat.reduceEqDiff, Nat.reduceAdd, Nat.reduceSub, Nat.reduceMul, Nat.reduceLeDiff, ne_eq, not_false_eq_true, Int.reduceEq, Int.reduceLT, Int.reduceLE, Int.reduceNeg, Int.reduceToNat, Int.reduceGT, Int.reduceGE, Nat.reduceLT, Nat.lt_add_one, Nat.zero_lt_succ, Nat.succ_pos, Nat.zero_le, beq_self_eq_true, k___gatepost_date_reader__second_0, hb', Bool.not_false]
  | true =>
  by_cases hs : s = []
  · subst hs
    have ds : (([] : Bs) == []) = true := rfl
    by_cases n0 : n < 0
    · rw [if_neg (by rintro ⟨_, _, h, _⟩; omega)]
      simp (maxSteps := 4000000) only [vm, vl, Arg.get, cells, stor, boundO, resultsV, resV, partK, loadV, Vm.part, fillC, splice, reduceIte, reduceCtorEq, Nat.reduceEqDiff, Nat.reduceAdd, Nat.reduceSub, Nat.reduceMul, Nat.reduceLeDiff, ne_eq, not_false_eq_true, Int.reduceEq, Int.reduceLT, Int.reduceLE, Int.reduceNeg, Int.reduceToNat, Int.reduceGT, Int.reduceGE, Nat.reduceLT, Nat.lt_add_one, Nat.zero_lt_succ, Nat.succ_pos, Nat.zero_le, beq_self_eq_true, k___gatepost_date_reader__second_0, hb', Bool.not_true, ds, n0, decide_true]
    · have w1 : IntKind.i64.wrap (n + 3) = n + 3 := wrap64 (by omega) (by omega)
      have q1 : (n + 3).tmod 7 = (n + 3) % 7 := tmod_nn (by omega)
      have w2 : IntKind.i64.wrap (n * 86400) = n * 86400 := wrap64 (by omega) (by omega)
      have w3 : IntKind.i64.wrap (n * 86400 + c) = n * 86400 + c := wrap64 (by omega) (by omega)
      by_cases hw : (n + 3) % 7 = w
      · rw [if_pos ⟨rfl, rfl, by omega, hw⟩]
        simp (maxSteps := 4000000) only [vm, vl, Arg.get, cells, stor, boundO, resultsV, resV, partK, loadV, Vm.part, fillC, splice, reduceIte, reduceCtorEq, Nat.reduceEqDiff, Nat.reduceAdd, Nat.reduceSub, Nat.reduceMul, Nat.reduceLeDiff, ne_eq, not_false_eq_true, Int.reduceEq, Int.reduceLT, Int.reduceLE, Int.reduceNeg, Int.reduceToNat, Int.reduceGT, Int.reduceGE, Nat.reduceLT, Nat.lt_add_one, Nat.zero_lt_succ, Nat.succ_pos, Nat.zero_le, beq_self_eq_true, k___gatepost_date_reader__second_0, hb', Bool.not_true, ds, n0, decide_false, decide_true, w1, q1, bin_rem, hw, w2, w3]
      · rw [if_neg (by rintro ⟨_, _, _, h⟩; exact hw h)]
        simp (maxSteps := 4000000) only [vm, vl, Arg.get, cells, stor, boundO, resultsV, resV, partK, loadV, Vm.part, fillC, splice, reduceIte, reduceCtorEq, Nat.reduceEqDiff, Nat.reduceAdd, Nat.reduceSub, Nat.reduceMul, Nat.reduceLeDiff, ne_eq, not_false_eq_true, Int.reduceEq, Int.reduceLT, Int.reduceLE, Int.reduceNeg, Int.reduceToNat, Int.reduceGT, Int.reduceGE, Nat.reduceLT, Nat.lt_add_one, Nat.zero_lt_succ, Nat.succ_pos, Nat.zero_le, beq_self_eq_true, k___gatepost_date_reader__second_0, hb', Bool.not_true, Bool.not_false, ds, n0, decide_false, w1, q1, bin_rem, hw]
  · have ds : (s == []) = false := by simpa using hs
    rw [if_neg (by rintro ⟨_, h, _⟩; exact hs h)]
    simp (maxSteps := 4000000) only [vm, vl, Arg.get, cells, stor, boundO, resultsV, resV, partK, loadV, Vm.part, fillC, splice, reduceIte, reduceCtorEq, Nat.reduceEqDiff, Nat.reduceAdd, Nat.reduceSub, Nat.reduceMul, Nat.reduceLeDiff, ne_eq, not_false_eq_true, Int.reduceEq, Int.reduceLT, Int.reduceLE, Int.reduceNeg, Int.reduceToNat, Int.reduceGT, Int.reduceGE, Nat.reduceLT, Nat.lt_add_one, Nat.zero_lt_succ, Nat.succ_pos, Nat.zero_le, beq_self_eq_true, k___gatepost_date_reader__second_0, hb', Bool.not_true, Bool.not_false, ds]
def clkR (r : Rd) : Int × Rd :=
  let q1 := numR 2 r; let r2 := needR [58] q1.2; let q3 := numR 2 r2; let r4 := needR [58] q3.2; let q5 := numR 2 r4
  (q1.1 * 3600 + q3.1 * 60 + min q5.1 59, if q1.1 ≥ 24 ∨ q3.1 ≥ 60 ∨ q5.1 > 60 then (q5.2.1, false) else q5.2)
theorem clock_ok {id : Nat} {r : Rd} (hb : h[id]? = some (bx r)) (hl : r.1.length < 9223372036854775807) : Cf F L i___gatepost_date_reader__clock [.ptr id 0] h (RdP h id (.int .i64 (clkR r).1) (clkR r).2) := by
  refine run___gatepost_date_reader__clock ?_
  simp only [p___gatepost_date_reader__clock]
  have hi := rd_len hb
  have l1 := numR_rest 2 r
  have b1 := numR_le (n := 2) (by omega) r
  refine Cf.rd (number_ok (n := 2) hb (by omega) hl) fun t1 => ?_
  unfold clkR
  generalize numR 2 r = q1 at *
  have l2 := needR_rest [58] q1.2
  refine Cf.rd (need_ok (p := [58]) (rd_at hi) (by simp) (by omega)) fun t2 => ?_
  rw [rd_set hi]
  simp only
  generalize needR [58] q1.2 = r2 at *
  have l3 := numR_rest 2 r2
  have b3 := numR_le (n := 2) (by omega) r2
  rw [List.append_assoc]
  refine Cf.rd (number_ok (n := 2) (rd_at hi) (by omega) (by omega)) fun t3 => ?_
  rw [rd_set hi]
  generalize numR 2 r2 = q3 at *
  have l4 := needR_rest [58] q3.2
  rw [List.append_assoc]
  refine Cf.rd (need_ok (p := [58]) (rd_at hi) (by simp) (by omega)) fun t4 => ?_
  rw [rd_set hi]
  generalize needR [58] q3.2 = r4 at *
  have l5 := numR_rest 2 r4
  have b5 := numR_le (n := 2) (by omega) r4
  rw [List.append_assoc]
  refine Cf.rd (number_ok (n := 2) (rd_at hi) (by omega) (by omega)) fun t5 => ?_
  rw [rd_set hi]
  generalize numR 2 r4 = q5 at *
  obtain ⟨a, x1⟩ := q1; obtain ⟨m, x3⟩ := q3; obtain ⟨c, x5⟩ := q5
  simp only at *
  have w1 : IntKind.i64.wrap (a * 3600) = a * 3600 := wrap64 (by omega) (by omega)
  have w2 : IntKind.i64.wrap (m * 60) = m * 60 := wrap64 (by omega) (by omega)
  have w3 : IntKind.i64.wrap (a * 3600 + m * 60) = a * 3600 + m * 60 := wrap64 (by omega) (by omega)
  have w4 : IntKind.i64.wrap (a * 3600 + m * 60 + min c 59) = a * 3600 + m * 60 + min c 59 := wrap64 (by omega) (by omega)
  have hb2 : ∀ t, (h.set id (bx x5) ++ t)[id]? = some (O.box [.str x5.1, .bool x5.2]) := fun t => rd_at hi
  have fin : ∀ t : Heap, ∃ t', (h.set id (bx x5) ++ t).set id (O.box [.str x5.1, .bool false]) = h.set id (bx (x5.1, false)) ++ t' := fun t => ⟨t, rd_set hi⟩
  by_cases h1 : a ≥ 24
  · rw [if_pos (.inl h1)]
    simp (maxSteps := 4000000) only [vm, vl, Arg.get, cells, stor, boundO, resultsV, resV, partK, loadV, Vm.part, fillC, splice, reduceIte, reduceCtorEq, Nat.reduceEqDiff, Nat.reduceAdd, Nat.reduceSub, Nat.reduceMul, Nat.reduceLeDiff, ne_eq, not_false_eq_true, Int.reduceEq, Int.reduceLT, Int.reduceLE, Int.reduceNeg, Int.reduceToNat, Int.reduceGT, Int.reduceGE, Nat.reduceLT, Nat.lt_add_one, Nat.zero_lt_succ, Nat.succ_pos, Nat.zero_le, beq_self_eq_true, k___gatepost_date_reader__clock_0, h1, decide_true, hb2, w1, w2, w3, w4]
    exact ⟨rfl, fin _⟩
  · by_cases h2 : m ≥ 60
    · rw [if_pos (.inr (.inl h2))]
      simp (maxSteps := 4000000) only [vm, vl, Arg.get, cells, stor, boundO, resultsV, resV, partK, loadV, Vm.part, fillC, splice, reduceIte, reduceCtorEq, Nat.reduceEqDiff, Nat.reduceAdd, Nat.reduceSub, Nat.reduceMul, Nat.reduceLeDiff, ne_eq, not_false_eq_true, Int.reduceEq, Int.reduceLT, Int.reduceLE, Int.reduceNeg, Int.reduceToNat, Int.reduceGT, Int.reduceGE, Nat.reduceLT, Nat.lt_add_one, Nat.zero_lt_succ, Nat.succ_pos, Nat.zero_le, beq_self_eq_true, k___gatepost_date_reader__clock_0, h1, h2, decide_true, decide_false, hb2, w1, w2, w3, w4]
      exact ⟨rfl, fin _⟩
    · by_cases h3 : c > 60
      · rw [if_pos (.inr (.inr h3))]
        simp (maxSteps := 4000000) only [vm, vl, Arg.get, cells, stor, boundO, resultsV, resV, partK, loadV, Vm.part, fillC, splice, reduceIte, reduceCtorEq, Nat.reduceEqDiff, Nat.reduceAdd, Nat.reduceSub, Nat.reduceMul, Nat.reduceLeDiff, ne_eq, not_false_eq_true, Int.reduceEq, Int.reduceLT, Int.reduceLE, Int.reduceNeg, Int.reduceToNat, Int.reduceGT, Int.reduceGE, Nat.reduceLT, Nat.lt_add_one, Nat.zero_lt_succ, Nat.succ_pos, Nat.zero_le, beq_self_eq_true, k___gatepost_date_reader__clock_0, h1, h2, h3, decide_true, decide_false, hb2, w1, w2, w3, w4]
        exact ⟨rfl, fin _⟩
      · rw [if_neg (by rintro (h | h | h) <;> omega)]
        simp (maxSteps := 4000000) only [vm, vl, Arg.get, cells, stor, boundO, resultsV, resV, partK, loadV, Vm.part, fillC, splice, reduceIte, reduceCtorEq, Nat.reduceEqDiff, Nat.reduceAdd, Nat.reduceSub, Nat.reduceMul, Nat.reduceLeDiff, ne_eq, not_false_eq_true, Int.reduceEq, Int.reduceLT, Int.reduceLE, Int.reduceNeg, Int.reduceToNat, Int.reduceGT, Int.reduceGE, Nat.reduceLT, Nat.lt_add_one, Nat.zero_lt_succ, Nat.succ_pos, Nat.zero_le, beq_self_eq_true, k___gatepost_date_reader__clock_0, h1, h2, h3, decide_true, decide_false, hb2, w1, w2, w3, w4]
        exact ⟨rfl, _, rfl⟩
open Go.Vm Go.Vt
attribute [local congr] wi_congr wg_congr wgd_congr wb_congr wl_congr cf_congr
/-- The first number below n of which p holds; n where there is none. -/
def firstN (p : Nat → Bool) : Nat → Nat
  | 0 => 0
  | n + 1 => if firstN p n < n then firstN p n else if p n then n else n + 1
theorem firstN_none {p : Nat → Bool} : ∀ {n : Nat}, (∀ j, j < n → p j = false) → firstN p n = n
  | 0, _ => rfl
  | n + 1, h => by
    have := firstN_none (n := n) fun j hj => h j (by omega)
    unfold firstN
    rw [this, if_neg (by omega), h n (by omega)]; rfl
theorem firstN_at {p : Nat → Bool} {i : Nat} (h1 : p i = true) (hj : ∀ j, j < i → p j = false) : ∀ {n : Nat}, i < n → firstN p n = i
  | n + 1, hi => by
    unfold firstN
    rcases Nat.lt_or_eq_of_le (Nat.le_of_lt_succ hi) with h | h
    · rw [firstN_at h1 hj h, if_pos h]
    · subst h
      rw [firstN_none hj, if_neg (by omega), h1]; rfl
def nmD (long : Bool) (w : Nat) : Bs := if long then dayLs.getD w [] else (dayLs.getD w []).take 3
def hitD (long : Bool) (s : Bs) (w : Nat) : Bool := decide (s.length > (nmD long w).length) && (s.take (nmD long w).length == nmD long w)
def dayR (long : Bool) (r : Rd) : Int × Rd := if firstN (hitD long r.1) 7 < 7 then ((firstN (hitD long r.1) 7 : Nat), (r.1.drop (nmD long (firstN (hitD long r.1) 7)).length, r.2)) else (0, (r.1, false))
theorem nmD_len (long : Bool) : ∀ w, w < 7 → (nmD long w).length ≤ 10 := by cases long <;> decide
theorem day_ok {id : Nat} {long : Bool} {r : Rd} (hb : h[id]? = some (bx r)) (hl : r.1.length < 9223372036854775807) : Cf F L i___gatepost_date_reader__day [.ptr id 0, .bool long] h (RdP h id (.int .i64 (dayR long r).1) (dayR long r).2) := by
  refine run___gatepost_date_reader__day ?_
  simp only [p___gatepost_date_reader__day]
  have hi := rd_len hb
  refine Cf.pu longDays_ok fun t => ?_
  have same : h.set id (bx r) = h := by
    apply List.ext_getElem?
    intro j
    by_cases hj : id = j
    · subst hj; rw [List.getElem?_set_self hi, hb]
    · rw [List.getElem?_set_ne hj]
  refine l___gatepost_date_reader__day_0 (fun n e h' => ∃ i, n = 7 - i ∧ i ≤ 7 ∧ e 0 = .ptr id 0 ∧ e 1 = .bool long ∧ e 7 = .agg (dayLs.map .str) ∧ e 8 = .int .i64 i ∧ (∃ t, h' = h ++ t) ∧ ∀ j, j < i → hitD long r.1 j = false) ?_ (n := 7) ⟨0, by simp, by simp, rfl, rfl, rfl, rfl, ⟨_, rfl⟩, by simp⟩
  rintro n e h' ⟨i, rfl, hil, e0, e1, e7, e8, ⟨t2, rfl⟩, hj⟩
  simp only [b___gatepost_date_reader__day_0]
  have hb2 : (h ++ t2)[id]? = some (O.box [.str r.1, .bool r.2]) := get_old hb
  have z2 : (dayLs.map V.str).length = 7 := rfl
  rcases Nat.lt_or_eq_of_le hil with hlt | rfl
  · have hl7 : (i : Int) < 7 := by omega
    have i0 : (0 : Int) ≤ i := by omega
    have i6 : i ≤ 6 := by omega
    have r2 : (dayLs.map V.str).getD i (.tup []) = .str (dayLs.getD i []) := aggstr_at hlt
    have w := wrap64 (x := (i : Int) + 1) (by omega) (by omega)
    have hn10 := nmD_len long i hlt
    obtain ⟨u1, _⟩ := day3 i hlt
    generalize hdv : dayLs.map V.str = dvs at *
    have tail : ∀ (e : Env), e 0 = .ptr id 0 → e 1 = .bool long → e 7 = .agg dvs → k___gatepost_date_reader__day_3 L (RdP h id (.int .i64 (dayR long r).1) (dayR long r).2) (fun e' h' => ∃ m, m < 7 - i ∧ ∃ i, m = 7 - i ∧ i ≤ 7 ∧ e' 0 = .ptr id 0 ∧ e' 1 = .bool long ∧ e' 7 = .agg dvs ∧ e' 8 = .int .i64 i ∧ (∃ t, h' = h ++ t) ∧ ∀ j, j < i → hitD long r.1 j = false) e (.ptr id 0) (.int .i64 i) (.str (nmD long i)) (.int .i64 i) (h ++ t2) := by
      intro e e0 e1 e7
      
      have no : hitD long r.1 i = false → ∃ m, m < 7 - i ∧ ∃ i, m = 7 - i ∧ i ≤ 7 ∧ True := fun _ => ⟨7 - (i + 1), by omega, i + 1, rfl, hlt, trivial⟩
      have nxt : hitD long r.1 i = false → ∀ j, j < i + 1 → hitD long r.1 j = false := by
        intro hx j hj'
        rcases Nat.lt_or_ge j i with h1 | h1
        · exact hj j h1
        · have : j = i := by omega
          subst this; exact hx
      have hit : hitD long r.1 i = (decide (r.1.length > (nmD long i).length) && (r.1.take (nmD long i).length == nmD long i)) := rfl
      have dR : hitD long r.1 i = true → dayR long r = ((i : Int), (r.1.drop (nmD long i).length, r.2)) := by
        intro hx
        unfold dayR
        rw [firstN_at hx hj hlt, if_pos hlt]
      generalize nmD long i = nm at *
      by_cases c1 : r.1.length > nm.length
      · have c1' : (r.1.length : Int) > nm.length := by omega
        have g1 : nm.length ≤ r.1.length := by omega
        have g0 : (0 : Int) ≤ nm.length := by omega
        have d1 : decide (r.1.length > nm.length) = true := by simpa using c1
        cases c2 : (r.1.take nm.length == nm) with
        | true =>
          have hx : hitD long r.1 i = true := by rw [hit, d1, c2]; rfl
          rw [dR hx]
          simp (maxSteps := 4000000) only [vm, vl, Arg.get, cells, stor, boundO, resultsV, resV, partK, loadV, Vm.part, fillC, splice, reduceIte, reduceCtorEq, Nat.reduceEqDiff, Nat.reduceAdd, Nat.reduceSub, Nat.reduceMul, Nat.reduceLeDiff, ne_eq, not_false_eq_true, Int.reduceEq, Int.reduceLT, Int.reduceLE, Int.reduceNeg, Int.reduceToNat, Int.reduceGT, Int.reduceGE, Nat.reduceLT, Nat.lt_add_one, Nat.zero_lt_succ, Nat.succ_pos, Nat.zero_le, beq_self_eq_true, k___gatepost_date_reader__day_0, k___gatepost_date_reader__day_2, k___gatepost_date_reader__day_3, k___gatepost_date_reader__day_1, hb2, c1', g1, g0, c2, decide_true, Int.toNat_natCast, List.drop_zero]
          have tk := take_ok (L := L) (h := h ++ t2) (n := nm.length) (r := r) (get_old hb) (by omega) hl
          have e : takeR nm.length r = (r.1.take nm.length, (r.1.drop nm.length, r.2)) := if_neg (by omega)
          rw [e] at tk
          refine tk.mono fun v h2 hp => ?_
          obtain ⟨_, t3, rfl⟩ := hp
          refine ⟨rfl, t2 ++ t3, ?_⟩
          rw [List.set_append_left _ _ hi, List.append_assoc]
        | false =>
          have hx : hitD long r.1 i = false := by rw [hit, d1, c2]; rfl
          simp (maxSteps := 4000000) only [vm, vl, Arg.get, cells, stor, boundO, resultsV, resV, partK, loadV, Vm.part, fillC, splice, reduceIte, reduceCtorEq, Nat.reduceEqDiff, Nat.reduceAdd, Nat.reduceSub, Nat.reduceMul, Nat.reduceLeDiff, ne_eq, not_false_eq_true, Int.reduceEq, Int.reduceLT, Int.reduceLE, Int.reduceNeg, Int.reduceToNat, Int.reduceGT, Int.reduceGE, Nat.reduceLT, Nat.lt_add_one, Nat.zero_lt_succ, Nat.succ_pos, Nat.zero_le, beq_self_eq_true, k___gatepost_date_reader__day_0, k___gatepost_date_reader__day_2, k___gatepost_date_reader__day_3, k___gatepost_date_reader__day_1, hb2, c1', g1, g0, c2, decide_true, Int.toNat_natCast, List.drop_zero, w, e0, e1, e7]
          exact ⟨7 - (i + 1), by omega, i + 1, rfl, hlt, rfl, ⟨t2, rfl⟩, nxt hx⟩
      · have c1' : ¬ (r.1.length : Int) > nm.length := by omega
        have d1 : decide (r.1.length > nm.length) = false := by simpa using c1
        have hx : hitD long r.1 i = false := by rw [hit, d1]; rfl
        simp (maxSteps := 4000000) only [vm, vl, Arg.get, cells, stor, boundO, resultsV, resV, partK, loadV, Vm.part, fillC, splice, reduceIte, reduceCtorEq, Nat.reduceEqDiff, Nat.reduceAdd, Nat.reduceSub, Nat.reduceMul, Nat.reduceLeDiff, ne_eq, not_false_eq_true, Int.reduceEq, Int.reduceLT, Int.reduceLE, Int.reduceNeg, Int.reduceToNat, Int.reduceGT, Int.reduceGE, Nat.reduceLT, Nat.lt_add_one, Nat.zero_lt_succ, Nat.succ_pos, Nat.zero_le, beq_self_eq_true, k___gatepost_date_reader__day_0, k___gatepost_date_reader__day_2, k___gatepost_date_reader__day_3, k___gatepost_date_reader__day_1, hb2, c1', decide_false, w, e0, e1, e7]
        exact ⟨7 - (i + 1), by omega, i + 1, rfl, hlt, rfl, ⟨t2, rfl⟩, nxt hx⟩
    
    cases long with
    | true =>
      have nt : nmD true i = dayLs.getD i [] := rfl
      rw [← nt] at r2
      simp (maxSteps := 4000000) only [vm, vl, Arg.get, cells, stor, boundO, resultsV, resV, partK, loadV, Vm.part, fillC, splice, reduceIte, reduceCtorEq, Nat.reduceEqDiff, Nat.reduceAdd, Nat.reduceSub, Nat.reduceMul, Nat.reduceLeDiff, ne_eq, not_false_eq_true, Int.reduceEq, Int.reduceLT, Int.reduceLE, Int.reduceNeg, Int.reduceToNat, Int.reduceGT, Int.reduceGE, Nat.reduceLT, Nat.lt_add_one, Nat.zero_lt_succ, Nat.succ_pos, Nat.zero_le, beq_self_eq_true, e0, e1, e7, e8, hl7, i0, i6, z2, r2, Int.toNat_natCast, k___gatepost_date_reader__day_1, Bool.not_true]
      exact tail _ e0 e1 e7
    | false =>
      have nt : List.take 3 (dayLs.getD i []) = nmD false i := rfl
      simp (maxSteps := 4000000) only [vm, vl, Arg.get, cells, stor, boundO, resultsV, resV, partK, loadV, Vm.part, fillC, splice, reduceIte, reduceCtorEq, Nat.reduceEqDiff, Nat.reduceAdd, Nat.reduceSub, Nat.reduceMul, Nat.reduceLeDiff, ne_eq, not_false_eq_true, Int.reduceEq, Int.reduceLT, Int.reduceLE, Int.reduceNeg, Int.reduceToNat, Int.reduceGT, Int.reduceGE, Nat.reduceLT, Nat.lt_add_one, Nat.zero_lt_succ, Nat.succ_pos, Nat.zero_le, beq_self_eq_true, e0, e1, e7, e8, hl7, i0, i6, z2, r2, Int.toNat_natCast, k___gatepost_date_reader__day_1, Bool.not_false, u1, List.drop_zero, nt]
      exact tail _ e0 e1 e7
  · have hp : firstN (hitD long r.1) 7 = 7 := firstN_none hj
    have e : dayR long r = (0, (r.1, false)) := by unfold dayR; rw [hp, if_neg (by omega)]
    rw [e]
    have hn : ¬ (((7 : Nat) : Int) < 7) := by omega
    
    simp (maxSteps := 4000000) only [vm, vl, Arg.get, cells, stor, boundO, resultsV, resV, partK, loadV, Vm.part, fillC, splice, reduceIte, reduceCtorEq, Nat.reduceEqDiff, Nat.reduceAdd, Nat.reduceSub, Nat.reduceMul, Nat.reduceLeDiff, ne_eq, not_false_eq_true, Int.reduceEq, Int.reduceLT, Int.reduceLE, Int.reduceNeg, Int.reduceToNat, Int.reduceGT, Int.reduceGE, Nat.reduceLT, Nat.lt_add_one, Nat.zero_lt_succ, Nat.succ_pos, Nat.zero_le, beq_self_eq_true, k___gatepost_date_reader__day_0, k___gatepost_date_reader__day_2, k___gatepost_date_reader__day_3, k___gatepost_date_reader__day_1, e0, e1, e7, e8, hn, hb2]
    refine ⟨rfl, t2, ?_⟩
    rw [List.set_append_left _ _ hi]; rfl
end Go.Proofs.YtfkebmdfcpnaeaaGreatDoor.Vh
end
section
set_option linter.unusedVariables false
set_option linter.unusedSimpArgs false
namespace Go.Proofs.YtfkebmdfcpnaeaaGreatDoor.Vh
open Go.Vm Go.Vt
attribute [local congr] wi_congr wg_congr wgd_congr wb_congr wl_congr cf_congr
variable {L : FuncId → List V → V → Prop} {h : Heap}
theorem dayR_rest (long : Bool) (r : Rd) : (dayR long r).2.1.length ≤ r.1.length := by
  unfold dayR; split
  · simp only [List.length_drop]; omega
  · exact Nat.le_refl _
theorem clkR_rest (r : Rd) : (clkR r).2.1.length ≤ r.1.length := by
  have h1 := numR_rest 2 r
  have h2 := needR_rest [58] (numR 2 r).2
  have h3 := numR_rest 2 (needR [58] (numR 2 r).2)
  have h4 := needR_rest [58] (numR 2 (needR [58] (numR 2 r).2)).2
  have h5 := numR_rest 2 (needR [58] (numR 2 (needR [58] (numR 2 r).2)).2)
  unfold clkR
  simp only
  split <;> first | omega | (simp only; omega)
theorem clkR_le (r : Rd) : 0 ≤ (clkR r).1 ∧ (clkR r).1 ≤ 2000000000 := by
  have h1 := numR_le (n := 2) (by omega) r
  have h3 := numR_le (n := 2) (by omega) (needR [58] (numR 2 r).2)
  have h5 := numR_le (n := 2) (by omega) (needR [58] (numR 2 (needR [58] (numR 2 r).2)).2)
  unfold clkR
  simp only
  omega
def fixedR (r : Rd) : V :=
  let q1 := dayR false r
  let q2 := needR [44, 32] q1.2
  let q3 := numR 2 q2
  let q4 := needR [32] q3.2
  let q5 := monR q4
  let q6 := needR [32] q5.2
  let q7 := numR 4 q6
  let q8 := needR [32] q7.2
  let q9 := clkR q8
  let q10 := needR [32, 71, 77, 84] q9.2
  secR q10 q1.1 q7.1 q5.1 q3.1 q9.1
theorem secR_tup (r : Rd) (w y m d c : Int) : ∃ (n : Int) (b : Bool), secR r w y m d c = .tup [.int .i64 n, .bool b] := by
  unfold secR; split
  · exact ⟨_, _, rfl⟩
  · exact ⟨_, _, rfl⟩
theorem fixed_ok {id : Nat} {r : Rd} (hb : h[id]? = some (bx r)) (hl : r.1.length < 9223372036854775807) : Cf F L i_date_fixed [.ptr id 0] h (fun v h' => v = fixedR r ∧ ∃ r' t, h' = h.set id (bx r') ++ t) := by
  refine run_date_fixed ?_
  simp only [p_date_fixed]
  have hi := rd_len hb
  unfold fixedR
  simp only
  have l1 := dayR_rest false r
  refine Cf.rd (day_ok (long := false) (hb) (by omega)) fun t1 => ?_
  generalize dayR false r = q1 at *
  have l2 := needR_rest [44, 32] q1.2
  refine Cf.rd (need_ok (p := [44, 32]) (rd_at hi) (by simp) (by omega)) fun t2 => ?_
  rw [rd_set hi]
  try rw [List.append_assoc]
  generalize needR [44, 32] q1.2 = q2 at *
  have l3 := numR_rest 2 q2
  refine Cf.rd (number_ok (n := 2) (rd_at hi) (by omega) (by omega)) fun t3 => ?_
  rw [rd_set hi]
  try rw [List.append_assoc]
  generalize numR 2 q2 = q3 at *
  have l4 := needR_rest [32] q3.2
  refine Cf.rd (need_ok (p := [32]) (rd_at hi) (by simp) (by omega)) fun t4 => ?_
  rw [rd_set hi]
  try rw [List.append_assoc]
  generalize needR [32] q3.2 = q4 at *
  have l5 := monR_rest q4
  refine Cf.rd (month_ok' (rd_at hi) (by omega)) fun t5 => ?_
  rw [rd_set hi]
  try rw [List.append_assoc]
  generalize monR q4 = q5 at *
  have l6 := needR_rest [32] q5.2
  refine Cf.rd (need_ok (p := [32]) (rd_at hi) (by simp) (by omega)) fun t6 => ?_
  rw [rd_set hi]
  try rw [List.append_assoc]
  generalize needR [32] q5.2 = q6 at *
  have l7 := numR_rest 4 q6
  refine Cf.rd (number_ok (n := 4) (rd_at hi) (by omega) (by omega)) fun t7 => ?_
  rw [rd_set hi]
  try rw [List.append_assoc]
  generalize numR 4 q6 = q7 at *
  have l8 := needR_rest [32] q7.2
  refine Cf.rd (need_ok (p := [32]) (rd_at hi) (by simp) (by omega)) fun t8 => ?_
  rw [rd_set hi]
  try rw [List.append_assoc]
  generalize needR [32] q7.2 = q8 at *
  have l9 := clkR_rest q8
  have bc := clkR_le q8
  refine Cf.rd (clock_ok (rd_at hi) (by omega)) fun t9 => ?_
  rw [rd_set hi]
  try rw [List.append_assoc]
  generalize clkR q8 = q9 at *
  have l10 := needR_rest [32, 71, 77, 84] q9.2
  refine Cf.rd (need_ok (p := [32, 71, 77, 84]) (rd_at hi) (by simp) (by omega)) fun t10 => ?_
  rw [rd_set hi]
  try rw [List.append_assoc]
  generalize needR [32, 71, 77, 84] q9.2 = q10 at *
  refine Cf.pu (second_ok (rd_at hi) bc.1 (by omega)) fun t11 => ?_
  obtain ⟨n, b, e⟩ := secR_tup q10 q1.1 q7.1 q5.1 q3.1 q9.1
  rw [e]
  simp (maxSteps := 4000000) only [vm, vl, Arg.get, cells, stor, boundO, resultsV, resV, partK, loadV, Vm.part, fillC, splice, reduceIte, reduceCtorEq, Nat.reduceEqDiff, Nat.reduceAdd, Nat.reduceSub, Nat.reduceMul, Nat.reduceLeDiff, ne_eq, not_false_eq_true, Int.reduceEq, Int.reduceLT, Int.reduceLE, Int.reduceNeg, Int.reduceToNat, Int.reduceGT, Int.reduceGE, Nat.reduceLT, Nat.lt_add_one, Nat.zero_lt_succ, Nat.succ_pos, Nat.zero_le, beq_self_eq_true]
  exact ⟨q10, _, rfl⟩
open Go.Vm Go.Vt
attribute [local congr] wi_congr wg_congr wgd_congr wb_congr wl_congr cf_congr
def oldR (r : Rd) : V :=
  let q1 := dayR true r
  let q2 := needR [44, 32] q1.2
  let q3 := numR 2 q2
  let q4 := needR [45] q3.2
  let q5 := monR q4
  let q6 := needR [45] q5.2
  let q7 := numR 2 q6
  let q8 := needR [32] q7.2
  let q9 := clkR q8
  let q10 := needR [32, 71, 77, 84] q9.2
  secR q10 q1.1 (if q7.1 ≥ 70 then q7.1 + 1900 else q7.1 + 2000) q5.1 q3.1 q9.1
theorem old_ok {id : Nat} {r : Rd} (hb : h[id]? = some (bx r)) (hl : r.1.length < 9223372036854775807) : Cf F L i_date_old [.ptr id 0] h (fun v h' => v = oldR r ∧ ∃ r' t, h' = h.set id (bx r') ++ t) := by
  refine run_date_old ?_
  simp only [p_date_old]
  have hi := rd_len hb
  unfold oldR
  simp only
  have l1 := dayR_rest true r
  refine Cf.rd (day_ok (long := true) (hb) (by omega)) fun t1 => ?_
  generalize dayR true r = q1 at *
  have l2 := needR_rest [44, 32] q1.2
  refine Cf.rd (need_ok (p := [44, 32]) (rd_at hi) (by simp) (by omega)) fun t2 => ?_
  rw [rd_set hi]
  try rw [List.append_assoc]
  generalize needR [44, 32] q1.2 = q2 at *
  have l3 := numR_rest 2 q2
  have bn3 := numR_le (n := 2) (by omega) q2
  refine Cf.rd (number_ok (n := 2) (rd_at hi) (by omega) (by omega)) fun t3 => ?_
  rw [rd_set hi]
  try rw [List.append_assoc]
  generalize numR 2 q2 = q3 at *
  have l4 := needR_rest [45] q3.2
  refine Cf.rd (need_ok (p := [45]) (rd_at hi) (by simp) (by omega)) fun t4 => ?_
  rw [rd_set hi]
  try rw [List.append_assoc]
  generalize needR [45] q3.2 = q4 at *
  have l5 := monR_rest q4
  refine Cf.rd (month_ok' (rd_at hi) (by omega)) fun t5 => ?_
  rw [rd_set hi]
  try rw [List.append_assoc]
  generalize monR q4 = q5 at *
  have l6 := needR_rest [45] q5.2
  refine Cf.rd (need_ok (p := [45]) (rd_at hi) (by simp) (by omega)) fun t6 => ?_
  rw [rd_set hi]
  try rw [List.append_assoc]
  generalize needR [45] q5.2 = q6 at *
  have l7 := numR_rest 2 q6
  have bn7 := numR_le (n := 2) (by omega) q6
  refine Cf.rd (number_ok (n := 2) (rd_at hi) (by omega) (by omega)) fun t7 => ?_
  rw [rd_set hi]
  try rw [List.append_assoc]
  generalize numR 2 q6 = q7 at *
  have l8 := needR_rest [32] q7.2
  refine Cf.rd (need_ok (p := [32]) (rd_at hi) (by simp) (by omega)) fun t8 => ?_
  rw [rd_set hi]
  try rw [List.append_assoc]
  generalize needR [32] q7.2 = q8 at *
  have l9 := clkR_rest q8
  have bc := clkR_le q8
  refine Cf.rd (clock_ok (rd_at hi) (by omega)) fun t9 => ?_
  rw [rd_set hi]
  try rw [List.append_assoc]
  generalize clkR q8 = q9 at *
  have l10 := needR_rest [32, 71, 77, 84] q9.2
  refine Cf.rd (need_ok (p := [32, 71, 77, 84]) (rd_at hi) (by simp) (by omega)) fun t10 => ?_
  rw [rd_set hi]
  try rw [List.append_assoc]
  generalize needR [32, 71, 77, 84] q9.2 = q10 at *
  have w1 : IntKind.i64.wrap (q7.1 + 1900) = q7.1 + 1900 := wrap64 (by omega) (by omega)
  have w2 : IntKind.i64.wrap (q7.1 + 2000) = q7.1 + 2000 := wrap64 (by omega) (by omega)
  by_cases hy : q7.1 ≥ 70
  · rw [if_pos hy]
    obtain ⟨n, b, e⟩ := secR_tup q10 q1.1 (q7.1 + 1900) q5.1 q3.1 q9.1
    simp (maxSteps := 4000000) only [vm, vl, Arg.get, cells, stor, boundO, resultsV, resV, partK, loadV, Vm.part, fillC, splice, reduceIte, reduceCtorEq, Nat.reduceEqDiff, Nat.reduceAdd, Nat.reduceSub, Nat.reduceMul, Nat.reduceLeDiff, ne_eq, not_false_eq_true, Int.reduceEq, Int.reduceLT, Int.reduceLE, Int.reduceNeg, Int.reduceToNat, Int.reduceGT, Int.reduceGE, Nat.reduceLT, Nat.lt_add_one, Nat.zero_lt_succ, Nat.succ_pos, Nat.zero_le, beq_self_eq_true, k_date_old_0, hy, decide_true, w1, w2]
    refine Cf.pu (second_ok (rd_at hi) bc.1 (by omega)) fun t11 => ?_
    rw [e]
    simp (maxSteps := 4000000) only [vm, vl, Arg.get, cells, stor, boundO, resultsV, resV, partK, loadV, Vm.part, fillC, splice, reduceIte, reduceCtorEq, Nat.reduceEqDiff, Nat.reduceAdd, Nat.reduceSub, Nat.reduceMul, Nat.reduceLeDiff, ne_eq, not_false_eq_true, Int.reduceEq, Int.reduceLT, Int.reduceLE, Int.reduceNeg, Int.reduceToNat, Int.reduceGT, Int.reduceGE, Nat.reduceLT, Nat.lt_add_one, Nat.zero_lt_succ, Nat.succ_pos, Nat.zero_le, beq_self_eq_true, k_date_old_0]
    exact ⟨q10, _, rfl⟩
  · rw [if_neg hy]
    obtain ⟨n, b, e⟩ := secR_tup q10 q1.1 (q7.1 + 2000) q5.1 q3.1 q9.1
    simp (maxSteps := 4000000) only [vm, vl, Arg.get, cells, stor, boundO, resultsV, resV, partK, loadV, Vm.part, fillC, splice, reduceIte, reduceCtorEq, Nat.reduceEqDiff, Nat.reduceAdd, Nat.reduceSub, Nat.reduceMul, Nat.reduceLeDiff, ne_eq, not_false_eq_true, Int.reduceEq, Int.reduceLT, Int.reduceLE, Int.reduceNeg, Int.reduceToNat, Int.reduceGT, Int.reduceGE, Nat.reduceLT, Nat.lt_add_one, Nat.zero_lt_succ, Nat.succ_pos, Nat.zero_le, beq_self_eq_true, k_date_old_0, hy, decide_false, w1, w2]
    refine Cf.pu (second_ok (rd_at hi) bc.1 (by omega)) fun t11 => ?_
    rw [e]
    simp (maxSteps := 4000000) only [vm, vl, Arg.get, cells, stor, boundO, resultsV, resV, partK, loadV, Vm.part, fillC, splice, reduceIte, reduceCtorEq, Nat.reduceEqDiff, Nat.reduceAdd, Nat.reduceSub, Nat.reduceMul, Nat.reduceLeDiff, ne_eq, not_false_eq_true, Int.reduceEq, Int.reduceLT, Int.reduceLE, Int.reduceNeg, Int.reduceToNat, Int.reduceGT, Int.reduceGE, Nat.reduceLT, Nat.lt_add_one, Nat.zero_lt_succ, Nat.succ_pos, Nat.zero_le, beq_self_eq_true, k_date_old_0]
    exact ⟨q10, _, rfl⟩
def plainB (dg : Nat) (w m : Int) (x : Rd) : V :=
  let q5 := numR dg x
  let q6 := needR [32] q5.2
  let q7 := clkR q6
  let q8 := needR [32] q7.2
  let q9 := numR 4 q8
  secR q9.2 w q9.1 m q5.1 q7.1
def plainR (r : Rd) : V :=
  let q1 := dayR false r
  let q2 := needR [32] q1.2
  let q3 := monR q2
  let q4 := needR [32] q3.2
  if q4.1.length > 0 ∧ q4.1.getD 0 0 = 32 then plainB 1 q1.1 q3.1 (takeR 1 q4).2 else plainB 2 q1.1 q3.1 q4
theorem plainB_ok {id dg : Nat} {w m : Int} {x : Rd} {t : Heap} (hi : id < h.length) (hl : x.1.length < 9223372036854775807) (hd : dg ≤ 4) : k_date_plain_0 L (fun v h' => v = plainB dg w m x ∧ ∃ r' t, h' = h.set id (bx r') ++ t) (.ptr id 0) (.int .i64 w) (.int .i64 m) (.int .i64 dg) (h.set id (bx x) ++ t) := by
  
  unfold plainB k_date_plain_0
  simp only
  have l5 := numR_rest dg x
  have bn5 := numR_le (n := dg) (by omega) x
  refine Cf.rd (number_ok (n := dg) (rd_at hi) (by omega) (by omega)) fun t5 => ?_
  rw [rd_set hi]
  try rw [List.append_assoc]
  generalize numR dg x = q5 at *
  have l6 := needR_rest [32] q5.2
  refine Cf.rd (need_ok (p := [32]) (rd_at hi) (by simp) (by omega)) fun t6 => ?_
  rw [rd_set hi]
  try rw [List.append_assoc]
  generalize needR [32] q5.2 = q6 at *
  have l7 := clkR_rest q6
  have bc := clkR_le q6
  refine Cf.rd (clock_ok (rd_at hi) (by omega)) fun t7 => ?_
  rw [rd_set hi]
  try rw [List.append_assoc]
  generalize clkR q6 = q7 at *
  have l8 := needR_rest [32] q7.2
  refine Cf.rd (need_ok (p := [32]) (rd_at hi) (by simp) (by omega)) fun t8 => ?_
  rw [rd_set hi]
  try rw [List.append_assoc]
  generalize needR [32] q7.2 = q8 at *
  have l9 := numR_rest 4 q8
  have bn9 := numR_le (n := 4) (by omega) q8
  refine Cf.rd (number_ok (n := 4) (rd_at hi) (by omega) (by omega)) fun t9 => ?_
  rw [rd_set hi]
  try rw [List.append_assoc]
  generalize numR 4 q8 = q9 at *
  refine Cf.pu (second_ok (rd_at hi) bc.1 (by omega)) fun t11 => ?_
  obtain ⟨n, b, e⟩ := secR_tup q9.2 w q9.1 m q5.1 q7.1
  rw [e]
  simp (maxSteps := 4000000) only [vm, vl, Arg.get, cells, stor, boundO, resultsV, resV, partK, loadV, Vm.part, fillC, splice, reduceIte, reduceCtorEq, Nat.reduceEqDiff, Nat.reduceAdd, Nat.reduceSub, Nat.reduceMul, Nat.reduceLeDiff, ne_eq, not_false_eq_true, Int.reduceEq, Int.reduceLT, Int.reduceLE, Int.reduceNeg, Int.reduceToNat, Int.reduceGT, Int.reduceGE, Nat.reduceLT, Nat.lt_add_one, Nat.zero_lt_succ, Nat.succ_pos, Nat.zero_le, beq_self_eq_true, k_date_plain_0]
  exact ⟨q9.2, _, rfl⟩
theorem u32 {c : UInt8} : ((c.toNat : Int) = 32) = (c = 32) := propext ⟨fun h => by
  have h2 : c.toNat = (32 : UInt8).toNat := by rw [show (32 : UInt8).toNat = 32 from rfl]; omega
  exact UInt8.toNat_inj.1 h2, fun h => by rw [h]; rfl⟩
theorem plain_ok {id : Nat} {r : Rd} (hb : h[id]? = some (bx r)) (hl : r.1.length < 9223372036854775807) : Cf F L i_date_plain [.ptr id 0] h (fun v h' => v = plainR r ∧ ∃ r' t, h' = h.set id (bx r') ++ t) := by
  refine run_date_plain ?_
  simp only [p_date_plain]
  
  have hi := rd_len hb
  unfold plainR
  simp only
  have l1 := dayR_rest false r
  refine Cf.rd (day_ok (long := false) (hb) (by omega)) fun t1 => ?_
  generalize dayR false r = q1 at *
  have l2 := needR_rest [32] q1.2
  refine Cf.rd (need_ok (p := [32]) (rd_at hi) (by simp) (by omega)) fun t2 => ?_
  rw [rd_set hi]
  try rw [List.append_assoc]
  generalize needR [32] q1.2 = q2 at *
  have l3 := monR_rest q2
  refine Cf.rd (month_ok' (rd_at hi) (by omega)) fun t3 => ?_
  rw [rd_set hi]
  try rw [List.append_assoc]
  generalize monR q2 = q3 at *
  have l4 := needR_rest [32] q3.2
  refine Cf.rd (need_ok (p := [32]) (rd_at hi) (by simp) (by omega)) fun t4 => ?_
  rw [rd_set hi]
  try rw [List.append_assoc]
  generalize needR [32] q3.2 = q4 at *
  have hb2 : ∀ t, (h.set id (bx q4) ++ t)[id]? = some (O.box [.str q4.1, .bool q4.2]) := fun t => rd_at hi
  by_cases c1 : q4.1.length > 0
  · have c1' : (q4.1.length : Int) > 0 := by omega
    have z0 : 0 < q4.1.length := c1
    by_cases c2 : q4.1.getD 0 0 = 32
    · have c2' : (((q4.1.getD 0 0).toNat : Int) = 32) = True := by rw [u32]; exact eq_true c2
      rw [if_pos ⟨c1, c2⟩]
      simp (maxSteps := 4000000) only [vm, vl, Arg.get, cells, stor, boundO, resultsV, resV, partK, loadV, Vm.part, fillC, splice, reduceIte, reduceCtorEq, Nat.reduceEqDiff, Nat.reduceAdd, Nat.reduceSub, Nat.reduceMul, Nat.reduceLeDiff, ne_eq, not_false_eq_true, Int.reduceEq, Int.reduceLT, Int.reduceLE, Int.reduceNeg, Int.reduceToNat, Int.reduceGT, Int.reduceGE, Nat.reduceLT, Nat.lt_add_one, Nat.zero_lt_succ, Nat.succ_pos, Nat.zero_le, beq_self_eq_true, hb2, c1', c2', z0, decide_true]
      have l5 := takeR_rest 1 q4
      refine Cf.rd (take_ok (n := 1) (rd_at hi) (by omega) (by omega)) fun t5 => ?_
      rw [rd_set hi]
      try rw [List.append_assoc]
      exact plainB_ok (dg := 1) hi (by omega) (by omega)
    · have c2' : (((q4.1.getD 0 0).toNat : Int) = 32) = False := by rw [u32]; exact eq_false c2
      rw [if_neg (fun h => c2 h.2)]
      simp (maxSteps := 4000000) only [vm, vl, Arg.get, cells, stor, boundO, resultsV, resV, partK, loadV, Vm.part, fillC, splice, reduceIte, reduceCtorEq, Nat.reduceEqDiff, Nat.reduceAdd, Nat.reduceSub, Nat.reduceMul, Nat.reduceLeDiff, ne_eq, not_false_eq_true, Int.reduceEq, Int.reduceLT, Int.reduceLE, Int.reduceNeg, Int.reduceToNat, Int.reduceGT, Int.reduceGE, Nat.reduceLT, Nat.lt_add_one, Nat.zero_lt_succ, Nat.succ_pos, Nat.zero_le, beq_self_eq_true, hb2, c1', c2', z0, decide_true, decide_false]
      exact plainB_ok (dg := 2) hi (by omega) (by omega)
  · have c1' : ¬ (q4.1.length : Int) > 0 := by omega
    rw [if_neg (fun h => c1 h.1)]
    simp (maxSteps := 4000000) only [vm, vl, Arg.get, cells, stor, boundO, resultsV, resV, partK, loadV, Vm.part, fillC, splice, reduceIte, reduceCtorEq, Nat.reduceEqDiff, Nat.reduceAdd, Nat.reduceSub, Nat.reduceMul, Nat.reduceLeDiff, ne_eq, not_false_eq_true, Int.reduceEq, Int.reduceLT, Int.reduceLE, Int.reduceNeg, Int.reduceToNat, Int.reduceGT, Int.reduceGE, Nat.reduceLT, Nat.lt_add_one, Nat.zero_lt_succ, Nat.succ_pos, Nat.zero_le, beq_self_eq_true, hb2, c1', decide_false]
    exact plainB_ok (dg := 2) hi (by omega) (by omega)
open Go.Vm Go.Vt
attribute [local congr] wi_congr wg_congr wgd_congr wb_congr wl_congr cf_congr
def formR (s : Bs) : Nat → V
  | 0 => fixedR (s, true)
  | 1 => oldR (s, true)
  | _ => plainR (s, true)
theorem formR_tup (s : Bs) (i : Nat) : ∃ (n : Int) (b : Bool), formR s i = .tup [.int .i64 n, .bool b] := by
  match i with
  | 0 => unfold formR fixedR; simp only; exact secR_tup _ _ _ _ _ _
  | 1 => unfold formR oldR; simp only; exact secR_tup _ _ _ _ _ _
  | _ + 2 =>
    unfold formR plainR plainB
    simp only
    split
    · exact secR_tup _ _ _ _ _ _
    · exact secR_tup _ _ _ _ _ _
def okV : V → Option Int
  | .tup [.int .i64 n, .bool true] => some n
  | _ => none
def orG (a b : Option Int) : Option Int := match a with
  | some n => some n
  | none => b
def dateS (s : Bs) : Option Int := orG (okV (formR s 0)) (orG (okV (formR s 1)) (okV (formR s 2)))
def dateV : Option Int → V
  | some n => .tup [.int .i64 n, .bool true]
  | none => .tup [.int .i64 0, .bool false]
theorem form_ok {s : Bs} (hs : s.length < 9223372036854775807) : ∀ (f : FuncId) (i : Nat), (i = 0 ∧ f = i_date_fixed) ∨ (i = 1 ∧ f = i_date_old) ∨ (i = 2 ∧ f = i_date_plain) → ∀ (t : Heap) (K : V → Heap → Prop), (∀ t', K (formR s i) (h ++ t')) → Cf F L f [.ptr (h.length + t.length) 0] (h ++ (t ++ [O.box [.str s, .bool true]])) K := by
  intro f i hfi t K hK
  have hb : (h ++ (t ++ [O.box [.str s, .bool true]]))[h.length + t.length]? = some (bx (s, true)) := by
    rw [← List.append_assoc, List.getElem?_append_right (by simp)]; simp [bx]
  have post : ∀ (v : V), v = formR s i → ∀ h', (∃ r' t', h' = (h ++ (t ++ [O.box [.str s, .bool true]])).set (h.length + t.length) (bx r') ++ t') → K v h' := by
    rintro v rfl h' ⟨r', t', rfl⟩
    rw [List.set_append_right _ _ (by omega), List.append_assoc]
    exact hK _
  rcases hfi with ⟨rfl, rfl⟩ | ⟨rfl, rfl⟩ | ⟨rfl, rfl⟩
  · exact (fixed_ok hb hs).mono fun v h' hp => post v hp.1 h' hp.2
  · exact (old_ok hb hs).mono fun v h' hp => post v hp.1 h' hp.2
  · exact (plain_ok hb hs).mono fun v h' hp => post v hp.1 h' hp.2
theorem DParse_ok {s : Bs} (hs : s.length < 9223372036854775807) : Cf F L i_date_Parse [.str s] h (Pu h (dateV (dateS s))) := by
  refine run_date_Parse ?_
  simp only [p_date_Parse]
  simp (maxSteps := 4000000) only [vm, vl, Arg.get, cells, stor, boundO, resultsV, resV, partK, loadV, Vm.part, fillC, splice, reduceIte, reduceCtorEq, Nat.reduceEqDiff, Nat.reduceAdd, Nat.reduceSub, Nat.reduceMul, Nat.reduceLeDiff, ne_eq, not_false_eq_true, Int.reduceEq, Int.reduceLT, Int.reduceLE, Int.reduceNeg, Int.reduceToNat, Int.reduceGT, Int.reduceGE, Nat.reduceLT, Nat.lt_add_one, Nat.zero_lt_succ, Nat.succ_pos, Nat.zero_le, beq_self_eq_true, k_date_Parse_0, k_date_Parse_2, k_date_Parse_1]
  refine l_date_Parse_0 (fun n e h' => ∃ i, n = 3 - i ∧ i ≤ 3 ∧ e 0 = .str s ∧ e 8 = .agg [.fn i_date_fixed [], .fn i_date_old [], .fn i_date_plain []] ∧ e 9 = .int .i64 i ∧ (∃ t, h' = h ++ t) ∧ ∀ j, j < i → okV (formR s j) = none) ?_ (n := 3) ⟨0, by simp, by simp, rfl, rfl, rfl, ⟨[], by simp⟩, by simp⟩
  rintro n e h' ⟨i, rfl, hil, e0, e8, e9, ⟨t, rfl⟩, hj⟩
  simp only [b_date_Parse_0]
  have hi : i = 0 ∨ i = 1 ∨ i = 2 ∨ i = 3 := by omega
  have nx : okV (formR s i) = none → ∀ j, j < i + 1 → okV (formR s j) = none := by
    intro hx j hj'
    rcases Nat.lt_or_ge j i with h1 | h1
    · exact hj j h1
    · have : j = i := by omega
      subst this; exact hx
  obtain ⟨n, b, en⟩ := formR_tup s i
  have P := fun f hf => form_ok (L := L) (h := h) hs f i hf t
  rcases hi with rfl | rfl | rfl | rfl
  · simp (maxSteps := 4000000) only [vm, vl, Arg.get, cells, stor, boundO, resultsV, resV, partK, loadV, Vm.part, fillC, splice, reduceIte, reduceCtorEq, Nat.reduceEqDiff, Nat.reduceAdd, Nat.reduceSub, Nat.reduceMul, Nat.reduceLeDiff, ne_eq, not_false_eq_true, Int.reduceEq, Int.reduceLT, Int.reduceLE, Int.reduceNeg, Int.reduceToNat, Int.reduceGT, Int.reduceGE, Nat.reduceLT, Nat.lt_add_one, Nat.zero_lt_succ, Nat.succ_pos, Nat.zero_le, beq_self_eq_true, k_date_Parse_0, k_date_Parse_2, k_date_Parse_1, e0, e8, e9, decide_true, List.getD_cons_zero, List.getD_cons_succ, List.length_append]
    refine P _ (.inl ⟨rfl, rfl⟩) _ fun t' => ?_
    rw [en]
    cases b with
    | true =>
      have ed : dateS s = some n := by rw [dateS, en]; rfl
      rw [ed]
      simp (maxSteps := 4000000) only [vm, vl, Arg.get, cells, stor, boundO, resultsV, resV, partK, loadV, Vm.part, fillC, splice, reduceIte, reduceCtorEq, Nat.reduceEqDiff, Nat.reduceAdd, Nat.reduceSub, Nat.reduceMul, Nat.reduceLeDiff, ne_eq, not_false_eq_true, Int.reduceEq, Int.reduceLT, Int.reduceLE, Int.reduceNeg, Int.reduceToNat, Int.reduceGT, Int.reduceGE, Nat.reduceLT, Nat.lt_add_one, Nat.zero_lt_succ, Nat.succ_pos, Nat.zero_le, beq_self_eq_true, k_date_Parse_0, k_date_Parse_2, k_date_Parse_1, dateV]
    | false =>
      have w : IntKind.i64.wrap ((0 : Int) + 1) = ((0 + 1 : Nat) : Int) := by rw [wrap64 (by omega) (by omega)]; rfl
      simp (maxSteps := 4000000) only [vm, vl, Arg.get, cells, stor, boundO, resultsV, resV, partK, loadV, Vm.part, fillC, splice, reduceIte, reduceCtorEq, Nat.reduceEqDiff, Nat.reduceAdd, Nat.reduceSub, Nat.reduceMul, Nat.reduceLeDiff, ne_eq, not_false_eq_true, Int.reduceEq, Int.reduceLT, Int.reduceLE, Int.reduceNeg, Int.reduceToNat, Int.reduceGT, Int.reduceGE, Nat.reduceLT, Nat.lt_add_one, Nat.zero_lt_succ, Nat.succ_pos, Nat.zero_le, beq_self_eq_true, k_date_Parse_0, k_date_Parse_2, k_date_Parse_1, w]
      exact ⟨3 - (0 + 1), by omega, 0 + 1, rfl, by omega, rfl, ⟨t', rfl⟩, nx (by rw [en]; rfl)⟩
  · simp (maxSteps := 4000000) only [vm, vl, Arg.get, cells, stor, boundO, resultsV, resV, partK, loadV, Vm.part, fillC, splice, reduceIte, reduceCtorEq, Nat.reduceEqDiff, Nat.reduceAdd, Nat.reduceSub, Nat.reduceMul, Nat.reduceLeDiff, ne_eq, not_false_eq_true, Int.reduceEq, Int.reduceLT, Int.reduceLE, Int.reduceNeg, Int.reduceToNat, Int.reduceGT, Int.reduceGE, Nat.reduceLT, Nat.lt_add_one, Nat.zero_lt_succ, Nat.succ_pos, Nat.zero_le, beq_self_eq_true, k_date_Parse_0, k_date_Parse_2, k_date_Parse_1, e0, e8, e9, decide_true, List.getD_cons_zero, List.getD_cons_succ, List.length_append]
    refine P _ (.inr (.inl ⟨rfl, rfl⟩)) _ fun t' => ?_
    rw [en]
    cases b with
    | true =>
      have ed : dateS s = some n := by rw [dateS, hj 0 (by omega), en]; rfl
      rw [ed]
      simp (maxSteps := 4000000) only [vm, vl, Arg.get, cells, stor, boundO, resultsV, resV, partK, loadV, Vm.part, fillC, splice, reduceIte, reduceCtorEq, Nat.reduceEqDiff, Nat.reduceAdd, Nat.reduceSub, Nat.reduceMul, Nat.reduceLeDiff, ne_eq, not_false_eq_true, Int.reduceEq, Int.reduceLT, Int.reduceLE, Int.reduceNeg, Int.reduceToNat, Int.reduceGT, Int.reduceGE, Nat.reduceLT, Nat.lt_add_one, Nat.zero_lt_succ, Nat.succ_pos, Nat.zero_le, beq_self_eq_true, k_date_Parse_0, k_date_Parse_2, k_date_Parse_1, dateV]
    | false =>
      have w : IntKind.i64.wrap ((1 : Int) + 1) = ((1 + 1 : Nat) : Int) := by rw [wrap64 (by omega) (by omega)]; rfl
      simp (maxSteps := 4000000) only [vm, vl, Arg.get, cells, stor, boundO, resultsV, resV, partK, loadV, Vm.part, fillC, splice, reduceIte, reduceCtorEq, Nat.reduceEqDiff, Nat.reduceAdd, Nat.reduceSub, Nat.reduceMul, Nat.reduceLeDiff, ne_eq, not_false_eq_true, Int.reduceEq, Int.reduceLT, Int.reduceLE, Int.reduceNeg, Int.reduceToNat, Int.reduceGT, Int.reduceGE, Nat.reduceLT, Nat.lt_add_one, Nat.zero_lt_succ, Nat.succ_pos, Nat.zero_le, beq_self_eq_true, k_date_Parse_0, k_date_Parse_2, k_date_Parse_1, w]
      exact ⟨3 - (1 + 1), by omega, 1 + 1, rfl, by omega, rfl, ⟨t', rfl⟩, nx (by rw [en]; rfl)⟩
  · simp (maxSteps := 4000000) only [vm, vl, Arg.get, cells, stor, boundO, resultsV, resV, partK, loadV, Vm.part, fillC, splice, reduceIte, reduceCtorEq, Nat.reduceEqDiff, Nat.reduceAdd, Nat.reduceSub, Nat.reduceMul, Nat.reduceLeDiff, ne_eq, not_false_eq_true, Int.reduceEq, Int.reduceLT, Int.reduceLE, Int.reduceNeg, Int.reduceToNat, Int.reduceGT, Int.reduceGE, Nat.reduceLT, Nat.lt_add_one, Nat.zero_lt_succ, Nat.succ_pos, Nat.zero_le, beq_self_eq_true, k_date_Parse_0, k_date_Parse_2, k_date_Parse_1, e0, e8, e9, decide_true, List.getD_cons_zero, List.getD_cons_succ, List.length_append]
    refine P _ (.inr (.inr ⟨rfl, rfl⟩)) _ fun t' => ?_
    rw [en]
    cases b with
    | true =>
      have ed : dateS s = some n := by rw [dateS, hj 0 (by omega), hj 1 (by omega), en]; rfl
      rw [ed]
      simp (maxSteps := 4000000) only [vm, vl, Arg.get, cells, stor, boundO, resultsV, resV, partK, loadV, Vm.part, fillC, splice, reduceIte, reduceCtorEq, Nat.reduceEqDiff, Nat.reduceAdd, Nat.reduceSub, Nat.reduceMul, Nat.reduceLeDiff, ne_eq, not_false_eq_true, Int.reduceEq, Int.reduceLT, Int.reduceLE, Int.reduceNeg, Int.reduceToNat, Int.reduceGT, Int.reduceGE, Nat.reduceLT, Nat.lt_add_one, Nat.zero_lt_succ, Nat.succ_pos, Nat.zero_le, beq_self_eq_true, k_date_Parse_0, k_date_Parse_2, k_date_Parse_1, dateV]
    | false =>
      have w : IntKind.i64.wrap ((2 : Int) + 1) = ((2 + 1 : Nat) : Int) := by rw [wrap64 (by omega) (by omega)]; rfl
      simp (maxSteps := 4000000) only [vm, vl, Arg.get, cells, stor, boundO, resultsV, resV, partK, loadV, Vm.part, fillC, splice, reduceIte, reduceCtorEq, Nat.reduceEqDiff, Nat.reduceAdd, Nat.reduceSub, Nat.reduceMul, Nat.reduceLeDiff, ne_eq, not_false_eq_true, Int.reduceEq, Int.reduceLT, Int.reduceLE, Int.reduceNeg, Int.reduceToNat, Int.reduceGT, Int.reduceGE, Nat.reduceLT, Nat.lt_add_one, Nat.zero_lt_succ, Nat.succ_pos, Nat.zero_le, beq_self_eq_true, k_date_Parse_0, k_date_Parse_2, k_date_Parse_1, w]
      exact ⟨3 - (2 + 1), by omega, 2 + 1, rfl, by omega, rfl, ⟨t', rfl⟩, nx (by rw [en]; rfl)⟩
  · have ed : dateS s = none := by rw [dateS, hj 0 (by omega), hj 1 (by omega), hj 2 (by omega)]; rfl
    rw [ed]
    simp (maxSteps := 4000000) only [vm, vl, Arg.get, cells, stor, boundO, resultsV, resV, partK, loadV, Vm.part, fillC, splice, reduceIte, reduceCtorEq, Nat.reduceEqDiff, Nat.reduceAdd, Nat.reduceSub, Nat.reduceMul, Nat.reduceLeDiff, ne_eq, not_false_eq_true, Int.reduceEq, Int.reduceLT, Int.reduceLE, Int.reduceNeg, Int.reduceToNat, Int.reduceGT, Int.reduceGE, Nat.reduceLT, Nat.lt_add_one, Nat.zero_lt_succ, Nat.succ_pos, Nat.zero_le, beq_self_eq_true, k_date_Parse_0, k_date_Parse_2, k_date_Parse_1, e0, e8, e9, decide_false, dateV]
end Go.Proofs.YtfkebmdfcpnaeaaGreatDoor.Vh
end
section
set_option linter.unusedVariables false
set_option linter.unusedSimpArgs false
namespace Go.Proofs.YtfkebmdfcpnaeaaGreatDoor.Vh
open Go.Vm Go.Vt
attribute [local congr] wi_congr wg_congr wgd_congr wb_congr wl_congr cf_congr
variable {L : FuncId → List V → V → Prop} {h : Heap}
theorem trimL_len (s : Bs) : (trimL s).length ≤ s.length := (List.dropWhile_sublist _).length_le
theorem trimR_len : ∀ s : Bs, (trimR s).length ≤ s.length
  | [] => by simp [trimR]
  | c :: r => by
    have := trimR_len r
    unfold trimR
    split
    · split
      · simp
      · simp
    · rename_i h
      simp only [List.length_cons]; omega
theorem trim_len (s : Bs) : (trim s).length ≤ s.length := Nat.le_trans (trimL_len _) (trimR_len _)
theorem flush_mem {out : List Bs} {own x : Bs} (h : x ∈ flush out own) : x ∈ out ∨ x.length ≤ own.length := by
  unfold flush at h
  split at h
  · exact .inl h
  · rcases List.mem_append.1 h with h | h
    · exact .inl h
    · right; rw [List.mem_singleton.1 h]; exact trim_len _
theorem splitG_mem : ∀ {n : Nat} {s own : Bs} {q : Bool} {out l : List Bs}, s.length ≤ n → splitG s own q out = some l → ∀ x ∈ l, x ∈ out ∨ x.length ≤ own.length + s.length
  | n, [], own, q, out, l, hn, h, x, hx => by
    have e : splitG [] own q out = if q then none else some (flush out own) := rfl
    rw [e] at h
    split at h
    · cases h
    · injection h with h; subst h
      exact (flush_mem hx).imp_right fun h => by simpa using h
  | 0, c :: r, own, q, out, l, hn, h, x, hx => by simp at hn
  | n + 1, c :: r, own, q, out, l, hn, h, x, hx => by
    simp at hn
    rw [splitG_step] at h
    split at h
    · refine (splitG_mem hn h x hx).imp_right fun this => ?_; simp only [List.length_append, List.length_cons, List.length_nil] at this ⊢; omega
    split at h
    · cases r with
      | nil => cases h
      | cons d r =>
        refine (splitG_mem (n := n) (by simp at hn; omega) h x hx).imp_right fun this => ?_; simp only [List.length_append, List.length_cons, List.length_nil] at this ⊢; omega
    split at h
    · rcases splitG_mem hn h x hx with h1 | h1
      · refine (flush_mem h1).imp_right fun this => ?_; simp only [List.length_cons]; omega
      · right; simp only [List.length_cons, List.length_nil] at h1 ⊢; omega
    · refine (splitG_mem hn h x hx).imp_right fun this => ?_; simp only [List.length_append, List.length_cons, List.length_nil] at this ⊢; omega
theorem split_mem {s : Bs} {l : List Bs} (h : split s = some l) : ∀ x ∈ l, x.length ≤ s.length := by
  intro x hx
  have := splitG_mem (Nat.le_refl _) h x hx
  simpa using this
theorem splitG_len : ∀ {n : Nat} {s own : Bs} {q : Bool} {out l : List Bs}, s.length ≤ n → splitG s own q out = some l → l.length ≤ out.length + s.length + 1
  | n, [], own, q, out, l, hn, h => by
    have e : splitG [] own q out = if q then none else some (flush out own) := rfl
    rw [e] at h
    split at h
    · cases h
    · injection h with h; subst h
      have := flush_len out own; simp; omega
  | 0, c :: r, own, q, out, l, hn, h => by simp at hn
  | n + 1, c :: r, own, q, out, l, hn, h => by
    simp at hn
    rw [splitG_step] at h
    split at h
    · have := splitG_len hn h; simp; omega
    split at h
    · cases r with
      | nil => cases h
      | cons d r =>
        have := splitG_len (n := n) (by simp at hn; omega) h; simp; omega
    split at h
    · have := splitG_len hn h
      have := flush_len out own; simp; omega
    · have := splitG_len hn h; simp; omega
theorem index_fn {x : V} {l : List Bs} {g : FuncId} {caps : List V} {p : Bs → Bool} (hx : ListV 1 x (strs l)) (hl : l.length < 1000000000) (hg : ∀ s ∈ l, ∀ t, Cf F L g ([.str s] ++ caps) (h ++ t) (Pu (h ++ t) (.bool (p s)))) :
    Cf F L i_slices_IndexFunc___string_string_ [x, .fn g caps] h (fun v h' => (∃ t, h' = h ++ t) ∧ ((l.any p = true ∧ ∃ i : Nat, v = .int .i64 i) ∨ (l.any p = false ∧ v = .int .i64 (-1)))) := by
  refine run_slices_IndexFunc___string_string_ ?_
  simp only [p_slices_IndexFunc___string_string_]
  have l1 := fun {K : V → Heap → Prop} {h : Heap} => hx.len (F := F) (L := L) (e := E0) (K := K) (h := h)
  simp only [strs_len] at l1
  simp (maxSteps := 4000000) only [vm, vl, Arg.get, cells, stor, boundO, resultsV, resV, partK, loadV, Vm.part, fillC, splice, reduceIte, reduceCtorEq, Nat.reduceEqDiff, Nat.reduceAdd, Nat.reduceSub, Nat.reduceMul, Nat.reduceLeDiff, ne_eq, not_false_eq_true, Int.reduceEq, Int.reduceLT, Int.reduceLE, Int.reduceNeg, Int.reduceToNat, Int.reduceGT, Int.reduceGE, Nat.reduceLT, Nat.lt_add_one, Nat.zero_lt_succ, Nat.succ_pos, Nat.zero_le, beq_self_eq_true, k_slices_IndexFunc___string_string__0, k_slices_IndexFunc___string_string__2, k_slices_IndexFunc___string_string__1, l1]
  refine l_slices_IndexFunc___string_string__0 (fun n e h' => ∃ i, n = l.length - i ∧ i ≤ l.length ∧ e 0 = x ∧ e 1 = .fn g caps ∧ e 7 = .int .i64 l.length ∧ e 8 = .int .i64 i ∧ (l.take i).any p = false ∧ ∃ t, h' = h ++ t) ?_ (n := l.length) ⟨0, by simp, by simp, rfl, rfl, rfl, rfl, rfl, [], by simp⟩
  rintro n e h' ⟨i, rfl, hi, e0, e1, e7, e8, an, t, rfl⟩
  simp only [b_slices_IndexFunc___string_string__0]
  rcases list_at [] hi with ⟨hn, rfl, hd⟩ | ⟨hl1, hl2, hd, htk⟩
  · rw [List.take_length] at an
    simp (maxSteps := 4000000) only [vm, vl, Arg.get, cells, stor, boundO, resultsV, resV, partK, loadV, Vm.part, fillC, splice, reduceIte, reduceCtorEq, Nat.reduceEqDiff, Nat.reduceAdd, Nat.reduceSub, Nat.reduceMul, Nat.reduceLeDiff, ne_eq, not_false_eq_true, Int.reduceEq, Int.reduceLT, Int.reduceLE, Int.reduceNeg, Int.reduceToNat, Int.reduceGT, Int.reduceGE, Nat.reduceLT, Nat.lt_add_one, Nat.zero_lt_succ, Nat.succ_pos, Nat.zero_le, beq_self_eq_true, k_slices_IndexFunc___string_string__0, k_slices_IndexFunc___string_string__2, k_slices_IndexFunc___string_string__1, e0, e1, e7, e8, hn, decide_false]
    exact ⟨⟨t, rfl⟩, .inr an⟩
  · have w := wrap64 (x := (i : Int) + 1) (by omega) (by omega)
    have i1 := fun {K : V → Heap → Prop} {h : Heap} => hx.at (F := F) (L := L) (e := E0) (K := K) (h := h) (i := i) (by rw [strs_len]; exact hl2)
    have a1 : (strs l).getD i (.tup []) = .str (l.getD i []) := by
      unfold strs; simp [List.getD_eq_getElem?_getD, List.getElem?_eq_getElem hl2]
    have hmem : l.getD i [] ∈ l := by
      rw [List.getD_eq_getElem?_getD, List.getElem?_eq_getElem hl2]; exact List.getElem_mem _
    generalize hf : l.getD i [] = f at *
    simp (maxSteps := 4000000) only [vm, vl, Arg.get, cells, stor, boundO, resultsV, resV, partK, loadV, Vm.part, fillC, splice, reduceIte, reduceCtorEq, Nat.reduceEqDiff, Nat.reduceAdd, Nat.reduceSub, Nat.reduceMul, Nat.reduceLeDiff, ne_eq, not_false_eq_true, Int.reduceEq, Int.reduceLT, Int.reduceLE, Int.reduceNeg, Int.reduceToNat, Int.reduceGT, Int.reduceGE, Nat.reduceLT, Nat.lt_add_one, Nat.zero_lt_succ, Nat.succ_pos, Nat.zero_le, beq_self_eq_true, k_slices_IndexFunc___string_string__0, k_slices_IndexFunc___string_string__2, k_slices_IndexFunc___string_string__1, e0, e1, e7, e8, hl1, decide_true, i1, a1]
    have hc := hg f hmem t
    simp only [List.singleton_append] at hc
    refine Cf.pu hc fun t1 => ?_
    cases hp : p f with
    | false =>
      simp (maxSteps := 4000000) only [vm, vl, Arg.get, cells, stor, boundO, resultsV, resV, partK, loadV, Vm.part, fillC, splice, reduceIte, reduceCtorEq, Nat.reduceEqDiff, Nat.reduceAdd, Nat.reduceSub, Nat.reduceMul, Nat.reduceLeDiff, ne_eq, not_false_eq_true, Int.reduceEq, Int.reduceLT, Int.reduceLE, Int.reduceNeg, Int.reduceToNat, Int.reduceGT, Int.reduceGE, Nat.reduceLT, Nat.lt_add_one, Nat.zero_lt_succ, Nat.succ_pos, Nat.zero_le, beq_self_eq_true, k_slices_IndexFunc___string_string__0, k_slices_IndexFunc___string_string__2, k_slices_IndexFunc___string_string__1, hp, w]
      refine ⟨l.length - (i + 1), by omega, i + 1, rfl, hl2, rfl, ?_, _, rfl⟩
      rw [htk, List.any_append, an]; simp [hp]
    | true =>
      simp (maxSteps := 4000000) only [vm, vl, Arg.get, cells, stor, boundO, resultsV, resV, partK, loadV, Vm.part, fillC, splice, reduceIte, reduceCtorEq, Nat.reduceEqDiff, Nat.reduceAdd, Nat.reduceSub, Nat.reduceMul, Nat.reduceLeDiff, ne_eq, not_false_eq_true, Int.reduceEq, Int.reduceLT, Int.reduceLE, Int.reduceNeg, Int.reduceToNat, Int.reduceGT, Int.reduceGE, Nat.reduceLT, Nat.lt_add_one, Nat.zero_lt_succ, Nat.succ_pos, Nat.zero_le, beq_self_eq_true, k_slices_IndexFunc___string_string__0, k_slices_IndexFunc___string_string__2, k_slices_IndexFunc___string_string__1, hp]
      exact ⟨⟨_, rfl⟩, .inl ⟨List.any_eq_true.2 ⟨f, hmem, hp⟩, i, rfl⟩⟩
theorem contains_fn {x : V} {l : List Bs} {g : FuncId} {caps : List V} {p : Bs → Bool} (hx : ListV 1 x (strs l)) (hl : l.length < 1000000000) (hg : ∀ s ∈ l, ∀ t, Cf F L g ([.str s] ++ caps) (h ++ t) (Pu (h ++ t) (.bool (p s)))) :
    Cf F L i_slices_ContainsFunc___string_string_ [x, .fn g caps] h (Pu h (.bool (l.any p))) := by
  refine run_slices_ContainsFunc___string_string_ ?_
  simp only [p_slices_ContainsFunc___string_string_]
  simp (maxSteps := 4000000) only [vm, vl, Arg.get, cells, stor, boundO, resultsV, resV, partK, loadV, Vm.part, fillC, splice, reduceIte, reduceCtorEq, Nat.reduceEqDiff, Nat.reduceAdd, Nat.reduceSub, Nat.reduceMul, Nat.reduceLeDiff, ne_eq, not_false_eq_true, Int.reduceEq, Int.reduceLT, Int.reduceLE, Int.reduceNeg, Int.reduceToNat, Int.reduceGT, Int.reduceGE, Nat.reduceLT, Nat.lt_add_one, Nat.zero_lt_succ, Nat.succ_pos, Nat.zero_le, beq_self_eq_true]
  refine (index_fn hx hl hg).mono fun v h' hp => ?_
  obtain ⟨⟨t, rfl⟩, ⟨ha, i, rfl⟩ | ⟨ha, rfl⟩⟩ := hp
  · have : (i : Int) ≥ 0 := by omega
    simp (maxSteps := 4000000) only [vm, vl, Arg.get, cells, stor, boundO, resultsV, resV, partK, loadV, Vm.part, fillC, splice, reduceIte, reduceCtorEq, Nat.reduceEqDiff, Nat.reduceAdd, Nat.reduceSub, Nat.reduceMul, Nat.reduceLeDiff, ne_eq, not_false_eq_true, Int.reduceEq, Int.reduceLT, Int.reduceLE, Int.reduceNeg, Int.reduceToNat, Int.reduceGT, Int.reduceGE, Nat.reduceLT, Nat.lt_add_one, Nat.zero_lt_succ, Nat.succ_pos, Nat.zero_le, beq_self_eq_true, ha, this, decide_true]
  · simp (maxSteps := 4000000) only [vm, vl, Arg.get, cells, stor, boundO, resultsV, resV, partK, loadV, Vm.part, fillC, splice, reduceIte, reduceCtorEq, Nat.reduceEqDiff, Nat.reduceAdd, Nat.reduceSub, Nat.reduceMul, Nat.reduceLeDiff, ne_eq, not_false_eq_true, Int.reduceEq, Int.reduceLT, Int.reduceLE, Int.reduceNeg, Int.reduceToNat, Int.reduceGT, Int.reduceGE, Nat.reduceLT, Nat.lt_add_one, Nat.zero_lt_succ, Nat.succ_pos, Nat.zero_le, beq_self_eq_true, ha, decide_false]
/-- Is a text the tag of this text? -/
def hitT (t x : Bs) : Bool := match tagS x with
  | some (_, u) => u == t
  | none => false
def matchB (s own : Bs) : Bool := s == [42] || match tagS own with
  | some (_, t) => (match split s with
    | some l => l.any (hitT t)
    | none => false)
  | none => false
theorem match1_ok {x t : Bs} {w : Bool} {id : Nat} {h : Heap} (hx : x.length ≤ 9223372036854775807) (hb : h[id]? = some (.box [.bool w, .str t])) : Cf F L i_validator_matches_1 [.str x, .ptr id 0] h (Pu h (.bool (hitT t x))) := by
  refine run_validator_matches_1 ?_
  simp only [p_validator_matches_1]
  have hi := (List.getElem?_eq_some_iff.1 hb).1
  refine Cf.pu (TParse_ok hx) fun u => ?_
  unfold hitT
  cases e : tagS x with
  | none => simp (maxSteps := 4000000) only [vm, vl, Arg.get, cells, stor, boundO, resultsV, resV, partK, loadV, Vm.part, fillC, splice, reduceIte, reduceCtorEq, Nat.reduceEqDiff, Nat.reduceAdd, Nat.reduceSub, Nat.reduceMul, Nat.reduceLeDiff, ne_eq, not_false_eq_true, Int.reduceEq, Int.reduceLT, Int.reduceLE, Int.reduceNeg, Int.reduceToNat, Int.reduceGT, Int.reduceGE, Nat.reduceLT, Nat.lt_add_one, Nat.zero_lt_succ, Nat.succ_pos, Nat.zero_le, beq_self_eq_true, tagV]
  | some p =>
    obtain ⟨w', t'⟩ := p
    have hb' : ∀ l : Heap, (h ++ l)[id]? = some (.box [.bool w, .str t]) := fun l => by rw [List.getElem?_append_left hi, hb]
    simp (maxSteps := 4000000) only [vm, vl, Arg.get, cells, stor, boundO, resultsV, resV, partK, loadV, Vm.part, fillC, splice, reduceIte, reduceCtorEq, Nat.reduceEqDiff, Nat.reduceAdd, Nat.reduceSub, Nat.reduceMul, Nat.reduceLeDiff, ne_eq, not_false_eq_true, Int.reduceEq, Int.reduceLT, Int.reduceLE, Int.reduceNeg, Int.reduceToNat, Int.reduceGT, Int.reduceGE, Nat.reduceLT, Nat.lt_add_one, Nat.zero_lt_succ, Nat.succ_pos, Nat.zero_le, beq_self_eq_true, tagV, hb']
    refine Cf.pu Weak_ok fun u2 => ?_
    simp (maxSteps := 4000000) only [vm, vl, Arg.get, cells, stor, boundO, resultsV, resV, partK, loadV, Vm.part, fillC, splice, reduceIte, reduceCtorEq, Nat.reduceEqDiff, Nat.reduceAdd, Nat.reduceSub, Nat.reduceMul, Nat.reduceLeDiff, ne_eq, not_false_eq_true, Int.reduceEq, Int.reduceLT, Int.reduceLE, Int.reduceNeg, Int.reduceToNat, Int.reduceGT, Int.reduceGE, Nat.reduceLT, Nat.lt_add_one, Nat.zero_lt_succ, Nat.succ_pos, Nat.zero_le, beq_self_eq_true]
theorem matches_ok {s own : Bs} (hs : s.length < 500000000) (ho : own.length ≤ 9223372036854775807) : Cf F L i_validator_matches [.str s, .str own] h (Pu h (.bool (matchB s own))) := by
  refine run_validator_matches ?_
  simp only [p_validator_matches]
  unfold matchB
  by_cases a : s = [42]
  · have a' : (s == [42]) = true := beq_iff_eq.2 a
    simp (maxSteps := 4000000) only [vm, vl, Arg.get, cells, stor, boundO, resultsV, resV, partK, loadV, Vm.part, fillC, splice, reduceIte, reduceCtorEq, Nat.reduceEqDiff, Nat.reduceAdd, Nat.reduceSub, Nat.reduceMul, Nat.reduceLeDiff, ne_eq, not_false_eq_true, Int.reduceEq, Int.reduceLT, Int.reduceLE, Int.reduceNeg, Int.reduceToNat, Int.reduceGT, Int.reduceGE, Nat.reduceLT, Nat.lt_add_one, Nat.zero_lt_succ, Nat.succ_pos, Nat.zero_le, beq_self_eq_true, k_validator_matches_0, a', Bool.true_or]
  have a' : (s == [42]) = false := beq_eq_false_iff_ne.2 a
  simp (maxSteps := 4000000) only [vm, vl, Arg.get, cells, stor, boundO, resultsV, resV, partK, loadV, Vm.part, fillC, splice, reduceIte, reduceCtorEq, Nat.reduceEqDiff, Nat.reduceAdd, Nat.reduceSub, Nat.reduceMul, Nat.reduceLeDiff, ne_eq, not_false_eq_true, Int.reduceEq, Int.reduceLT, Int.reduceLE, Int.reduceNeg, Int.reduceToNat, Int.reduceGT, Int.reduceGE, Nat.reduceLT, Nat.lt_add_one, Nat.zero_lt_succ, Nat.succ_pos, Nat.zero_le, beq_self_eq_true, k_validator_matches_0, a', Bool.false_or]
  refine Cf.pu (TParse_ok ho) fun u => ?_
  cases e : tagS own with
  | none =>
    simp (maxSteps := 4000000) only [vm, vl, Arg.get, cells, stor, boundO, resultsV, resV, partK, loadV, Vm.part, fillC, splice, reduceIte, reduceCtorEq, Nat.reduceEqDiff, Nat.reduceAdd, Nat.reduceSub, Nat.reduceMul, Nat.reduceLeDiff, ne_eq, not_false_eq_true, Int.reduceEq, Int.reduceLT, Int.reduceLE, Int.reduceNeg, Int.reduceToNat, Int.reduceGT, Int.reduceGE, Nat.reduceLT, Nat.lt_add_one, Nat.zero_lt_succ, Nat.succ_pos, Nat.zero_le, beq_self_eq_true, k_validator_matches_0, tagV]
    refine Cf.pu (Split_ok (by omega)) fun u2 => ?_
    cases e2 : split s with
    | none => simp (maxSteps := 4000000) only [vm, vl, Arg.get, cells, stor, boundO, resultsV, resV, partK, loadV, Vm.part, fillC, splice, reduceIte, reduceCtorEq, Nat.reduceEqDiff, Nat.reduceAdd, Nat.reduceSub, Nat.reduceMul, Nat.reduceLeDiff, ne_eq, not_false_eq_true, Int.reduceEq, Int.reduceLT, Int.reduceLE, Int.reduceNeg, Int.reduceToNat, Int.reduceGT, Int.reduceGE, Nat.reduceLT, Nat.lt_add_one, Nat.zero_lt_succ, Nat.succ_pos, Nat.zero_le, beq_self_eq_true, k_validator_matches_0, splitV]
    | some l => simp (maxSteps := 4000000) only [vm, vl, Arg.get, cells, stor, boundO, resultsV, resV, partK, loadV, Vm.part, fillC, splice, reduceIte, reduceCtorEq, Nat.reduceEqDiff, Nat.reduceAdd, Nat.reduceSub, Nat.reduceMul, Nat.reduceLeDiff, ne_eq, not_false_eq_true, Int.reduceEq, Int.reduceLT, Int.reduceLE, Int.reduceNeg, Int.reduceToNat, Int.reduceGT, Int.reduceGE, Nat.reduceLT, Nat.lt_add_one, Nat.zero_lt_succ, Nat.succ_pos, Nat.zero_le, beq_self_eq_true, k_validator_matches_0, splitV]
  | some p =>
    obtain ⟨w, t⟩ := p
    simp (maxSteps := 4000000) only [vm, vl, Arg.get, cells, stor, boundO, resultsV, resV, partK, loadV, Vm.part, fillC, splice, reduceIte, reduceCtorEq, Nat.reduceEqDiff, Nat.reduceAdd, Nat.reduceSub, Nat.reduceMul, Nat.reduceLeDiff, ne_eq, not_false_eq_true, Int.reduceEq, Int.reduceLT, Int.reduceLE, Int.reduceNeg, Int.reduceToNat, Int.reduceGT, Int.reduceGE, Nat.reduceLT, Nat.lt_add_one, Nat.zero_lt_succ, Nat.succ_pos, Nat.zero_le, beq_self_eq_true, k_validator_matches_0, tagV]
    refine Cf.pu (Split_ok (by omega)) fun u2 => ?_
    cases e2 : split s with
    | none => simp (maxSteps := 4000000) only [vm, vl, Arg.get, cells, stor, boundO, resultsV, resV, partK, loadV, Vm.part, fillC, splice, reduceIte, reduceCtorEq, Nat.reduceEqDiff, Nat.reduceAdd, Nat.reduceSub, Nat.reduceMul, Nat.reduceLeDiff, ne_eq, not_false_eq_true, Int.reduceEq, Int.reduceLT, Int.reduceLE, Int.reduceNeg, Int.reduceToNat, Int.reduceGT, Int.reduceGE, Nat.reduceLT, Nat.lt_add_one, Nat.zero_lt_succ, Nat.succ_pos, Nat.zero_le, beq_self_eq_true, k_validator_matches_0, splitV]
    | some l =>
      have sl := split_mem e2
      have sn := splitG_len (Nat.le_refl _) e2
      have hl : ListV 1 (fullV l) (strs l) := by
        unfold fullV
        by_cases hne : l = []
        · rw [if_pos hne]; subst hne; exact .inl ⟨rfl, rfl⟩
        · rw [if_neg hne]; exact .inr ⟨_, rfl⟩
      simp (maxSteps := 4000000) only [vm, vl, Arg.get, cells, stor, boundO, resultsV, resV, partK, loadV, Vm.part, fillC, splice, reduceIte, reduceCtorEq, Nat.reduceEqDiff, Nat.reduceAdd, Nat.reduceSub, Nat.reduceMul, Nat.reduceLeDiff, ne_eq, not_false_eq_true, Int.reduceEq, Int.reduceLT, Int.reduceLE, Int.reduceNeg, Int.reduceToNat, Int.reduceGT, Int.reduceGE, Nat.reduceLT, Nat.lt_add_one, Nat.zero_lt_succ, Nat.succ_pos, Nat.zero_le, beq_self_eq_true, k_validator_matches_0, splitV]
      refine Cf.pu (contains_fn (p := hitT t) hl (by simp at sn; omega) fun x hx t1 => ?_) fun u3 => ?_
      · refine match1_ok (w := w) (Nat.le_trans (sl x hx) (by omega)) ?_
        simp [List.getElem?_append]
      · simp (maxSteps := 4000000) only [vm, vl, Arg.get, cells, stor, boundO, resultsV, resV, partK, loadV, Vm.part, fillC, splice, reduceIte, reduceCtorEq, Nat.reduceEqDiff, Nat.reduceAdd, Nat.reduceSub, Nat.reduceMul, Nat.reduceLeDiff, ne_eq, not_false_eq_true, Int.reduceEq, Int.reduceLT, Int.reduceLE, Int.reduceNeg, Int.reduceToNat, Int.reduceGT, Int.reduceGE, Nat.reduceLT, Nat.lt_add_one, Nat.zero_lt_succ, Nat.succ_pos, Nat.zero_le, beq_self_eq_true, k_validator_matches_0]
def nINM : Bs := [73, 102, 45, 78, 111, 110, 101, 45, 77, 97, 116, 99, 104]
def nIMS : Bs := [73, 102, 45, 77, 111, 100, 105, 102, 105, 101, 100, 45, 83, 105, 110, 99, 101]
def nIR : Bs := [73, 102, 45, 82, 97, 110, 103, 101]
def nR : Bs := [82, 97, 110, 103, 101]
/-- The fields that may be asked. -/
def FewF (l : List Fld) : Prop := l.length < 1000000 ∧ (∀ f ∈ l, f.1.length ≤ 140737488355328) ∧ ∀ name, (joinS (valsOf l name)).length < 500000000
theorem Get_few {x : V} {l : List Fld} {name : Bs} (HJ : JoinOk L) (hx : ListV 2 x (flds l)) (hl : FewF l) (hn : name.length ≤ 140737488355328) : Cf F L i_field_Get [x, .str name] h (Pu h (.tup [.str (joinS (valsOf l name)), .int .i64 (valsOf l name).length])) :=
  Get_ok HJ hx (by have := hl.1; omega) hl.2.1 hn (by have := hl.2.2 name; omega)
theorem one_ok {x : V} {l : List Fld} {name : Bs} (HJ : JoinOk L) (hx : ListV 2 x (flds l)) (hl : FewF l) (hn : name.length ≤ 140737488355328) : Cf F L i_validator_one [x, .str name] h (Pu h (.tup [.str (joinS (valsOf l name)), .bool (decide ((valsOf l name).length = 1))])) := by
  refine run_validator_one ?_
  simp only [p_validator_one]
  refine Cf.pu (Get_few HJ hx hl hn) fun u => ?_
  have e : decide (((valsOf l name).length : Int) = 1) = decide ((valsOf l name).length = 1) := by
    rw [decide_eq_decide]; omega
  simp (maxSteps := 4000000) only [vm, vl, Arg.get, cells, stor, boundO, resultsV, resV, partK, loadV, Vm.part, fillC, splice, reduceIte, reduceCtorEq, Nat.reduceEqDiff, Nat.reduceAdd, Nat.reduceSub, Nat.reduceMul, Nat.reduceLeDiff, ne_eq, not_false_eq_true, Int.reduceEq, Int.reduceLT, Int.reduceLE, Int.reduceNeg, Int.reduceToNat, Int.reduceGT, Int.reduceGE, Nat.reduceLT, Nat.lt_add_one, Nat.zero_lt_succ, Nat.succ_pos, Nat.zero_le, beq_self_eq_true, e]
def sinceB (s : Bs) (m : Int) : Bool := match dateS s with
  | some d => decide (m ≥ 0) && decide (m ≤ d)
  | none => false
def unchS (meth : Bs) (l : List Fld) (tag : Bs) (m : Int) : Bool :=
  if meth = [71, 69, 84] ∨ meth = [72, 69, 65, 68] then
    (if (valsOf l nINM).length > 0 then matchB (joinS (valsOf l nINM)) tag else decide ((valsOf l nIMS).length = 1) && sinceB (joinS (valsOf l nIMS)) m)
  else false
theorem unch1_ok {x p y : V} {meth : Bs} {l : List Fld} {ms : List V} {m : Int} {u : Heap} (HJ : JoinOk L) (hx : ListV 2 x (flds l)) (hl : FewF l) (hm : ms.length = 21) (h16 : ms.getD 16 (.tup []) = .int .i64 m) :
    k_validator_Unchanged_1 L (Pu h (.bool (decide ((valsOf l nIMS).length = 1) && sinceB (joinS (valsOf l nIMS)) m))) (.ptr h.length 0) (.ptr (h.length + 1) 0) (h ++ (O.box [.str meth, p, y, x] :: O.box ms :: u)) := by
  
  unfold k_validator_Unchanged_1
  have g2 : ∀ hh, Cf F L i_validator_one [x, .str [73, 102, 45, 77, 111, 100, 105, 102, 105, 101, 100, 45, 83, 105, 110, 99, 101]] hh (Pu hh (.tup [.str (joinS (valsOf l nIMS)), .bool (decide ((valsOf l nIMS).length = 1))])) := fun hh => one_ok HJ hx hl (by decide)
  have b2 := hl.2.2 nIMS
  have hm16 : 16 + 1 ≤ ms.length := by omega
  generalize joinS (valsOf l nIMS) = s2 at *
  generalize (valsOf l nIMS).length = n2 at *
  have P := fun hh => DParse_ok (L := L) (h := hh) (s := s2) (by omega)
  unfold sinceB
  simp (maxSteps := 4000000) only [vm, vl, Arg.get, cells, stor, boundO, resultsV, resV, partK, loadV, Vm.part, fillC, splice, reduceIte, reduceCtorEq, Nat.reduceEqDiff, Nat.reduceAdd, Nat.reduceSub, Nat.reduceMul, Nat.reduceLeDiff, ne_eq, not_false_eq_true, Int.reduceEq, Int.reduceLT, Int.reduceLE, Int.reduceNeg, Int.reduceToNat, Int.reduceGT, Int.reduceGE, Nat.reduceLT, Nat.lt_add_one, Nat.zero_lt_succ, Nat.succ_pos, Nat.zero_le, beq_self_eq_true]
  refine Cf.pu (g2 _) fun u2 => ?_
  simp (maxSteps := 4000000) only [vm, vl, Arg.get, cells, stor, boundO, resultsV, resV, partK, loadV, Vm.part, fillC, splice, reduceIte, reduceCtorEq, Nat.reduceEqDiff, Nat.reduceAdd, Nat.reduceSub, Nat.reduceMul, Nat.reduceLeDiff, ne_eq, not_false_eq_true, Int.reduceEq, Int.reduceLT, Int.reduceLE, Int.reduceNeg, Int.reduceToNat, Int.reduceGT, Int.reduceGE, Nat.reduceLT, Nat.lt_add_one, Nat.zero_lt_succ, Nat.succ_pos, Nat.zero_le, beq_self_eq_true]
  refine Cf.pu (P _) fun u3 => ?_
  cases e2 : dateS s2 with
  | none =>
    by_cases d : n2 = 1
    · simp (maxSteps := 4000000) only [vm, vl, Arg.get, cells, stor, boundO, resultsV, resV, partK, loadV, Vm.part, fillC, splice, reduceIte, reduceCtorEq, Nat.reduceEqDiff, Nat.reduceAdd, Nat.reduceSub, Nat.reduceMul, Nat.reduceLeDiff, ne_eq, not_false_eq_true, Int.reduceEq, Int.reduceLT, Int.reduceLE, Int.reduceNeg, Int.reduceToNat, Int.reduceGT, Int.reduceGE, Nat.reduceLT, Nat.lt_add_one, Nat.zero_lt_succ, Nat.succ_pos, Nat.zero_le, beq_self_eq_true, d, decide_true, dateV, Bool.and_false]
    · simp (maxSteps := 4000000) only [vm, vl, Arg.get, cells, stor, boundO, resultsV, resV, partK, loadV, Vm.part, fillC, splice, reduceIte, reduceCtorEq, Nat.reduceEqDiff, Nat.reduceAdd, Nat.reduceSub, Nat.reduceMul, Nat.reduceLeDiff, ne_eq, not_false_eq_true, Int.reduceEq, Int.reduceLT, Int.reduceLE, Int.reduceNeg, Int.reduceToNat, Int.reduceGT, Int.reduceGE, Nat.reduceLT, Nat.lt_add_one, Nat.zero_lt_succ, Nat.succ_pos, Nat.zero_le, beq_self_eq_true, d, decide_false, dateV, Bool.false_and]
  | some t =>
    by_cases d : n2 = 1
    · by_cases q : m ≥ 0
      · by_cases q2 : m ≤ t
        · simp (maxSteps := 4000000) only [vm, vl, Arg.get, cells, stor, boundO, resultsV, resV, partK, loadV, Vm.part, fillC, splice, reduceIte, reduceCtorEq, Nat.reduceEqDiff, Nat.reduceAdd, Nat.reduceSub, Nat.reduceMul, Nat.reduceLeDiff, ne_eq, not_false_eq_true, Int.reduceEq, Int.reduceLT, Int.reduceLE, Int.reduceNeg, Int.reduceToNat, Int.reduceGT, Int.reduceGE, Nat.reduceLT, Nat.lt_add_one, Nat.zero_lt_succ, Nat.succ_pos, Nat.zero_le, beq_self_eq_true, d, decide_true, dateV, hm16, h16, hm, q, q2, Bool.and_self]
        · simp (maxSteps := 4000000) only [vm, vl, Arg.get, cells, stor, boundO, resultsV, resV, partK, loadV, Vm.part, fillC, splice, reduceIte, reduceCtorEq, Nat.reduceEqDiff, Nat.reduceAdd, Nat.reduceSub, Nat.reduceMul, Nat.reduceLeDiff, ne_eq, not_false_eq_true, Int.reduceEq, Int.reduceLT, Int.reduceLE, Int.reduceNeg, Int.reduceToNat, Int.reduceGT, Int.reduceGE, Nat.reduceLT, Nat.lt_add_one, Nat.zero_lt_succ, Nat.succ_pos, Nat.zero_le, beq_self_eq_true, d, decide_true, decide_false, dateV, hm16, h16, hm, q, q2, Bool.and_false]
      · simp (maxSteps := 4000000) only [vm, vl, Arg.get, cells, stor, boundO, resultsV, resV, partK, loadV, Vm.part, fillC, splice, reduceIte, reduceCtorEq, Nat.reduceEqDiff, Nat.reduceAdd, Nat.reduceSub, Nat.reduceMul, Nat.reduceLeDiff, ne_eq, not_false_eq_true, Int.reduceEq, Int.reduceLT, Int.reduceLE, Int.reduceNeg, Int.reduceToNat, Int.reduceGT, Int.reduceGE, Nat.reduceLT, Nat.lt_add_one, Nat.zero_lt_succ, Nat.succ_pos, Nat.zero_le, beq_self_eq_true, d, decide_true, decide_false, dateV, hm16, h16, hm, q, Bool.and_false, Bool.false_and]
    · simp (maxSteps := 4000000) only [vm, vl, Arg.get, cells, stor, boundO, resultsV, resV, partK, loadV, Vm.part, fillC, splice, reduceIte, reduceCtorEq, Nat.reduceEqDiff, Nat.reduceAdd, Nat.reduceSub, Nat.reduceMul, Nat.reduceLeDiff, ne_eq, not_false_eq_true, Int.reduceEq, Int.reduceLT, Int.reduceLE, Int.reduceNeg, Int.reduceToNat, Int.reduceGT, Int.reduceGE, Nat.reduceLT, Nat.lt_add_one, Nat.zero_lt_succ, Nat.succ_pos, Nat.zero_le, beq_self_eq_true, d, decide_false, dateV, Bool.false_and]
theorem unch0_ok {x p y : V} {meth : Bs} {l : List Fld} {ms : List V} {m : Int} {tag : Bs} {u : Heap} (HJ : JoinOk L) (hx : ListV 2 x (flds l)) (hl : FewF l) (ht : tag.length ≤ 140737488355328) (hm : ms.length = 21) (h16 : ms.getD 16 (.tup []) = .int .i64 m) (h20 : ms.getD 20 (.tup []) = .str tag) (hmeth : meth = [71, 69, 84] ∨ meth = [72, 69, 65, 68]) :
    k_validator_Unchanged_0 L (Pu h (.bool (unchS meth l tag m))) (.ptr h.length 0) (.ptr (h.length + 1) 0) (h ++ (O.box [.str meth, p, y, x] :: O.box ms :: u)) := by
  
  unfold k_validator_Unchanged_0
  have g1 : ∀ hh, Cf F L i_field_Get [x, .str [73, 102, 45, 78, 111, 110, 101, 45, 77, 97, 116, 99, 104]] hh (Pu hh (.tup [.str (joinS (valsOf l nINM)), .int .i64 (valsOf l nINM).length])) := fun hh => Get_few HJ hx hl (by decide)
  have b1 := hl.2.2 nINM
  have hm20 : 20 + 1 ≤ ms.length := by omega
  have e : unchS meth l tag m = if (valsOf l nINM).length > 0 then matchB (joinS (valsOf l nINM)) tag else decide ((valsOf l nIMS).length = 1) && sinceB (joinS (valsOf l nIMS)) m := by unfold unchS; rw [if_pos hmeth]
  rw [e]
  have K1 := fun u => unch1_ok (L := L) (h := h) (u := u) (p := p) (y := y) (meth := meth) HJ hx hl hm h16
  generalize (decide ((valsOf l nIMS).length = 1) && sinceB (joinS (valsOf l nIMS)) m) = B at *
  generalize joinS (valsOf l nINM) = s1 at *
  generalize (valsOf l nINM).length = n1 at *
  simp (maxSteps := 4000000) only [vm, vl, Arg.get, cells, stor, boundO, resultsV, resV, partK, loadV, Vm.part, fillC, splice, reduceIte, reduceCtorEq, Nat.reduceEqDiff, Nat.reduceAdd, Nat.reduceSub, Nat.reduceMul, Nat.reduceLeDiff, ne_eq, not_false_eq_true, Int.reduceEq, Int.reduceLT, Int.reduceLE, Int.reduceNeg, Int.reduceToNat, Int.reduceGT, Int.reduceGE, Nat.reduceLT, Nat.lt_add_one, Nat.zero_lt_succ, Nat.succ_pos, Nat.zero_le, beq_self_eq_true]
  refine Cf.pu (g1 _) fun u1 => ?_
  by_cases c : n1 > 0
  · have c' : (n1 : Int) > 0 := by omega
    rw [if_pos c]
    simp (maxSteps := 4000000) only [vm, vl, Arg.get, cells, stor, boundO, resultsV, resV, partK, loadV, Vm.part, fillC, splice, reduceIte, reduceCtorEq, Nat.reduceEqDiff, Nat.reduceAdd, Nat.reduceSub, Nat.reduceMul, Nat.reduceLeDiff, ne_eq, not_false_eq_true, Int.reduceEq, Int.reduceLT, Int.reduceLE, Int.reduceNeg, Int.reduceToNat, Int.reduceGT, Int.reduceGE, Nat.reduceLT, Nat.lt_add_one, Nat.zero_lt_succ, Nat.succ_pos, Nat.zero_le, beq_self_eq_true, c', decide_true, hm20, h20, hm]
    refine Cf.pu (matches_ok b1 (by omega)) fun u2 => ?_
    simp (maxSteps := 4000000) only [vm, vl, Arg.get, cells, stor, boundO, resultsV, resV, partK, loadV, Vm.part, fillC, splice, reduceIte, reduceCtorEq, Nat.reduceEqDiff, Nat.reduceAdd, Nat.reduceSub, Nat.reduceMul, Nat.reduceLeDiff, ne_eq, not_false_eq_true, Int.reduceEq, Int.reduceLT, Int.reduceLE, Int.reduceNeg, Int.reduceToNat, Int.reduceGT, Int.reduceGE, Nat.reduceLT, Nat.lt_add_one, Nat.zero_lt_succ, Nat.succ_pos, Nat.zero_le, beq_self_eq_true]
  · have c' : ¬ (n1 : Int) > 0 := by omega
    rw [if_neg c]
    simp (maxSteps := 4000000) only [vm, vl, Arg.get, cells, stor, boundO, resultsV, resV, partK, loadV, Vm.part, fillC, splice, reduceIte, reduceCtorEq, Nat.reduceEqDiff, Nat.reduceAdd, Nat.reduceSub, Nat.reduceMul, Nat.reduceLeDiff, ne_eq, not_false_eq_true, Int.reduceEq, Int.reduceLT, Int.reduceLE, Int.reduceNeg, Int.reduceToNat, Int.reduceGT, Int.reduceGE, Nat.reduceLT, Nat.lt_add_one, Nat.zero_lt_succ, Nat.succ_pos, Nat.zero_le, beq_self_eq_true, c', decide_false]
    exact K1 _
theorem unch_ok {x p y : V} {meth : Bs} {l : List Fld} {ms : List V} {m : Int} {tag : Bs} (HJ : JoinOk L) (hx : ListV 2 x (flds l)) (hl : FewF l) (ht : tag.length ≤ 140737488355328) (hm : ms.length = 21) (h16 : ms.getD 16 (.tup []) = .int .i64 m) (h20 : ms.getD 20 (.tup []) = .str tag) :
    Cf F L i_validator_Unchanged [.agg [.str meth, p, y, x], .agg ms] h (Pu h (.bool (unchS meth l tag m))) := by
  refine run_validator_Unchanged ?_
  simp only [p_validator_Unchanged]
  
  have rest := fun hm' => unch0_ok (L := L) (h := h) (u := []) (p := p) (y := y) (meth := meth) HJ hx hl ht hm h16 h20 hm'
  by_cases a1 : meth = [71, 69, 84]
  · have a1' : (meth == [71, 69, 84]) = true := beq_iff_eq.2 a1
    simp (maxSteps := 4000000) only [vm, vl, Arg.get, cells, stor, boundO, resultsV, resV, partK, loadV, Vm.part, fillC, splice, reduceIte, reduceCtorEq, Nat.reduceEqDiff, Nat.reduceAdd, Nat.reduceSub, Nat.reduceMul, Nat.reduceLeDiff, ne_eq, not_false_eq_true, Int.reduceEq, Int.reduceLT, Int.reduceLE, Int.reduceNeg, Int.reduceToNat, Int.reduceGT, Int.reduceGE, Nat.reduceLT, Nat.lt_add_one, Nat.zero_lt_succ, Nat.succ_pos, Nat.zero_le, beq_self_eq_true, a1', Bool.not_true]
    exact rest (.inl a1)
  have a1' : (meth == [71, 69, 84]) = false := beq_eq_false_iff_ne.2 a1
  by_cases a2 : meth = [72, 69, 65, 68]
  · have a2' : (meth == [72, 69, 65, 68]) = true := beq_iff_eq.2 a2
    simp (maxSteps := 4000000) only [vm, vl, Arg.get, cells, stor, boundO, resultsV, resV, partK, loadV, Vm.part, fillC, splice, reduceIte, reduceCtorEq, Nat.reduceEqDiff, Nat.reduceAdd, Nat.reduceSub, Nat.reduceMul, Nat.reduceLeDiff, ne_eq, not_false_eq_true, Int.reduceEq, Int.reduceLT, Int.reduceLE, Int.reduceNeg, Int.reduceToNat, Int.reduceGT, Int.reduceGE, Nat.reduceLT, Nat.lt_add_one, Nat.zero_lt_succ, Nat.succ_pos, Nat.zero_le, beq_self_eq_true, a1', a2', Bool.not_true, Bool.not_false]
    exact rest (.inr a2)
  · have a2' : (meth == [72, 69, 65, 68]) = false := beq_eq_false_iff_ne.2 a2
    have e : unchS meth l tag m = false := by unfold unchS; rw [if_neg (fun h => h.elim a1 a2)]
    rw [e]
    simp (maxSteps := 4000000) only [vm, vl, Arg.get, cells, stor, boundO, resultsV, resV, partK, loadV, Vm.part, fillC, splice, reduceIte, reduceCtorEq, Nat.reduceEqDiff, Nat.reduceAdd, Nat.reduceSub, Nat.reduceMul, Nat.reduceLeDiff, ne_eq, not_false_eq_true, Int.reduceEq, Int.reduceLT, Int.reduceLE, Int.reduceNeg, Int.reduceToNat, Int.reduceGT, Int.reduceGE, Nat.reduceLT, Nat.lt_add_one, Nat.zero_lt_succ, Nat.succ_pos, Nat.zero_le, beq_self_eq_true, a1', a2', Bool.not_true, Bool.not_false]
def strongB (a b : Option (Bool × Bs)) : Bool := match a, b with
  | some (w, t), some (w', t') => (w == w' && t == t') && !w
  | _, _ => false
def applS (meth : Bs) (l : List Fld) (tag : Bs) (m : Int) : Bool :=
  if (valsOf l nR).length = 1 ∧ meth = [71, 69, 84] then
    (if (valsOf l nIR).length = 1 then
      (match tagS (joinS (valsOf l nIR)) with
        | some a => strongB (some a) (tagS tag)
        | none => (match dateS (joinS (valsOf l nIR)) with
          | some d => decide (d = m)
          | none => false))
    else decide ((valsOf l nIR).length = 0))
  else false
theorem appl_ok {x p y : V} {meth : Bs} {l : List Fld} {ms : List V} {m : Int} {tag : Bs} (HJ : JoinOk L) (hx : ListV 2 x (flds l)) (hl : FewF l) (ht : tag.length ≤ 140737488355328) (hm : ms.length = 21) (h16 : ms.getD 16 (.tup []) = .int .i64 m) (h20 : ms.getD 20 (.tup []) = .str tag) :
    Cf F L i_validator_Applies [.agg [.str meth, p, y, x], .agg ms] h (Pu h (.bool (applS meth l tag m))) := by
  refine run_validator_Applies ?_
  simp only [p_validator_Applies]
  
  have g1 : ∀ hh, Cf F L i_validator_one [x, .str [82, 97, 110, 103, 101]] hh (Pu hh (.tup [.str (joinS (valsOf l nR)), .bool (decide ((valsOf l nR).length = 1))])) := fun hh => one_ok HJ hx hl (by decide)
  have g2 : ∀ hh, Cf F L i_field_Get [x, .str [73, 102, 45, 82, 97, 110, 103, 101]] hh (Pu hh (.tup [.str (joinS (valsOf l nIR)), .int .i64 (valsOf l nIR).length])) := fun hh => Get_few HJ hx hl (by decide)
  have b2 := hl.2.2 nIR
  have hm16 : 16 + 1 ≤ ms.length := by omega
  have hm20 : 20 + 1 ≤ ms.length := by omega
  unfold applS
  generalize joinS (valsOf l nIR) = s2 at *
  generalize joinS (valsOf l nR) = s1 at *
  generalize (valsOf l nIR).length = n2 at *
  generalize (valsOf l nR).length = n1 at *
  have bc : ∀ (u : Heap) (i : Nat) (X : O), (h ++ (O.box [.str meth, p, y, x] :: O.box ms :: u))[h.length + 1]? = some (.box ms) := fun u i X => by simp [List.getElem?_append]
  simp (maxSteps := 4000000) only [vm, vl, Arg.get, cells, stor, boundO, resultsV, resV, partK, loadV, Vm.part, fillC, splice, reduceIte, reduceCtorEq, Nat.reduceEqDiff, Nat.reduceAdd, Nat.reduceSub, Nat.reduceMul, Nat.reduceLeDiff, ne_eq, not_false_eq_true, Int.reduceEq, Int.reduceLT, Int.reduceLE, Int.reduceNeg, Int.reduceToNat, Int.reduceGT, Int.reduceGE, Nat.reduceLT, Nat.lt_add_one, Nat.zero_lt_succ, Nat.succ_pos, Nat.zero_le, beq_self_eq_true]
  refine Cf.pu (g1 _) fun u1 => ?_
  by_cases c1 : n1 = 1
  case neg =>
    rw [if_neg (fun h => c1 h.1)]
    simp (maxSteps := 4000000) only [vm, vl, Arg.get, cells, stor, boundO, resultsV, resV, partK, loadV, Vm.part, fillC, splice, reduceIte, reduceCtorEq, Nat.reduceEqDiff, Nat.reduceAdd, Nat.reduceSub, Nat.reduceMul, Nat.reduceLeDiff, ne_eq, not_false_eq_true, Int.reduceEq, Int.reduceLT, Int.reduceLE, Int.reduceNeg, Int.reduceToNat, Int.reduceGT, Int.reduceGE, Nat.reduceLT, Nat.lt_add_one, Nat.zero_lt_succ, Nat.succ_pos, Nat.zero_le, beq_self_eq_true, c1, decide_false, Bool.not_false]
  by_cases a1 : meth = [71, 69, 84]
  case neg =>
    have a1' : (meth == [71, 69, 84]) = false := beq_eq_false_iff_ne.2 a1
    rw [if_neg (fun h => a1 h.2)]
    simp (maxSteps := 4000000) only [vm, vl, Arg.get, cells, stor, boundO, resultsV, resV, partK, loadV, Vm.part, fillC, splice, reduceIte, reduceCtorEq, Nat.reduceEqDiff, Nat.reduceAdd, Nat.reduceSub, Nat.reduceMul, Nat.reduceLeDiff, ne_eq, not_false_eq_true, Int.reduceEq, Int.reduceLT, Int.reduceLE, Int.reduceNeg, Int.reduceToNat, Int.reduceGT, Int.reduceGE, Nat.reduceLT, Nat.lt_add_one, Nat.zero_lt_succ, Nat.succ_pos, Nat.zero_le, beq_self_eq_true, c1, a1', decide_true, Bool.not_true, Bool.not_false]
  have a1' : (meth == [71, 69, 84]) = true := beq_iff_eq.2 a1
  rw [if_pos ⟨c1, a1⟩]
  simp (maxSteps := 4000000) only [vm, vl, Arg.get, cells, stor, boundO, resultsV, resV, partK, loadV, Vm.part, fillC, splice, reduceIte, reduceCtorEq, Nat.reduceEqDiff, Nat.reduceAdd, Nat.reduceSub, Nat.reduceMul, Nat.reduceLeDiff, ne_eq, not_false_eq_true, Int.reduceEq, Int.reduceLT, Int.reduceLE, Int.reduceNeg, Int.reduceToNat, Int.reduceGT, Int.reduceGE, Nat.reduceLT, Nat.lt_add_one, Nat.zero_lt_succ, Nat.succ_pos, Nat.zero_le, beq_self_eq_true, c1, a1', decide_true, Bool.not_true, Bool.not_false, k_validator_Applies_0]
  refine Cf.pu (g2 _) fun u2 => ?_
  by_cases c2 : n2 = 1
  case neg =>
    have c2' : ¬ (n2 : Int) = 1 := by omega
    have e0 : decide ((n2 : Int) = 0) = decide (n2 = 0) := by rw [decide_eq_decide]; omega
    rw [if_neg c2]
    simp (maxSteps := 4000000) only [vm, vl, Arg.get, cells, stor, boundO, resultsV, resV, partK, loadV, Vm.part, fillC, splice, reduceIte, reduceCtorEq, Nat.reduceEqDiff, Nat.reduceAdd, Nat.reduceSub, Nat.reduceMul, Nat.reduceLeDiff, ne_eq, not_false_eq_true, Int.reduceEq, Int.reduceLT, Int.reduceLE, Int.reduceNeg, Int.reduceToNat, Int.reduceGT, Int.reduceGE, Nat.reduceLT, Nat.lt_add_one, Nat.zero_lt_succ, Nat.succ_pos, Nat.zero_le, beq_self_eq_true, c2', decide_false, Bool.not_false, e0]
  have c2' : (n2 : Int) = 1 := by omega
  rw [if_pos c2]
  simp (maxSteps := 4000000) only [vm, vl, Arg.get, cells, stor, boundO, resultsV, resV, partK, loadV, Vm.part, fillC, splice, reduceIte, reduceCtorEq, Nat.reduceEqDiff, Nat.reduceAdd, Nat.reduceSub, Nat.reduceMul, Nat.reduceLeDiff, ne_eq, not_false_eq_true, Int.reduceEq, Int.reduceLT, Int.reduceLE, Int.reduceNeg, Int.reduceToNat, Int.reduceGT, Int.reduceGE, Nat.reduceLT, Nat.lt_add_one, Nat.zero_lt_succ, Nat.succ_pos, Nat.zero_le, beq_self_eq_true, c2', decide_true, Bool.not_true, k_validator_Applies_1, hm20, h20, hm]
  refine Cf.pu (TParse_ok (by omega)) fun u3 => ?_
  have sc : ∀ (A : Heap) (B : List V) (n : Nat), n = A.length → (A ++ [O.box [.bool false, .str []]]).set n (O.box B) = A ++ [O.box B] := fun A B n e => by subst e; simp
  obtain ⟨w1, t1, k1, e1⟩ := tagV_eq (tagS tag)
  rw [e1]
  simp (maxSteps := 4000000) only [vm, vl, Arg.get, cells, stor, boundO, resultsV, resV, partK, loadV, Vm.part, fillC, splice, reduceIte, reduceCtorEq, Nat.reduceEqDiff, Nat.reduceAdd, Nat.reduceSub, Nat.reduceMul, Nat.reduceLeDiff, ne_eq, not_false_eq_true, Int.reduceEq, Int.reduceLT, Int.reduceLE, Int.reduceNeg, Int.reduceToNat, Int.reduceGT, Int.reduceGE, Nat.reduceLT, Nat.lt_add_one, Nat.zero_lt_succ, Nat.succ_pos, Nat.zero_le, beq_self_eq_true]
  refine Cf.pu (TParse_ok (by omega)) fun u4 => ?_
  cases e3 : tagS s2 with
  | some q =>
    obtain ⟨w2, t2⟩ := q
    cases e4 : tagS tag with
    | none =>
      rw [e4] at e1
      have : k1 = false := by unfold tagV at e1; injection e1 with e1; injection e1 with _ e1; injection e1 with e1; injection e1 with e1; exact e1.symm
      subst this
      simp (maxSteps := 4000000) only [vm, vl, Arg.get, cells, stor, boundO, resultsV, resV, partK, loadV, Vm.part, fillC, splice, reduceIte, reduceCtorEq, Nat.reduceEqDiff, Nat.reduceAdd, Nat.reduceSub, Nat.reduceMul, Nat.reduceLeDiff, ne_eq, not_false_eq_true, Int.reduceEq, Int.reduceLT, Int.reduceLE, Int.reduceNeg, Int.reduceToNat, Int.reduceGT, Int.reduceGE, Nat.reduceLT, Nat.lt_add_one, Nat.zero_lt_succ, Nat.succ_pos, Nat.zero_le, beq_self_eq_true, tagV, strongB]
    | some q =>
      obtain ⟨w5, t5⟩ := q
      rw [e4] at e1
      have : w5 = w1 ∧ t5 = t1 ∧ k1 = true := by
        unfold tagV at e1; simp at e1; exact ⟨e1.1.1, e1.1.2, e1.2⟩
      obtain ⟨rfl, rfl, rfl⟩ := this
      simp (maxSteps := 4000000) only [vm, vl, Arg.get, cells, stor, boundO, resultsV, resV, partK, loadV, Vm.part, fillC, splice, reduceIte, reduceCtorEq, Nat.reduceEqDiff, Nat.reduceAdd, Nat.reduceSub, Nat.reduceMul, Nat.reduceLeDiff, ne_eq, not_false_eq_true, Int.reduceEq, Int.reduceLT, Int.reduceLE, Int.reduceNeg, Int.reduceToNat, Int.reduceGT, Int.reduceGE, Nat.reduceLT, Nat.lt_add_one, Nat.zero_lt_succ, Nat.succ_pos, Nat.zero_le, beq_self_eq_true, tagV, strongB]
      refine Cf.pu Strong_ok fun u5 => ?_
      simp (maxSteps := 4000000) only [vm, vl, Arg.get, cells, stor, boundO, resultsV, resV, partK, loadV, Vm.part, fillC, splice, reduceIte, reduceCtorEq, Nat.reduceEqDiff, Nat.reduceAdd, Nat.reduceSub, Nat.reduceMul, Nat.reduceLeDiff, ne_eq, not_false_eq_true, Int.reduceEq, Int.reduceLT, Int.reduceLE, Int.reduceNeg, Int.reduceToNat, Int.reduceGT, Int.reduceGE, Nat.reduceLT, Nat.lt_add_one, Nat.zero_lt_succ, Nat.succ_pos, Nat.zero_le, beq_self_eq_true]
  | none =>
    simp (maxSteps := 4000000) only [vm, vl, Arg.get, cells, stor, boundO, resultsV, resV, partK, loadV, Vm.part, fillC, splice, reduceIte, reduceCtorEq, Nat.reduceEqDiff, Nat.reduceAdd, Nat.reduceSub, Nat.reduceMul, Nat.reduceLeDiff, ne_eq, not_false_eq_true, Int.reduceEq, Int.reduceLT, Int.reduceLE, Int.reduceNeg, Int.reduceToNat, Int.reduceGT, Int.reduceGE, Nat.reduceLT, Nat.lt_add_one, Nat.zero_lt_succ, Nat.succ_pos, Nat.zero_le, beq_self_eq_true, tagV, k_validator_Applies_2]
    refine Cf.pu (DParse_ok (by omega)) fun u5 => ?_
    cases e5 : dateS s2 with
    | none => simp (maxSteps := 4000000) only [vm, vl, Arg.get, cells, stor, boundO, resultsV, resV, partK, loadV, Vm.part, fillC, splice, reduceIte, reduceCtorEq, Nat.reduceEqDiff, Nat.reduceAdd, Nat.reduceSub, Nat.reduceMul, Nat.reduceLeDiff, ne_eq, not_false_eq_true, Int.reduceEq, Int.reduceLT, Int.reduceLE, Int.reduceNeg, Int.reduceToNat, Int.reduceGT, Int.reduceGE, Nat.reduceLT, Nat.lt_add_one, Nat.zero_lt_succ, Nat.succ_pos, Nat.zero_le, beq_self_eq_true, dateV]
    | some d =>
      simp (maxSteps := 4000000) only [vm, vl, Arg.get, cells, stor, boundO, resultsV, resV, partK, loadV, Vm.part, fillC, splice, reduceIte, reduceCtorEq, Nat.reduceEqDiff, Nat.reduceAdd, Nat.reduceSub, Nat.reduceMul, Nat.reduceLeDiff, ne_eq, not_false_eq_true, Int.reduceEq, Int.reduceLT, Int.reduceLE, Int.reduceNeg, Int.reduceToNat, Int.reduceGT, Int.reduceGE, Nat.reduceLT, Nat.lt_add_one, Nat.zero_lt_succ, Nat.succ_pos, Nat.zero_le, beq_self_eq_true, dateV, hm16, h16, hm]
end Go.Proofs.YtfkebmdfcpnaeaaGreatDoor.Vh
end
section
set_option linter.unusedVariables false
set_option linter.unusedSimpArgs false
namespace Go.Proofs.YtfkebmdfcpnaeaaGreatDoor.Vh
open Go.Vm Go.Vt
attribute [local congr] wi_congr wg_congr wgd_congr wb_congr wl_congr cf_congr
variable {L : FuncId → List V → V → Prop} {h : Heap}
def RSplitI (h : Heap) (s : Bs) (n : Nat) (e : Env) (h' : Heap) : Prop :=
  ∃ (i : Nat) (own : Bs) (q : Bool) (out : List Bs), n = s.length - i ∧ i ≤ s.length ∧ own.length ≤ i ∧ out.length ≤ i ∧ Grow 1 h h' (e 4) (strs out) ∧
    e 0 = .str s ∧ e 5 = .str own ∧ e 6 = .bool q ∧ e 7 = .int .i64 i ∧ split s = splitG (s.drop i) own q out
/-- What Split comes to: a list, or none. -/
def SplitP (h : Heap) (o : Option (List Bs)) (v : V) (h' : Heap) : Prop := (∃ t, h' = h ++ t) ∧ ((o = none ∧ v = .tup [.nsl, .bool false]) ∨ ∃ out x, o = some out ∧ v = .tup [x, .bool true] ∧ ListV 1 x (strs out))
theorem SplitP.no {h h' : Heap} (hh : ∃ t, h' = h ++ t) : SplitP h none (.tup [.nsl, .bool false]) h' := ⟨hh, .inl ⟨rfl, rfl⟩⟩
theorem SplitP.yes {h h' : Heap} {x : V} {out : List Bs} (hh : ∃ t, h' = h ++ t) (hl : ListV 1 x (strs out)) : SplitP h (some out) (.tup [x, .bool true]) h' := ⟨hh, .inr ⟨out, x, rfl, rfl, hl⟩⟩
theorem rSplit_ok {s : Bs} (hs : s.length < 1000000000) : Cf F L i_gatepostref01_Split [.str s] h (SplitP h (split s)) := by
  refine run_gatepostref01_Split ?_
  simp only [p_gatepostref01_Split]
  refine l_gatepostref01_Split_0 (RSplitI h s) ?_ (n := s.length) ⟨0, [], false, [], by simp, by simp, by simp, by simp, .nil0, rfl, rfl, rfl, rfl, by simp [split]⟩
  rintro n e h' ⟨i, own, q, out, rfl, hi, how, hol, G, e0, e5, e6, e7, hst⟩
  simp only [b_gatepostref01_Split_0]
  generalize e4 : e 4 = x4 at *
  have hown : own.length < 9223372036854775807 := by omega
  have hfl := flush_len out own
  rcases str_at hi with ⟨hn, rfl, hd⟩ | ⟨c, hl, hl', hc, hd⟩
  · rw [hd] at hst
    simp (maxSteps := 4000000) only [vm, vl, Arg.get, cells, stor, boundO, resultsV, resV, partK, loadV, Vm.part, fillC, splice, reduceIte, reduceCtorEq, Nat.reduceEqDiff, Nat.reduceAdd, Nat.reduceSub, Nat.reduceMul, Nat.reduceLeDiff, ne_eq, not_false_eq_true, Int.reduceEq, Int.reduceLT, Int.reduceLE, Int.reduceNeg, Int.reduceToNat, Int.reduceGT, Int.reduceGE, Nat.reduceLT, Nat.lt_add_one, Nat.zero_lt_succ, Nat.succ_pos, Nat.zero_le, beq_self_eq_true, k_gatepostref01_Split_2, k_gatepostref01_Split_1, k_gatepostref01_Split_0, k_gatepostref01_Split_4, k_gatepostref01_Split_6, k_gatepostref01_Split_5, k_gatepostref01_Split_7, k_gatepostref01_Split_3, e0, e4, e5, e6, e7, hn]
    refine Cf.pu (rTrim_ok hown) fun t => ?_
    have G' := G.more (t := t)
    rw [hst]
    cases q with
    | true =>
      simp (maxSteps := 4000000) only [vm, vl, Arg.get, cells, stor, boundO, resultsV, resV, partK, loadV, Vm.part, fillC, splice, reduceIte, reduceCtorEq, Nat.reduceEqDiff, Nat.reduceAdd, Nat.reduceSub, Nat.reduceMul, Nat.reduceLeDiff, ne_eq, not_false_eq_true, Int.reduceEq, Int.reduceLT, Int.reduceLE, Int.reduceNeg, Int.reduceToNat, Int.reduceGT, Int.reduceGE, Nat.reduceLT, Nat.lt_add_one, Nat.zero_lt_succ, Nat.succ_pos, Nat.zero_le, beq_self_eq_true, k_gatepostref01_Split_2, k_gatepostref01_Split_1, k_gatepostref01_Split_0, k_gatepostref01_Split_4, k_gatepostref01_Split_6, k_gatepostref01_Split_5, k_gatepostref01_Split_7, k_gatepostref01_Split_3]
      exact .no G'.1
    | false =>
      show _
      have ef2 : splitG [] own false out = some (flush out own) := rfl
      rw [ef2]
      by_cases he : trim own = []
      · have q : (trim own == []) = true := by rw [he]; rfl
        have ef : flush out own = out := by simp [flush, he]
        rw [ef]
        simp (maxSteps := 4000000) only [vm, vl, Arg.get, cells, stor, boundO, resultsV, resV, partK, loadV, Vm.part, fillC, splice, reduceIte, reduceCtorEq, Nat.reduceEqDiff, Nat.reduceAdd, Nat.reduceSub, Nat.reduceMul, Nat.reduceLeDiff, ne_eq, not_false_eq_true, Int.reduceEq, Int.reduceLT, Int.reduceLE, Int.reduceNeg, Int.reduceToNat, Int.reduceGT, Int.reduceGE, Nat.reduceLT, Nat.lt_add_one, Nat.zero_lt_succ, Nat.succ_pos, Nat.zero_le, beq_self_eq_true, k_gatepostref01_Split_2, k_gatepostref01_Split_1, k_gatepostref01_Split_0, k_gatepostref01_Split_4, k_gatepostref01_Split_6, k_gatepostref01_Split_5, k_gatepostref01_Split_7, k_gatepostref01_Split_3, q]
        exact .yes G'.1 G'.list
      · have q : (trim own == []) = false := by simpa using he
        have ef : flush out own = out ++ [trim own] := by simp [flush, he]
        rw [ef]
        obtain ⟨x', h'', ha, G''⟩ := G'.app (bytes := 16) (y := .str (trim own)) (by rw [strs_len]; omega)
        rw [strs_app] at G''
        simp (maxSteps := 4000000) only [vm, vl, Arg.get, cells, stor, boundO, resultsV, resV, partK, loadV, Vm.part, fillC, splice, reduceIte, reduceCtorEq, Nat.reduceEqDiff, Nat.reduceAdd, Nat.reduceSub, Nat.reduceMul, Nat.reduceLeDiff, ne_eq, not_false_eq_true, Int.reduceEq, Int.reduceLT, Int.reduceLE, Int.reduceNeg, Int.reduceToNat, Int.reduceGT, Int.reduceGE, Nat.reduceLT, Nat.lt_add_one, Nat.zero_lt_succ, Nat.succ_pos, Nat.zero_le, beq_self_eq_true, k_gatepostref01_Split_2, k_gatepostref01_Split_1, k_gatepostref01_Split_0, k_gatepostref01_Split_4, k_gatepostref01_Split_6, k_gatepostref01_Split_5, k_gatepostref01_Split_7, k_gatepostref01_Split_3, q, ha]
        exact .yes G''.1 G''.list
  · have w := wrap64 (x := (i : Int) + 1) (by omega) (by omega)
    rw [hd, splitG_step] at hst
    have k0 : i ≤ i + 1 := by omega
    have ec : List.drop i (List.take (i + 1) s) = [c] := by
      rw [take_succ hl' hd, List.drop_append]
      simp [Nat.min_eq_left (Nat.le_of_lt hl'), List.drop_eq_nil_of_le]
    have hadd : binV .add (.str own) (.str [c]) = some (.str (own ++ [c])) := bin_sadd (by simp; omega)
    by_cases c44 : q = false ∧ c = 44
    · obtain ⟨rfl, rfl⟩ := c44
      have k1 : ¬ (44 : UInt8) = 34 := by decide
      rw [if_neg k1, if_neg (by simp), if_pos (by simp)] at hst
      simp (maxSteps := 4000000) only [vm, vl, Arg.get, cells, stor, boundO, resultsV, resV, partK, loadV, Vm.part, fillC, splice, reduceIte, reduceCtorEq, Nat.reduceEqDiff, Nat.reduceAdd, Nat.reduceSub, Nat.reduceMul, Nat.reduceLeDiff, ne_eq, not_false_eq_true, Int.reduceEq, Int.reduceLT, Int.reduceLE, Int.reduceNeg, Int.reduceToNat, Int.reduceGT, Int.reduceGE, Nat.reduceLT, Nat.lt_add_one, Nat.zero_lt_succ, Nat.succ_pos, Nat.zero_le, beq_self_eq_true, k_gatepostref01_Split_2, k_gatepostref01_Split_1, k_gatepostref01_Split_0, k_gatepostref01_Split_4, k_gatepostref01_Split_6, k_gatepostref01_Split_5, k_gatepostref01_Split_7, k_gatepostref01_Split_3, e0, e4, e5, e6, e7, hl, hl', hc, u44]
      refine Cf.pu (rTrim_ok hown) fun t => ?_
      have G' := G.more (t := t)
      by_cases he : trim own = []
      · have q : (trim own == []) = true := by rw [he]; rfl
        have ef : flush out own = out := by simp [flush, he]
        rw [ef] at hst
        simp (maxSteps := 4000000) only [vm, vl, Arg.get, cells, stor, boundO, resultsV, resV, partK, loadV, Vm.part, fillC, splice, reduceIte, reduceCtorEq, Nat.reduceEqDiff, Nat.reduceAdd, Nat.reduceSub, Nat.reduceMul, Nat.reduceLeDiff, ne_eq, not_false_eq_true, Int.reduceEq, Int.reduceLT, Int.reduceLE, Int.reduceNeg, Int.reduceToNat, Int.reduceGT, Int.reduceGE, Nat.reduceLT, Nat.lt_add_one, Nat.zero_lt_succ, Nat.succ_pos, Nat.zero_le, beq_self_eq_true, k_gatepostref01_Split_2, k_gatepostref01_Split_1, k_gatepostref01_Split_0, k_gatepostref01_Split_4, k_gatepostref01_Split_6, k_gatepostref01_Split_5, k_gatepostref01_Split_7, k_gatepostref01_Split_3, q, w]
        exact ⟨s.length - (i + 1), by omega, i + 1, [], false, out, rfl, hl', by simp, by omega, by simpa [upd, e4] using G', by simp [upd, e0], by simp [upd], by simp [upd, e6], by simp [upd], hst⟩
      · have q : (trim own == []) = false := by simpa using he
        have ef : flush out own = out ++ [trim own] := by simp [flush, he]
        rw [ef] at hst
        obtain ⟨x', h'', ha, G''⟩ := G'.app (bytes := 16) (y := .str (trim own)) (by rw [strs_len]; omega)
        rw [strs_app] at G''
        simp (maxSteps := 4000000) only [vm, vl, Arg.get, cells, stor, boundO, resultsV, resV, partK, loadV, Vm.part, fillC, splice, reduceIte, reduceCtorEq, Nat.reduceEqDiff, Nat.reduceAdd, Nat.reduceSub, Nat.reduceMul, Nat.reduceLeDiff, ne_eq, not_false_eq_true, Int.reduceEq, Int.reduceLT, Int.reduceLE, Int.reduceNeg, Int.reduceToNat, Int.reduceGT, Int.reduceGE, Nat.reduceLT, Nat.lt_add_one, Nat.zero_lt_succ, Nat.succ_pos, Nat.zero_le, beq_self_eq_true, k_gatepostref01_Split_2, k_gatepostref01_Split_1, k_gatepostref01_Split_0, k_gatepostref01_Split_4, k_gatepostref01_Split_6, k_gatepostref01_Split_5, k_gatepostref01_Split_7, k_gatepostref01_Split_3, q, ha, w]
        exact ⟨s.length - (i + 1), by omega, i + 1, [], false, out ++ [trim own], rfl, hl', by simp, by simp; omega, by simpa [upd] using G'', by simp [upd, e0], by simp [upd], by simp [upd, e6], by simp [upd], hst⟩
    · by_cases c34 : c = 34
      · subst c34
        have k1 : ¬ (34 : UInt8) = 44 := by decide
        have k2 : ¬ (34 : UInt8) = 92 := by decide
        rw [if_pos rfl] at hst
        have g := take_succ hl' hd
        cases q <;> simp (maxSteps := 4000000) only [vm, vl, Arg.get, cells, stor, boundO, resultsV, resV, partK, loadV, Vm.part, fillC, splice, reduceIte, reduceCtorEq, Nat.reduceEqDiff, Nat.reduceAdd, Nat.reduceSub, Nat.reduceMul, Nat.reduceLeDiff, ne_eq, not_false_eq_true, Int.reduceEq, Int.reduceLT, Int.reduceLE, Int.reduceNeg, Int.reduceToNat, Int.reduceGT, Int.reduceGE, Nat.reduceLT, Nat.lt_add_one, Nat.zero_lt_succ, Nat.succ_pos, Nat.zero_le, beq_self_eq_true, k_gatepostref01_Split_2, k_gatepostref01_Split_1, k_gatepostref01_Split_0, k_gatepostref01_Split_4, k_gatepostref01_Split_6, k_gatepostref01_Split_5, k_gatepostref01_Split_7, k_gatepostref01_Split_3, e0, e4, e5, e6, e7, hl, hl', hc, u44, u34, u92, k0, k1, k2, w, ec, hadd]
        · exact ⟨hl', s.length - (i + 1), by omega, i + 1, own ++ [34], true, out, rfl, hl', by simp; omega, by omega, by simpa [upd, e4] using G, by simp [upd, e0], by simp [upd], by simp [upd], by simp [upd], hst⟩
        · exact ⟨hl', s.length - (i + 1), by omega, i + 1, own ++ [34], false, out, rfl, hl', by simp; omega, by omega, by simpa [upd, e4] using G, by simp [upd, e0], by simp [upd], by simp [upd], by simp [upd], hst⟩
      · rw [if_neg c34] at hst
        cases q with
        | false =>
          have k1 : ¬ c = 44 := fun h => c44 ⟨rfl, h⟩
          rw [if_neg (by simp), if_neg (by simp [k1])] at hst
          simp (maxSteps := 4000000) only [vm, vl, Arg.get, cells, stor, boundO, resultsV, resV, partK, loadV, Vm.part, fillC, splice, reduceIte, reduceCtorEq, Nat.reduceEqDiff, Nat.reduceAdd, Nat.reduceSub, Nat.reduceMul, Nat.reduceLeDiff, ne_eq, not_false_eq_true, Int.reduceEq, Int.reduceLT, Int.reduceLE, Int.reduceNeg, Int.reduceToNat, Int.reduceGT, Int.reduceGE, Nat.reduceLT, Nat.lt_add_one, Nat.zero_lt_succ, Nat.succ_pos, Nat.zero_le, beq_self_eq_true, k_gatepostref01_Split_2, k_gatepostref01_Split_1, k_gatepostref01_Split_0, k_gatepostref01_Split_4, k_gatepostref01_Split_6, k_gatepostref01_Split_5, k_gatepostref01_Split_7, k_gatepostref01_Split_3, e0, e4, e5, e6, e7, hl, hl', hc, u44, u34, u92, k0, k1, c34, w, ec, hadd]
          exact ⟨hl', s.length - (i + 1), by omega, i + 1, own ++ [c], false, out, rfl, hl', by simp; omega, by omega, by simpa [upd, e4] using G, by simp [upd, e0], by simp [upd], by simp [upd, e6], by simp [upd], hst⟩
        | true =>
          by_cases c92 : c = 92
          · subst c92
            have k1 : ¬ (92 : UInt8) = 34 := by decide
            rw [if_pos (by simp)] at hst
            rcases str_at (s := s) (i := i + 1) (by omega) with ⟨hn1, hn2, hd1⟩ | ⟨d, hl2, hl1, _, hd1⟩
            · rw [hd1] at hst
              have hn3 : ¬ (i : Int) + 1 < s.length := by omega
              simp (maxSteps := 4000000) only [vm, vl, Arg.get, cells, stor, boundO, resultsV, resV, partK, loadV, Vm.part, fillC, splice, reduceIte, reduceCtorEq, Nat.reduceEqDiff, Nat.reduceAdd, Nat.reduceSub, Nat.reduceMul, Nat.reduceLeDiff, ne_eq, not_false_eq_true, Int.reduceEq, Int.reduceLT, Int.reduceLE, Int.reduceNeg, Int.reduceToNat, Int.reduceGT, Int.reduceGE, Nat.reduceLT, Nat.lt_add_one, Nat.zero_lt_succ, Nat.succ_pos, Nat.zero_le, beq_self_eq_true, k_gatepostref01_Split_2, k_gatepostref01_Split_1, k_gatepostref01_Split_0, k_gatepostref01_Split_4, k_gatepostref01_Split_6, k_gatepostref01_Split_5, k_gatepostref01_Split_7, k_gatepostref01_Split_3, e0, e4, e5, e6, e7, hl, hl', hc, u44, u34, u92, k0, k1, w, ec, hadd, hn3]
              have hd0 : splitG (s.drop (i + 1)) (own ++ [92]) true out = none := by rw [hd1]; rfl
              exact ⟨hl', s.length - (i + 1), by omega, i + 1, own ++ [92], true, out, rfl, hl', by simp; omega, by omega, by simpa [upd, e4] using G, by simp [upd, e0], by simp [upd], by simp [upd, e6], by simp [upd], by rw [hst, hd0]⟩
            · rw [hd1] at hst
              have hl3 : (i : Int) + 1 < s.length := by omega
              have w2 := wrap64 (x := (i : Int) + 1 + 1) (by omega) (by omega)
              have t1 : ((i : Int) + 1 + 1).toNat = i + 2 := by omega
              have t2 : 0 ≤ (i : Int) + 1 + 1 := by omega
              have k3 : i + 1 ≤ i + 2 := by omega
              have k4 : i + 2 ≤ s.length := by omega
              have ec2 : List.drop (i + 1) (List.take (i + 2) s) = [d] := by
                rw [show i + 2 = (i + 1) + 1 by rfl, take_succ hl1 hd1, List.drop_append]
                simp [Nat.min_eq_left (Nat.le_of_lt hl1), List.drop_eq_nil_of_le]
              have hadd2 : binV .add (.str (own ++ [92])) (.str [d]) = some (.str (own ++ [92, d])) := by
                rw [bin_sadd (by simp; omega)]; simp
              simp (maxSteps := 4000000) only [vm, vl, Arg.get, cells, stor, boundO, resultsV, resV, partK, loadV, Vm.part, fillC, splice, reduceIte, reduceCtorEq, Nat.reduceEqDiff, Nat.reduceAdd, Nat.reduceSub, Nat.reduceMul, Nat.reduceLeDiff, ne_eq, not_false_eq_true, Int.reduceEq, Int.reduceLT, Int.reduceLE, Int.reduceNeg, Int.reduceToNat, Int.reduceGT, Int.reduceGE, Nat.reduceLT, Nat.lt_add_one, Nat.zero_lt_succ, Nat.succ_pos, Nat.zero_le, beq_self_eq_true, k_gatepostref01_Split_2, k_gatepostref01_Split_1, k_gatepostref01_Split_0, k_gatepostref01_Split_4, k_gatepostref01_Split_6, k_gatepostref01_Split_5, k_gatepostref01_Split_7, k_gatepostref01_Split_3, e0, e4, e5, e6, e7, hl, hl', hc, u44, u34, u92, k0, k1, w, ec, hadd, hl3, w2, t1, t2, k3, k4, ec2, hadd2]
              exact ⟨hl', s.length - (i + 2), by omega, i + 2, own ++ [92, d], true, out, rfl, by omega, by simp; omega, by omega, by simpa [upd, e4] using G, by simp [upd, e0], by simp [upd], by simp [upd, e6], by simp [upd]; omega, hst⟩
          · rw [if_neg (by simp [c92]), if_neg (by simp)] at hst
            simp (maxSteps := 4000000) only [vm, vl, Arg.get, cells, stor, boundO, resultsV, resV, partK, loadV, Vm.part, fillC, splice, reduceIte, reduceCtorEq, Nat.reduceEqDiff, Nat.reduceAdd, Nat.reduceSub, Nat.reduceMul, Nat.reduceLeDiff, ne_eq, not_false_eq_true, Int.reduceEq, Int.reduceLT, Int.reduceLE, Int.reduceNeg, Int.reduceToNat, Int.reduceGT, Int.reduceGE, Nat.reduceLT, Nat.lt_add_one, Nat.zero_lt_succ, Nat.succ_pos, Nat.zero_le, beq_self_eq_true, k_gatepostref01_Split_2, k_gatepostref01_Split_1, k_gatepostref01_Split_0, k_gatepostref01_Split_4, k_gatepostref01_Split_6, k_gatepostref01_Split_5, k_gatepostref01_Split_7, k_gatepostref01_Split_3, e0, e4, e5, e6, e7, hl, hl', hc, u44, u34, u92, k0, c34, c92, w, ec, hadd]
            exact ⟨hl', s.length - (i + 1), by omega, i + 1, own ++ [c], true, out, rfl, hl', by simp; omega, by omega, by simpa [upd, e4] using G, by simp [upd, e0], by simp [upd], by simp [upd, e6], by simp [upd], hst⟩
end Go.Proofs.YtfkebmdfcpnaeaaGreatDoor.Vh
end
section
set_option linter.unusedVariables false
set_option linter.unusedSimpArgs false
namespace Go.Proofs.YtfkebmdfcpnaeaaGreatDoor.Vh
open Go.Vm Go.Vt
attribute [local congr] wi_congr wg_congr wgd_congr wb_congr wl_congr cf_congr
variable {L : FuncId → List V → V → Prop} {h : Heap}
def sumF (l : List Fld) : Nat := (l.map fun f => f.1.length + f.2.length).sum
theorem sumF_take {l : List Fld} {i : Nat} (hi : i < l.length) : sumF (l.take (i + 1)) = sumF (l.take i) + ((l.getD i ([], [])).1.length + (l.getD i ([], [])).2.length) := by
  have e : l.getD i ([], []) = l[i] := by rw [List.getD_eq_getElem?_getD, List.getElem?_eq_getElem hi, Option.getD_some]
  unfold sumF
  rw [List.take_add_one, List.getElem?_eq_getElem hi, e]
  simp only [List.map_append, List.sum_append, Option.toList_some, List.map_cons, List.map_nil, List.sum_cons, List.sum_nil, Nat.add_zero]
theorem sumF_le (l : List Fld) (i : Nat) : sumF (l.take i) ≤ sumF l := by
  conv => rhs; rw [← List.take_append_drop i l]
  unfold sumF
  rw [List.map_append, List.sum_append]
  omega
theorem sumF_mem {l : List Fld} {f : Fld} (hf : f ∈ l) : f.1.length + f.2.length ≤ sumF l := by
  unfold sumF
  induction l with
  | nil => cases hf
  | cons a r ih =>
    rw [List.map_cons, List.sum_cons]
    rcases List.mem_cons.1 hf with rfl | hf
    · omega
    · have := ih hf; omega
/-- A list of fields as a parameter. -/
theorem fields_par {x : V} (v : VPar [.sl [.s, .s]] x) : ∃ l, ListV 2 x (flds l) ∧ l.length ≤ 140737488351232 ∧ ∀ f ∈ l, f.1.length ≤ 140737488351232 ∧ f.2.length ≤ 140737488351232 := by
  rcases v with rfl | ⟨es, rfl, hl, he⟩
  · exact ⟨[], .inl ⟨rfl, rfl⟩, by simp, by simp⟩
  · have : ∃ l, flds l = es ∧ ∀ f ∈ l, f.1.length ≤ 140737488351232 ∧ f.2.length ≤ 140737488351232 := by
      clear hl
      induction es with
      | nil => exact ⟨[], rfl, by simp⟩
      | cons e r ih =>
        obtain ⟨l, h1, h2⟩ := ih fun x hx => he x (by simp [hx])
        obtain ⟨a1, _, a3⟩ := he e (by simp)
        have a3 := a3 (by simp)
        generalize cells e = cs at a1 a3
        subst a3
        match cs, a1 with
        | [x, y], ⟨⟨s, e1, b1⟩, ⟨t, e2, b2⟩, _⟩ =>
          subst e1; subst e2
          refine ⟨(s, t) :: l, by rw [← h1]; rfl, ?_⟩
          intro f hf
          rcases List.mem_cons.1 hf with rfl | hf
          · exact ⟨b1, b2⟩
          · exact h2 f hf
    obtain ⟨l, rfl, h2⟩ := this
    exact ⟨l, .inr ⟨_, rfl⟩, by rwa [flds_len] at hl, h2⟩
theorem fSame_ok {x y : V} {l m : List Fld} (hx : ListV 2 x (flds l)) (hy : ListV 2 y (flds m)) (hl : l.length < 1000000000) (hm : m.length < 1000000000) :
    Cf F L i_gatepostref04_Same [x, y] h (Pu h (.bool (decide (l = m)))) := by
  refine run_gatepostref04_Same ?_
  simp only [p_gatepostref04_Same]
  have l1 := fun {K : V → Heap → Prop} {h : Heap} => hx.len (F := F) (L := L) (e := E0) (K := K) (h := h)
  have l2 := fun {K : V → Heap → Prop} {h : Heap} => hy.len (F := F) (L := L) (e := E0) (K := K) (h := h)
  simp only [flds_len] at l1 l2
  by_cases hlm : l.length = m.length
  · have hlm' : ((l.length : Nat) : Int) = m.length := by omega
    simp (maxSteps := 4000000) only [vm, vl, Arg.get, cells, stor, boundO, resultsV, resV, partK, loadV, Vm.part, fillC, splice, reduceIte, reduceCtorEq, Nat.reduceEqDiff, Nat.reduceAdd, Nat.reduceSub, Nat.reduceMul, Nat.reduceLeDiff, ne_eq, not_false_eq_true, Int.reduceEq, Int.reduceLT, Int.reduceLE, Int.reduceNeg, Int.reduceToNat, Int.reduceGT, Int.reduceGE, Nat.reduceLT, Nat.lt_add_one, Nat.zero_lt_succ, Nat.succ_pos, Nat.zero_le, beq_self_eq_true, k_gatepostref04_Same_1, k_gatepostref04_Same_3, k_gatepostref04_Same_2, k_gatepostref04_Same_0, l1, l2, hlm']
    refine l_gatepostref04_Same_0 (fun n e h' => ∃ i, n = l.length - i ∧ i ≤ l.length ∧ e 0 = x ∧ e 1 = y ∧ e 5 = .int .i64 i ∧ l.take i = m.take i ∧ ∃ t, h' = h ++ t) ?_ (n := l.length) ⟨0, by simp, by simp, rfl, rfl, rfl, by simp, [], by simp⟩
    rintro n e h' ⟨i, rfl, hi, e0, e1, e5, ht, t, rfl⟩
    simp only [b_gatepostref04_Same_0]
    rcases list_at ([], []) hi with ⟨hn, rfl, hd⟩ | ⟨hl1, hl2, hd, htk⟩
    · have he : l = m := by rwa [List.take_of_length_le (Nat.le_refl _), List.take_of_length_le (by omega)] at ht
      have d : decide (l = m) = true := by simpa using he
      simp (maxSteps := 4000000) only [vm, vl, Arg.get, cells, stor, boundO, resultsV, resV, partK, loadV, Vm.part, fillC, splice, reduceIte, reduceCtorEq, Nat.reduceEqDiff, Nat.reduceAdd, Nat.reduceSub, Nat.reduceMul, Nat.reduceLeDiff, ne_eq, not_false_eq_true, Int.reduceEq, Int.reduceLT, Int.reduceLE, Int.reduceNeg, Int.reduceToNat, Int.reduceGT, Int.reduceGE, Nat.reduceLT, Nat.lt_add_one, Nat.zero_lt_succ, Nat.succ_pos, Nat.zero_le, beq_self_eq_true, k_gatepostref04_Same_1, k_gatepostref04_Same_3, k_gatepostref04_Same_2, k_gatepostref04_Same_0, e0, e1, e5, l1, hn, d]
    · have w := wrap64 (x := (i : Int) + 1) (by omega) (by omega)
      obtain ⟨o1, rfl⟩ : ∃ o, x = .sl 2 o (flds l) := by
        rcases hx with ⟨he, _⟩ | hx
        · have := congrArg List.length he; rw [flds_len] at this; simp only [List.length_nil] at this; omega
        · exact hx
      obtain ⟨o2, rfl⟩ : ∃ o, y = .sl 2 o (flds m) := by
        rcases hy with ⟨he, _⟩ | hy
        · have := congrArg List.length he; rw [flds_len] at this; simp only [List.length_nil] at this; omega
        · exact hy
      have z1 : (0 : Int) ≤ i := by omega
      have z2 : i < m.length := by omega
      have a1 := flds_at hl2
      have a2 := flds_at (l := m) (i := i) (by omega)
      obtain ⟨_, hm2, _⟩ | ⟨hm1, hm2, _, htm⟩ := list_at (l := m) (i := i) ([], []) (by omega)
      · omega
      have hne : l.getD i ([], []) ≠ m.getD i ([], []) → decide (l = m) = false := by
        intro hh; simp only [decide_eq_false_iff_not]; rintro rfl; exact hh rfl
      have heq : l.getD i ([], []) = m.getD i ([], []) → l.take (i + 1) = m.take (i + 1) := by intro hh; rw [htk, htm, ht, hh]
      generalize hf : l.getD i ([], []) = f at *
      generalize hg : m.getD i ([], []) = g at *
      simp (maxSteps := 4000000) only [vm, vl, Arg.get, cells, stor, boundO, resultsV, resV, partK, loadV, Vm.part, fillC, splice, reduceIte, reduceCtorEq, Nat.reduceEqDiff, Nat.reduceAdd, Nat.reduceSub, Nat.reduceMul, Nat.reduceLeDiff, ne_eq, not_false_eq_true, Int.reduceEq, Int.reduceLT, Int.reduceLE, Int.reduceNeg, Int.reduceToNat, Int.reduceGT, Int.reduceGE, Nat.reduceLT, Nat.lt_add_one, Nat.zero_lt_succ, Nat.succ_pos, Nat.zero_le, beq_self_eq_true, k_gatepostref04_Same_1, k_gatepostref04_Same_3, k_gatepostref04_Same_2, k_gatepostref04_Same_0, e0, e1, e5, l1, hl1, Int.toNat_natCast, z1, z2, hl2, flds_len, a1, a2, fldV, w]
      cases q1 : (f.1 == g.1) with
      | true =>
        cases q2 : (f.2 == g.2) with
        | true =>
          simp (maxSteps := 4000000) only [vm, vl, Arg.get, cells, stor, boundO, resultsV, resV, partK, loadV, Vm.part, fillC, splice, reduceIte, reduceCtorEq, Nat.reduceEqDiff, Nat.reduceAdd, Nat.reduceSub, Nat.reduceMul, Nat.reduceLeDiff, ne_eq, not_false_eq_true, Int.reduceEq, Int.reduceLT, Int.reduceLE, Int.reduceNeg, Int.reduceToNat, Int.reduceGT, Int.reduceGE, Nat.reduceLT, Nat.lt_add_one, Nat.zero_lt_succ, Nat.succ_pos, Nat.zero_le, beq_self_eq_true, k_gatepostref04_Same_1, k_gatepostref04_Same_3, k_gatepostref04_Same_2, k_gatepostref04_Same_0, q1, q2, Int.toNat_natCast, z1, z2, hl2, flds_len, a1, a2, and_self, true_and, fldV, w, Bool.not_true, Bool.not_false]
          exact ⟨l.length - (i + 1), by omega, i + 1, rfl, hl2, rfl, heq (Prod.ext (eq_of_beq q1) (eq_of_beq q2)), t, rfl⟩
        | false =>
          have d := hne (fun hh => by rw [hh] at q2; simp at q2)
          simp (maxSteps := 4000000) only [vm, vl, Arg.get, cells, stor, boundO, resultsV, resV, partK, loadV, Vm.part, fillC, splice, reduceIte, reduceCtorEq, Nat.reduceEqDiff, Nat.reduceAdd, Nat.reduceSub, Nat.reduceMul, Nat.reduceLeDiff, ne_eq, not_false_eq_true, Int.reduceEq, Int.reduceLT, Int.reduceLE, Int.reduceNeg, Int.reduceToNat, Int.reduceGT, Int.reduceGE, Nat.reduceLT, Nat.lt_add_one, Nat.zero_lt_succ, Nat.succ_pos, Nat.zero_le, beq_self_eq_true, k_gatepostref04_Same_1, k_gatepostref04_Same_3, k_gatepostref04_Same_2, k_gatepostref04_Same_0, q1, q2, d, Int.toNat_natCast, z1, z2, hl2, flds_len, a1, a2, and_self, true_and, fldV, w, Bool.not_true, Bool.not_false]
      | false =>
        have d := hne (fun hh => by rw [hh] at q1; simp at q1)
        simp (maxSteps := 4000000) only [vm, vl, Arg.get, cells, stor, boundO, resultsV, resV, partK, loadV, Vm.part, fillC, splice, reduceIte, reduceCtorEq, Nat.reduceEqDiff, Nat.reduceAdd, Nat.reduceSub, Nat.reduceMul, Nat.reduceLeDiff, ne_eq, not_false_eq_true, Int.reduceEq, Int.reduceLT, Int.reduceLE, Int.reduceNeg, Int.reduceToNat, Int.reduceGT, Int.reduceGE, Nat.reduceLT, Nat.lt_add_one, Nat.zero_lt_succ, Nat.succ_pos, Nat.zero_le, beq_self_eq_true, k_gatepostref04_Same_1, k_gatepostref04_Same_3, k_gatepostref04_Same_2, k_gatepostref04_Same_0, q1, d, Int.toNat_natCast, z1, z2, hl2, flds_len, a1, a2, and_self, true_and, fldV, w, Bool.not_true, Bool.not_false]
  · have hlm' : ¬ ((l.length : Nat) : Int) = m.length := by omega
    have d : decide (l = m) = false := by simp only [decide_eq_false_iff_not]; rintro rfl; exact hlm rfl
    simp (maxSteps := 4000000) only [vm, vl, Arg.get, cells, stor, boundO, resultsV, resV, partK, loadV, Vm.part, fillC, splice, reduceIte, reduceCtorEq, Nat.reduceEqDiff, Nat.reduceAdd, Nat.reduceSub, Nat.reduceMul, Nat.reduceLeDiff, ne_eq, not_false_eq_true, Int.reduceEq, Int.reduceLT, Int.reduceLE, Int.reduceNeg, Int.reduceToNat, Int.reduceGT, Int.reduceGE, Nat.reduceLT, Nat.lt_add_one, Nat.zero_lt_succ, Nat.succ_pos, Nat.zero_le, beq_self_eq_true, k_gatepostref04_Same_1, k_gatepostref04_Same_3, k_gatepostref04_Same_2, k_gatepostref04_Same_0, l1, l2, hlm', d]
theorem join_len : ∀ l : List Bs, (joinS l).length ≤ (l.map List.length).sum + 2 * l.length
  | [] => by simp [joinS]
  | [a] => by simp [joinS]
  | a :: b :: r => by
    have := join_len (b :: r)
    have e : joinS (a :: b :: r) = a ++ ([44, 32] ++ joinS (b :: r)) := by simp [joinS, List.intercalate]
    rw [e]
    simp only [List.length_append, List.length_cons, List.length_nil, List.map_cons, List.sum_cons] at this ⊢
    omega
theorem vals_sum (l : List Fld) (name : Bs) : ((valsOf l name).map List.length).sum ≤ sumF l := by
  induction l with
  | nil => simp [valsOf, sumF]
  | cons f r ih =>
    unfold valsOf sumF at *
    rw [List.filter_cons]
    split <;> simp only [List.map_cons, List.sum_cons] at * <;> omega
theorem vals_join (l : List Fld) (name : Bs) : (joinS (valsOf l name)).length ≤ sumF l + 2 * l.length := by
  have h1 := join_len (valsOf l name)
  have h2 := vals_sum l name
  have h3 := vals_len l name
  omega
theorem join_none : joinS [] = [] := rfl
end Go.Proofs.YtfkebmdfcpnaeaaGreatDoor.Vh
end
section
set_option linter.unusedVariables false
set_option linter.unusedSimpArgs false
namespace Go.Proofs.YtfkebmdfcpnaeaaGreatDoor.Vh
open Go.Vm Go.Vt
attribute [local congr] wi_congr wg_congr wgd_congr wb_congr wl_congr cf_congr
variable {L : FuncId → List V → V → Prop} {h : Heap}
theorem getD_mem {α : Type} {l : List α} {i : Nat} {d : α} (hi : i < l.length) : l.getD i d ∈ l := by
  rw [List.getD_eq_getElem?_getD, List.getElem?_eq_getElem hi]; exact List.getElem_mem _
/-- What Names come to. -/
theorem joinS_snoc (l : List Bs) (v : Bs) : joinS (l ++ [v]) = if l = [] then v else joinS l ++ [44, 32] ++ v := by
  induction l with
  | nil => simp [joinS]
  | cons a r ih =>
    cases r with
    | nil => simp [joinS, List.intercalate]
    | cons b r' =>
      have e : ∀ (m : List Bs), m ≠ [] → joinS (a :: m) = a ++ ([44, 32] ++ joinS m) := by
        intro m hm
        cases m with
        | nil => exact absurd rfl hm
        | cons x y => simp [joinS, List.intercalate]
      rw [List.cons_append, e _ (by simp), ih, e _ (by simp)]
      simp
theorem rGet_ok {x : V} {l : List Fld} {name : Bs} (hx : ListV 2 x (flds l)) (hl : l.length < 100000) (hln : ∀ f ∈ l, f.1.length ≤ 140737488355328) (hn : name.length ≤ 140737488355328) (hsm : sumF l < 100000) :
    Cf F L i_gatepostref04_Get [x, .str name] h (Pu h (getV l name)) := by
  refine run_gatepostref04_Get ?_
  simp only [p_gatepostref04_Get]
  have l1 := fun {K : V → Heap → Prop} {h : Heap} => hx.len (F := F) (L := L) (e := E0) (K := K) (h := h)
  simp only [flds_len] at l1
  refine l_gatepostref04_Get_0 (fun n e h' => ∃ i, n = l.length - i ∧ i ≤ l.length ∧ e 0 = x ∧ e 1 = .str name ∧ e 6 = .str (joinS (valsOf (l.take i) name)) ∧ e 7 = .int .i64 (valsOf (l.take i) name).length ∧ e 8 = .int .i64 i ∧ ∃ t, h' = h ++ t) ?_ (n := l.length) ⟨0, by simp, by simp, rfl, rfl, rfl, rfl, rfl, [], by simp⟩
  rintro n e h' ⟨i, rfl, hi, e0, e1, e6, e7, e8, t, rfl⟩
  simp only [b_gatepostref04_Get_0]
  have vj := vals_join (l.take i) name
  have vln := vals_len (l.take i) name
  have hsi := sumF_le l i
  rw [List.length_take] at vj vln
  rcases list_at ([], []) hi with ⟨hn', rfl, hd⟩ | ⟨hl1, hl2, hd, htk⟩
  · rw [List.take_of_length_le (Nat.le_refl _)] at e6 e7
    simp (maxSteps := 4000000) only [vm, vl, Arg.get, cells, stor, boundO, resultsV, resV, partK, loadV, Vm.part, fillC, splice, reduceIte, reduceCtorEq, Nat.reduceEqDiff, Nat.reduceAdd, Nat.reduceSub, Nat.reduceMul, Nat.reduceLeDiff, ne_eq, not_false_eq_true, Int.reduceEq, Int.reduceLT, Int.reduceLE, Int.reduceNeg, Int.reduceToNat, Int.reduceGT, Int.reduceGE, Nat.reduceLT, Nat.lt_add_one, Nat.zero_lt_succ, Nat.succ_pos, Nat.zero_le, beq_self_eq_true, k_gatepostref04_Get_0, k_gatepostref04_Get_2, k_gatepostref04_Get_3, k_gatepostref04_Get_1, e0, e1, e6, e7, e8, l1, hn', getV]
  · have w := wrap64 (x := (i : Int) + 1) (by omega) (by omega)
    have i1 := fun {K : V → Heap → Prop} {h : Heap} => hx.at (F := F) (L := L) (e := E0) (K := K) (h := h) (i := i) (by rw [flds_len]; exact hl2)
    have a1 := flds_at hl2
    have hmem : l.getD i ([], []) ∈ l := getD_mem hl2
    have hmz := sumF_mem hmem
    generalize hf : l.getD i ([], []) = f at *
    simp (maxSteps := 4000000) only [vm, vl, Arg.get, cells, stor, boundO, resultsV, resV, partK, loadV, Vm.part, fillC, splice, reduceIte, reduceCtorEq, Nat.reduceEqDiff, Nat.reduceAdd, Nat.reduceSub, Nat.reduceMul, Nat.reduceLeDiff, ne_eq, not_false_eq_true, Int.reduceEq, Int.reduceLT, Int.reduceLE, Int.reduceNeg, Int.reduceToNat, Int.reduceGT, Int.reduceGE, Nat.reduceLT, Nat.lt_add_one, Nat.zero_lt_succ, Nat.succ_pos, Nat.zero_le, beq_self_eq_true, k_gatepostref04_Get_0, k_gatepostref04_Get_2, k_gatepostref04_Get_3, k_gatepostref04_Get_1, e0, e1, e6, e7, e8, l1, hl1, i1, a1, fldV]
    refine Cf.pu (rSame_ok (hln f hmem) hn) fun t1 => ?_
    cases hp : (low f.1 == low name) with
    | false =>
      have hv : valsOf (l.take (i + 1)) name = valsOf (l.take i) name := by simp [valsOf, htk, hp]
      simp (maxSteps := 4000000) only [vm, vl, Arg.get, cells, stor, boundO, resultsV, resV, partK, loadV, Vm.part, fillC, splice, reduceIte, reduceCtorEq, Nat.reduceEqDiff, Nat.reduceAdd, Nat.reduceSub, Nat.reduceMul, Nat.reduceLeDiff, ne_eq, not_false_eq_true, Int.reduceEq, Int.reduceLT, Int.reduceLE, Int.reduceNeg, Int.reduceToNat, Int.reduceGT, Int.reduceGE, Nat.reduceLT, Nat.lt_add_one, Nat.zero_lt_succ, Nat.succ_pos, Nat.zero_le, beq_self_eq_true, k_gatepostref04_Get_0, k_gatepostref04_Get_2, k_gatepostref04_Get_3, k_gatepostref04_Get_1, i1, a1, w]
      exact ⟨l.length - (i + 1), by omega, i + 1, rfl, hl2, by rw [hv], by rw [hv], rfl, _, rfl⟩
    | true =>
      have hv : valsOf (l.take (i + 1)) name = valsOf (l.take i) name ++ [f.2] := by simp [valsOf, htk, hp]
      have hjs := joinS_snoc (valsOf (l.take i) name) f.2
      rw [← hv] at hjs
      have hc : (valsOf (l.take (i + 1)) name).length = (valsOf (l.take i) name).length + 1 := by rw [hv]; simp
      generalize valsOf (l.take i) name = vs at *
      have w2 := wrap64 (x := (vs.length : Int) + 1) (by omega) (by omega)
      by_cases hz : vs = []
      · subst hz
        have a2 : binV .add (.str (joinS [])) (.str f.2) = some (.str f.2) := by rw [join_none]; exact bin_sadd (by simp; omega)
        have z : ¬ (((([] : List Bs).length : Nat) : Int) > 0) := by simp
        rw [if_pos rfl] at hjs
        simp (maxSteps := 4000000) only [vm, vl, Arg.get, cells, stor, boundO, resultsV, resV, partK, loadV, Vm.part, fillC, splice, reduceIte, reduceCtorEq, Nat.reduceEqDiff, Nat.reduceAdd, Nat.reduceSub, Nat.reduceMul, Nat.reduceLeDiff, ne_eq, not_false_eq_true, Int.reduceEq, Int.reduceLT, Int.reduceLE, Int.reduceNeg, Int.reduceToNat, Int.reduceGT, Int.reduceGE, Nat.reduceLT, Nat.lt_add_one, Nat.zero_lt_succ, Nat.succ_pos, Nat.zero_le, beq_self_eq_true, k_gatepostref04_Get_0, k_gatepostref04_Get_2, k_gatepostref04_Get_3, k_gatepostref04_Get_1, i1, a1, fldV, w, z, a2, w2]
        exact ⟨l.length - (i + 1), by omega, i + 1, rfl, hl2, by rw [hjs], by rw [hc]; rfl, rfl, _, rfl⟩
      · have hpos : 0 < vs.length := List.length_pos_iff.2 hz
        have z : ((vs.length : Int) > 0) := by omega
        have a2 : binV .add (.str (joinS vs)) (.str [44, 32]) = some (.str (joinS vs ++ [44, 32])) := bin_sadd (by simp; omega)
        have a3 : binV .add (.str (joinS vs ++ [44, 32])) (.str f.2) = some (.str (joinS vs ++ [44, 32] ++ f.2)) := bin_sadd (by simp; omega)
        rw [if_neg hz] at hjs
        simp (maxSteps := 4000000) only [vm, vl, Arg.get, cells, stor, boundO, resultsV, resV, partK, loadV, Vm.part, fillC, splice, reduceIte, reduceCtorEq, Nat.reduceEqDiff, Nat.reduceAdd, Nat.reduceSub, Nat.reduceMul, Nat.reduceLeDiff, ne_eq, not_false_eq_true, Int.reduceEq, Int.reduceLT, Int.reduceLE, Int.reduceNeg, Int.reduceToNat, Int.reduceGT, Int.reduceGE, Nat.reduceLT, Nat.lt_add_one, Nat.zero_lt_succ, Nat.succ_pos, Nat.zero_le, beq_self_eq_true, k_gatepostref04_Get_0, k_gatepostref04_Get_2, k_gatepostref04_Get_3, k_gatepostref04_Get_1, i1, a1, fldV, w, z, a2, a3, w2]
        exact ⟨l.length - (i + 1), by omega, i + 1, rfl, hl2, by rw [hjs]; simp, by rw [hc]; rfl, rfl, _, rfl⟩
end Go.Proofs.YtfkebmdfcpnaeaaGreatDoor.Vh
end
section
set_option linter.unusedVariables false
set_option linter.unusedSimpArgs false
namespace Go.Proofs.YtfkebmdfcpnaeaaGreatDoor.Vh
open Go.Vm Go.Vt
theorem take_app {a b : Bs} {n : Nat} {ok : Bool} (h : a.length = n) : takeR n (a ++ b, ok) = (a, (b, ok)) := by
  unfold takeR
  rw [if_neg (by simp only [List.length_append]; omega)]
  simp only [List.take_left' h, List.drop_left' h]
theorem day_ne : ∀ w, w < 7 → ∀ j, j < w → ((dayLs.getD w []).take 3 == nmD false j) = false := by decide +kernel
theorem day_same : ∀ w, w < 7 → nmD false w = (dayLs.getD w []).take 3 := fun _ _ => rfl
theorem nm3 (w : Nat) (h : w < 7) : (nmD false w).length = 3 := (day3 w h).2
theorem day_app {w : Nat} {b : Bs} {ok : Bool} (h : w < 7) (hb : 0 < b.length) : dayR false ((dayLs.getD w []).take 3 ++ b, ok) = ((w : Int), (b, ok)) := by
  have l3 := (day3 w h).2
  have hit : ∀ j, j < 7 → hitD false ((dayLs.getD w []).take 3 ++ b) j = ((dayLs.getD w []).take 3 == nmD false j) := by
    intro j hj
    unfold hitD
    rw [nm3 j hj, List.take_left' l3]
    have : decide (((dayLs.getD w []).take 3 ++ b).length > 3) = true := by
      rw [decide_eq_true_eq, List.length_append, l3]; omega
    rw [this, Bool.true_and]
  have hf : firstN (hitD false ((dayLs.getD w []).take 3 ++ b)) 7 = w := by
    refine firstN_at ?_ (fun j hj => ?_) h
    · rw [hit w h, day_same w h]; simp
    · rw [hit j (by omega)]; exact day_ne w h j hj
  unfold dayR
  simp only [hf, if_pos h, nm3 w h, List.drop_left' l3]
open Go.Vm Go.Vt
attribute [local congr] wi_congr wg_congr wgd_congr wb_congr wl_congr cf_congr
variable {L : FuncId → List V → V → Prop} {h : Heap}
open Go.Vm Go.Vt
end Go.Proofs.YtfkebmdfcpnaeaaGreatDoor.Vh
end
