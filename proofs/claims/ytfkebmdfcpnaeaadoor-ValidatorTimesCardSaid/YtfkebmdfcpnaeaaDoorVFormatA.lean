/- strconv.Itoa by the shelf's contract, as a function of the machine's library. -/
import Derived.Test.YtfkebmdfcpnaeaaDoorVh
import Derived.Test.YtfkebmdfcpnaeaaDoorVmLib
import Derived.Test.YtfkebmdfcpnaeaaDoorVmOpen
import Derived.Test.YtfkebmdfcpnaeaaDoorHShelf
import Derived.Lib.ItoaNum
import Derived.Lib.AppendIntMem
import Derived.Test.YtfkebmdfcpnaeaaDoorTok
import Derived.Test.YtfkebmdfcpnaeaaDoorVDateA
set_option linter.unusedVariables false
set_option linter.unusedSimpArgs false
namespace Go.Proofs.YtfkebmdfcpnaeaaDoor.Vh
open Go.Vm
abbrev TabAt (w : World) : Prop := Lib.TabIs Tryd.prog w "internal/strconv.uint64pow10" .u64 Lib.pow10Tab
open Go.Vm Go.Vt
attribute [local congr] wi_congr wg_congr wgd_congr wb_congr wl_congr cf_congr
variable {L : FuncId → List V → V → Prop} {h : Heap}

def dayLs : List Bs := [[77, 111, 110, 100, 97, 121], [84, 117, 101, 115, 100, 97, 121], [87, 101, 100, 110, 101, 115, 100, 97, 121], [84, 104, 117, 114, 115, 100, 97, 121], [70, 114, 105, 100, 97, 121], [83, 97, 116, 117, 114, 100, 97, 121], [83, 117, 110, 100, 97, 121]]
def monLs : List Bs := [[74, 97, 110], [70, 101, 98], [77, 97, 114], [65, 112, 114], [77, 97, 121], [74, 117, 110], [74, 117, 108], [65, 117, 103], [83, 101, 112], [79, 99, 116], [78, 111, 118], [68, 101, 99]]
theorem longDays_ok : Cf F L i_date_longDays [] h (Pu h (.agg (dayLs.map .str))) := by
  refine run_date_longDays ?_
  simp only [p_date_longDays]
  simp (maxSteps := 4000000) only [vm, vl, Arg.get, cells, stor, boundO, resultsV, resV, partK, loadV, Vm.part, fillC, splice, reduceIte, reduceCtorEq, Nat.reduceEqDiff, Nat.reduceAdd, Nat.reduceSub, Nat.reduceMul, Nat.reduceLeDiff, ne_eq, not_false_eq_true, Int.reduceEq, Int.reduceLT, Int.reduceLE, Int.reduceNeg, Int.reduceToNat, Int.reduceGT, Int.reduceGE, Nat.reduceLT, Nat.lt_add_one, Nat.zero_lt_succ, Nat.succ_pos, Nat.zero_le, beq_self_eq_true]
  rfl
theorem monthNames_ok : Cf F L i_date_monthNames [] h (Pu h (.agg (monLs.map .str))) := by
  refine run_date_monthNames ?_
  simp only [p_date_monthNames]
  simp (maxSteps := 4000000) only [vm, vl, Arg.get, cells, stor, boundO, resultsV, resV, partK, loadV, Vm.part, fillC, splice, reduceIte, reduceCtorEq, Nat.reduceEqDiff, Nat.reduceAdd, Nat.reduceSub, Nat.reduceMul, Nat.reduceLeDiff, ne_eq, not_false_eq_true, Int.reduceEq, Int.reduceLT, Int.reduceLE, Int.reduceNeg, Int.reduceToNat, Int.reduceGT, Int.reduceGE, Nat.reduceLT, Nat.lt_add_one, Nat.zero_lt_succ, Nat.succ_pos, Nat.zero_le, beq_self_eq_true]
  rfl
def padS (s : Bs) (k : Nat) : Bs := List.replicate (k - s.length) 48 ++ s
theorem padS_step {s : Bs} {k : Nat} (h : s.length < k) : padS (48 :: s) k = padS s k := by
  unfold padS
  obtain ⟨m, hm⟩ : ∃ m, k - s.length = m + 1 := ⟨k - s.length - 1, by omega⟩
  rw [hm, List.length_cons, show k - (s.length + 1) = m by omega, List.replicate_succ']
  simp
theorem padS_done {s : Bs} {k : Nat} (h : k ≤ s.length) : padS s k = s := by
  unfold padS
  rw [show k - s.length = 0 by omega]; rfl
def two (n : Nat) : Bs := [UInt8.ofNat (48 + n / 10), UInt8.ofNat (48 + n % 10)]
theorem itoa_nat (n : Nat) : Go.Lib.itoa (n : Int) = Go.Lib.decDigits n := by
  unfold Go.Lib.itoa
  rw [if_neg (by omega)]; rfl
theorem itoa_two {n : Nat} (h : n < 100) : padS (Go.Lib.itoa (n : Int)) 2 = two n ∧ (Go.Lib.itoa (n : Int)).length ≤ 100 := by
  rw [itoa_nat]
  by_cases h1 : n < 10
  · rw [Go.Lib.decDigits_one h1]
    refine ⟨?_, by simp⟩
    unfold padS two
    rw [show n / 10 = 0 by omega, show n % 10 = n by omega]; rfl
  · rw [Go.Lib.decDigits_two h1 h]
    exact ⟨rfl, by simp⟩
theorem decDigits_step {n : Nat} (h : 10 ≤ n) : Go.Lib.decDigits n = Go.Lib.decDigits (n / 10) ++ [UInt8.ofNat (48 + n % 10)] := by
  rw [Go.Lib.decDigits, dif_neg (by omega)]
theorem itoa_four {n : Nat} (h0 : 1000 ≤ n) (h1 : n < 10000) : padS (Go.Lib.itoa (n : Int)) 4 = two (n / 100) ++ two (n % 100) ∧ (Go.Lib.itoa (n : Int)).length ≤ 100 := by
  rw [itoa_nat, decDigits_step (by omega), decDigits_step (n := n / 10) (by omega), Go.Lib.decDigits_two (i := n / 10 / 10) (by omega) (by omega)]
  refine ⟨?_, by simp⟩
  unfold two padS
  rw [show n / 10 / 10 = n / 100 by omega, show n / 10 % 10 = n % 100 / 10 by omega, show n % 100 % 10 = n % 10 by omega]
  rfl
def fmtS (sec : Int) : Bs :=
  let t := civilS (sec / 86400)
  let c := sec % 86400
  (dayLs.getD ((sec / 86400 + 3) % 7).toNat []).take 3 ++ [44, 32] ++ two t.2.2.toNat ++ [32] ++ monLs.getD (t.2.1 - 1).toNat [] ++ [32] ++ (two (t.1.toNat / 100) ++ two (t.1.toNat % 100)) ++ [32] ++ two (c / 3600).toNat ++ [58] ++ two (c / 60 % 60).toNat ++ [58] ++ two (c % 60).toNat ++ [32, 71, 77, 84]
theorem day3 : ∀ w, w < 7 → 3 ≤ (dayLs.getD w []).length ∧ ((dayLs.getD w []).take 3).length = 3 := by decide
theorem mon3 : ∀ w, w < 12 → (monLs.getD w []).length = 3 := by decide
theorem aggstr_at {l : List Bs} {i : Nat} (hi : i < l.length) : (l.map V.str).getD i (.tup []) = .str (l.getD i []) := by
  rw [List.getD_eq_getElem?_getD, List.getD_eq_getElem?_getD, List.getElem?_map, List.getElem?_eq_getElem hi]; rfl
end Go.Proofs.YtfkebmdfcpnaeaaDoor.Vh
