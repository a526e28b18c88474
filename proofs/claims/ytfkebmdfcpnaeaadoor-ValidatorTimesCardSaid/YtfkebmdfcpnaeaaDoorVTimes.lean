/- ValidatorTimes on the small machine. -/
import Derived.Test.YtfkebmdfcpnaeaaDoorVValid
import Derived.Test.YtfkebmdfcpnaeaaDoorVRefA
import Derived.Test.YtfkebmdfcpnaeaaDoorVJoin
set_option linter.unusedVariables false
set_option linter.unusedSimpArgs false
namespace Go.Proofs.YtfkebmdfcpnaeaaDoor.Vh
open Go.Vm Go.Vt
attribute [local congr] wi_congr wg_congr wgd_congr wb_congr wl_congr cf_congr
variable {L : FuncId → List V → V → Prop} {h : Heap}
theorem vals_sub (l : List Fld) (name : Bs) (n : Nat) (h : ∀ f ∈ l, f.2.length ≤ n) : (joinS (valsOf l name)).length ≤ (n + 2) * l.length := by
  have j : ∀ vs : List Bs, (∀ v ∈ vs, v.length ≤ n) → (joinS vs).length ≤ (n + 2) * vs.length := by
    intro vs
    induction vs with
    | nil => intro _; simp [joinS]
    | cons a r ih =>
      intro hv
      have ha := hv a (by simp)
      have hr := ih fun v hv' => hv v (by simp [hv'])
      cases r with
      | nil => simp [joinS]; omega
      | cons b r =>
        have e : joinS (a :: b :: r) = a ++ [44, 32] ++ joinS (b :: r) := by simp [joinS, List.intercalate]
        rw [e]
        simp only [List.length_append, List.length_cons, List.length_nil] at hr ⊢
        rw [Nat.mul_add, Nat.mul_add] at *
        omega
  have h1 := j (valsOf l name) (by
    intro v hv
    unfold valsOf at hv
    obtain ⟨f, hf, rfl⟩ := List.mem_map.1 hv
    exact h f (List.mem_filter.1 hf).1)
  exact Nat.le_trans h1 (Nat.mul_le_mul_left _ (vals_len l name))
theorem few_sub {l : List Fld} {n : Nat} (h1 : l.length < 1000) (h2 : ∀ f ∈ l, f.1.length ≤ 100 ∧ f.2.length ≤ n) (hn : n ≤ 100) : FewF l := by
  refine ⟨by omega, fun f hf => by have := (h2 f hf).1; omega, fun name => ?_⟩
  have := vals_sub l name n fun f hf => (h2 f hf).2
  have : (n + 2) * l.length ≤ 102 * 1000 := Nat.mul_le_mul (by omega) (by omega)
  omega
theorem join_one' (v : Bs) : joinS [v] = v := by simp [joinS]
theorem day_tag : ∀ w, w < 7 → ((dayLs.getD w []).take 3).take 2 ≠ [87, 47] ∧ ((dayLs.getD w []).take 3).take 1 ≠ [34] := by decide +kernel
theorem no_tag {s : Bs} {w : Nat} (hw : w < 7) (h : s.take 3 = (dayLs.getD w []).take 3) : tagS s = none := by
  obtain ⟨h1, h2⟩ := day_tag w hw
  rw [← h, List.take_take] at h1 h2
  unfold tagS
  have e1 : cutPre [87, 47] s = (s, false) := if_neg h1
  rw [e1]
  have e2 : cutPre [34] s = (s, false) := if_neg h2
  unfold tagT
  rw [e2]
  rfl
theorem ValidatorTimes_ok (HJ : JoinOk L) {a b : Int} : Cf F L i_gatepostlaw12_ValidatorTimes [.int .i64 a, .int .i64 b] h (fun v _ => v = .bool true) := by
  refine run_gatepostlaw12_ValidatorTimes ?_
  simp only [p_gatepostlaw12_ValidatorTimes]
  obtain ⟨b0, b1⟩ := andI_range a 4294967295 (by omega) (by omega)
  obtain ⟨c0, c1⟩ := andI_range b 4294967295 (by omega) (by omega)
  generalize hA : bitsI .and .i64 a 4294967295 = A at *
  generalize hC : bitsI .and .i64 b 4294967295 = C at *
  have l29 := fmt_len (sec := C) (by omega) (by omega)
  have dS := date_fmt (sec := C) (by omega) (by omega)
  have RF : ∀ hh, Cf F L i_gatepostref02_Format [.int .i64 C] hh (Pu hh (.str (fmtS C))) := fun hh => by
    have := RFormat_ok (L := L) (h := hh) (sec := C)
    rwa [if_pos ⟨by omega, by omega⟩] at this
  have noTag : tagS (fmtS C) = none := no_tag (w := ((C / 86400 + 3) % 7).toNat) (by omega) (fmt_day (by omega) (by omega))
  generalize fmtS C = s at *
  simp (maxSteps := 4000000) only [vm, vl, Arg.get, cells, stor, boundO, resultsV, resV, partK, loadV, Vm.part, fillC, splice, reduceIte, reduceCtorEq, Nat.reduceEqDiff, Nat.reduceAdd, Nat.reduceSub, Nat.reduceMul, Nat.reduceLeDiff, ne_eq, not_false_eq_true, Int.reduceEq, Int.reduceLT, Int.reduceLE, Int.reduceNeg, Int.reduceToNat, Int.reduceGT, Int.reduceGE, Nat.reduceLT, Nat.lt_add_one, Nat.zero_lt_succ, Nat.succ_pos, Nat.zero_le, beq_self_eq_true, hA, hC]
  refine Cf.pu (RF _) fun u1 => ?_
  simp (maxSteps := 4000000) only [vm, vl, Arg.get, cells, stor, boundO, resultsV, resV, partK, loadV, Vm.part, fillC, splice, reduceIte, reduceCtorEq, Nat.reduceEqDiff, Nat.reduceAdd, Nat.reduceSub, Nat.reduceMul, Nat.reduceLeDiff, ne_eq, not_false_eq_true, Int.reduceEq, Int.reduceLT, Int.reduceLE, Int.reduceNeg, Int.reduceToNat, Int.reduceGT, Int.reduceGE, Nat.reduceLT, Nat.lt_add_one, Nat.zero_lt_succ, Nat.succ_pos, Nat.zero_le, beq_self_eq_true]
  obtain ⟨M, hM⟩ : ∃ M : List V, M = [.int .i64 0, .bool false, .bool false, .bool false, .bool false, .bool false, .bool false, .bool false, .int .i64 0, .int .i64 0, .int .i64 0, .int .i64 0, .int .i64 0, .int .i64 0, .int .i64 0, .int .i64 0, .int .i64 A, .int .i64 0, .int .i64 0, .int .i64 0, .str []] := ⟨_, rfl⟩
  rw [← hM]
  have m1 : M.length = 21 := by rw [hM]; rfl
  have m2 : M.getD 16 (.tup []) = .int .i64 A := by rw [hM]; rfl
  have m3 : M.getD 20 (.tup []) = .str [] := by rw [hM]; rfl
  have m4 : M.take 21 = M := List.take_of_length_le (by omega)
  clear hM
  have U1 := fun hh => unch_ok (L := L) (h := hh) (p := .str []) (y := .int .i64 0) (meth := [71, 69, 84]) (tag := []) HJ (x := .sl 2 .full (flds [(nIMS, s)])) (l := [(nIMS, s)]) (.inr ⟨_, rfl⟩) (few_sub (n := 29) (by simp) (by simp [nIMS, l29]) (by decide)) (by simp) m1 m2 m3
  have U2 := fun hh => unch_ok (L := L) (h := hh) (p := .str []) (y := .int .i64 0) (meth := [71, 69, 84]) (tag := []) HJ (x := .sl 2 .full (flds [(nIMS, s), (nINM, [34, 120, 34])])) (l := [(nIMS, s), (nINM, [34, 120, 34])]) (.inr ⟨_, rfl⟩) (few_sub (n := 29) (by simp) (by simp [nIMS, nINM, l29]) (by decide)) (by simp) m1 m2 m3
  have A1 := fun hh => appl_ok (L := L) (h := hh) (p := .str []) (y := .int .i64 0) (meth := [71, 69, 84]) (tag := []) HJ (x := .sl 2 .full (flds [(nIR, s), (nR, [120])])) (l := [(nIR, s), (nR, [120])]) (.inr ⟨_, rfl⟩) (few_sub (n := 29) (by simp) (by simp [nIR, nR, l29]) (by decide)) (by simp) m1 m2 m3
  have A2 := fun hh => appl_ok (L := L) (h := hh) (p := .str []) (y := .int .i64 0) (meth := [71, 69, 84]) (tag := []) HJ (x := .sl 2 .full (flds [(nR, [120])])) (l := [(nR, [120])]) (.inr ⟨_, rfl⟩) (few_sub (n := 29) (by simp) (by simp [nR]) (by decide)) (by simp) m1 m2 m3
  have u1e : unchS [71, 69, 84] [(nIMS, s)] [] A = decide (A ≤ C) := by
    have v1 : valsOf [(nIMS, s)] nINM = [] := rfl
    have v2 : valsOf [(nIMS, s)] nIMS = [s] := rfl
    unfold unchS sinceB
    rw [if_pos (.inl rfl), v1, v2, join_one', dS]
    simp [b0]
  have u2e : unchS [71, 69, 84] [(nIMS, s), (nINM, [34, 120, 34])] [] A = false := by
    have v1 : valsOf [(nIMS, s), (nINM, [34, 120, 34])] nINM = [[34, 120, 34]] := rfl
    unfold unchS
    rw [if_pos (.inl rfl), v1, if_pos (by simp), join_one']
    rfl
  have a1e : applS [71, 69, 84] [(nIR, s), (nR, [120])] [] A = decide (C = A) := by
    have v1 : valsOf [(nIR, s), (nR, [120])] nR = [[120]] := rfl
    have v2 : valsOf [(nIR, s), (nR, [120])] nIR = [s] := rfl
    unfold applS
    rw [if_pos ⟨by rw [v1]; rfl, rfl⟩, v2, if_pos (show [s].length = 1 from rfl), join_one', noTag, dS]
  have a2e : applS [71, 69, 84] [(nR, [120])] [] A = true := by
    have v1 : valsOf [(nR, [120])] nR = [[120]] := rfl
    have v2 : valsOf [(nR, [120])] nIR = [] := rfl
    unfold applS
    rw [if_pos ⟨by rw [v1]; rfl, rfl⟩, v2]; rfl
  rw [u1e] at U1; rw [u2e] at U2; rw [a1e] at A1; rw [a2e] at A2
  have q21 : 21 ≤ M.length := by omega
  refine Cf.pu (U1 _) fun t1 => ?_
  simp (maxSteps := 4000000) only [vm, vl, Arg.get, cells, stor, boundO, resultsV, resV, partK, loadV, Vm.part, fillC, splice, reduceIte, reduceCtorEq, Nat.reduceEqDiff, Nat.reduceAdd, Nat.reduceSub, Nat.reduceMul, Nat.reduceLeDiff, ne_eq, not_false_eq_true, Int.reduceEq, Int.reduceLT, Int.reduceLE, Int.reduceNeg, Int.reduceToNat, Int.reduceGT, Int.reduceGE, Nat.reduceLT, Nat.lt_add_one, Nat.zero_lt_succ, Nat.succ_pos, Nat.zero_le, beq_self_eq_true, q21, m4]
  refine Cf.pu (U2 _) fun t2 => ?_
  simp (maxSteps := 4000000) only [vm, vl, Arg.get, cells, stor, boundO, resultsV, resV, partK, loadV, Vm.part, fillC, splice, reduceIte, reduceCtorEq, Nat.reduceEqDiff, Nat.reduceAdd, Nat.reduceSub, Nat.reduceMul, Nat.reduceLeDiff, ne_eq, not_false_eq_true, Int.reduceEq, Int.reduceLT, Int.reduceLE, Int.reduceNeg, Int.reduceToNat, Int.reduceGT, Int.reduceGE, Nat.reduceLT, Nat.lt_add_one, Nat.zero_lt_succ, Nat.succ_pos, Nat.zero_le, beq_self_eq_true, q21, m4]
  refine Cf.pu (A1 _) fun t3 => ?_
  simp (maxSteps := 4000000) only [vm, vl, Arg.get, cells, stor, boundO, resultsV, resV, partK, loadV, Vm.part, fillC, splice, reduceIte, reduceCtorEq, Nat.reduceEqDiff, Nat.reduceAdd, Nat.reduceSub, Nat.reduceMul, Nat.reduceLeDiff, ne_eq, not_false_eq_true, Int.reduceEq, Int.reduceLT, Int.reduceLE, Int.reduceNeg, Int.reduceToNat, Int.reduceGT, Int.reduceGE, Nat.reduceLT, Nat.lt_add_one, Nat.zero_lt_succ, Nat.succ_pos, Nat.zero_le, beq_self_eq_true, q21, m4]
  refine Cf.pu (A2 _) fun t4 => ?_
  have ec : (decide (C = A) == decide (A = C)) = true := by
    rw [beq_iff_eq, decide_eq_decide]; exact eq_comm
  have eb : (decide (A ≤ C) == decide (A ≤ C)) = true := beq_iff_eq.2 rfl
  simp (maxSteps := 4000000) only [vm, vl, Arg.get, cells, stor, boundO, resultsV, resV, partK, loadV, Vm.part, fillC, splice, reduceIte, reduceCtorEq, Nat.reduceEqDiff, Nat.reduceAdd, Nat.reduceSub, Nat.reduceMul, Nat.reduceLeDiff, ne_eq, not_false_eq_true, Int.reduceEq, Int.reduceLT, Int.reduceLE, Int.reduceNeg, Int.reduceToNat, Int.reduceGT, Int.reduceGE, Nat.reduceLT, Nat.lt_add_one, Nat.zero_lt_succ, Nat.succ_pos, Nat.zero_le, beq_self_eq_true, q21, m4, eq_bool, eb, ec, Bool.not_false]
theorem ValidatorTimes_row {x0 x1 : V} (v0 : VPar [.l (.i .i64)] x0) (v1 : VPar [.l (.i .i64)] x1) (w : World) (vs : List Value) (hv : Rvs w.heap.size G0 w [x0, x1] vs) :
    Calls Tryd.prog i_gatepostlaw12_ValidatorTimes vs.toArray w fun e w' => e = .returned (.bool true) ∧ RowKit.Below w.heap.size w w' := by
  obtain ⟨n, rfl, _⟩ := v0
  obtain ⟨c, rfl, _⟩ := v1
  exact calls_at hm hF (join_at w) (ValidatorTimes_ok (joinOk fun _ _ _ h => h)) hv
end Go.Proofs.YtfkebmdfcpnaeaaDoor.Vh
