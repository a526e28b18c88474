/- Several texts in one: VCutP, VUnq, VUnq2, VUnqL, VSplit, VGood. -/
import Derived.Lib.Bytealg
import Derived.Test.YtaahialaegfjgaaDoorPk5
import Derived.Test.YtaahialaegfjgaaDoorPk4
import Derived.Test.YtaahialaegfjgaaDoorPk6
import Derived.Test.YtaahialaegfjgaaDoorProg
import Derived.WalkKit
import Derived.LoopTactic
import Derived.Lib.Hide
import Derived.Lib.Builder
import Derived.Lib.UnsafeStr
import Derived.Lib.Walk
import Derived.Lib.Slices
import Derived.Laws.Externs
section
set_option linter.unusedVariables false
set_option linter.unusedSimpArgs false
namespace Go.Proofs.YtaahialaegfjgaaDoor.Vh
open Go.Vm Go.Vt
attribute [local congr] wi_congr wg_congr wgd_congr wb_congr wl_congr cf_congr
variable {L : FuncId → List V → V → Prop} {h : Heap}
/-- A byte's first place; the length where it is not. -/
def pos (c : UInt8) (s : Bs) : Nat := (s.takeWhile (· != c)).length
theorem pos_le (c : UInt8) (s : Bs) : pos c s ≤ s.length := by
  unfold pos; exact (List.takeWhile_sublist _).length_le
theorem pos_cons (c x : UInt8) (r : Bs) : pos c (x :: r) = if x = c then 0 else pos c r + 1 := by
  unfold pos
  rw [List.takeWhile_cons]
  by_cases h : x = c <;> simp [h]
theorem indexByte_pos (c : UInt8) (s : Bs) : Go.Lib.indexByte s c = if pos c s < s.length then (pos c s : Int) else -1 := by
  induction s with
  | nil => rfl
  | cons x r ih =>
    rw [Go.Lib.indexByte, ih, pos_cons]
    have hl := pos_le c r
    by_cases h : x = c
    · subst h; simp
    · have hb : (x == c) = false := by simpa using h
      have hb' : ¬ ((x == c) = true) := by rw [hb]; simp
      rw [if_neg hb', if_neg h]
      have e1 : (pos c r + 1 < (x :: r).length) = (pos c r < r.length) := by rw [List.length_cons]; exact propext ⟨fun h => by omega, fun h => by omega⟩
      simp only [e1]
      by_cases h2 : pos c r < r.length
      · have h3 : ¬ (((pos c r : Int) == -1) = true) := by rw [beq_iff_eq]; omega
        simp only [if_pos h2, if_neg h3]; omega
      · simp only [if_neg h2]; rfl
def cutS (c : UInt8) (s : Bs) : V := .tup [.str (s.take (pos c s)), .str (s.drop (pos c s + 1)), .bool (decide (pos c s < s.length))]
def IndexOk (L : FuncId → List V → V → Prop) : Prop := ∀ {s : Bs} {c : UInt8} {h : Heap}, Cf F L i_internal_stringslite_Index [.str s, .str [c]] h (Pu h (.int .i64 (Go.Lib.indexByte s c)))
theorem Cut1_ok {s : Bs} {c : UInt8} (HI : IndexOk L) (hs : s.length < 9223372036854775807) : Cf F L i_internal_stringslite_Cut [.str s, .str [c]] h (Pu h (cutS c s)) := by
  refine run_internal_stringslite_Cut ?_
  simp only [p_internal_stringslite_Cut]
  simp (maxSteps := 4000000) only [vm, vl, Arg.get, cells, stor, boundO, resultsV, resV, partK, loadV, Vm.part, fillC, splice, reduceIte, reduceCtorEq, Nat.reduceEqDiff, Nat.reduceAdd, Nat.reduceSub, Nat.reduceMul, Nat.reduceLeDiff, ne_eq, not_false_eq_true, Int.reduceEq, Int.reduceLT, Int.reduceLE, Int.reduceNeg, Int.reduceToNat, Int.reduceGT, Int.reduceGE, Nat.reduceLT, Nat.lt_add_one, Nat.zero_lt_succ, Nat.succ_pos, Nat.zero_le, beq_self_eq_true, k_internal_stringslite_Cut_0]
  refine Cf.pu HI fun t => ?_
  rw [indexByte_pos]
  have hl := pos_le c s
  by_cases hp : pos c s < s.length
  · rw [if_pos hp]
    have g1 : (pos c s : Int) ≥ 0 := by omega
    have w : IntKind.i64.wrap ((pos c s : Int) + 1) = ((pos c s + 1 : Nat) : Int) := by rw [wrap64 (by omega) (by omega)]; omega
    have g2 : pos c s ≤ s.length := hl
    have g3 : pos c s + 1 ≤ s.length := hp
    have g4 : List.take s.length s = s := List.take_of_length_le (Nat.le_refl _)
    have g5 : decide (pos c s < s.length) = true := by simpa using hp
    unfold cutS
    rw [g5]
    generalize pos c s = k at *
    have z : (0 : Int) ≤ k := by omega
    simp only [List.length_cons, List.length_nil, Nat.zero_add] at *
    simp (maxSteps := 4000000) only [vm, vl, Arg.get, cells, stor, boundO, resultsV, resV, partK, loadV, Vm.part, fillC, splice, reduceIte, reduceCtorEq, Nat.reduceEqDiff, Nat.reduceAdd, Nat.reduceSub, Nat.reduceMul, Nat.reduceLeDiff, ne_eq, not_false_eq_true, Int.reduceEq, Int.reduceLT, Int.reduceLE, Int.reduceNeg, Int.reduceToNat, Int.reduceGT, Int.reduceGE, Nat.reduceLT, Nat.lt_add_one, Nat.zero_lt_succ, Nat.succ_pos, Nat.zero_le, beq_self_eq_true, k_internal_stringslite_Cut_0, g1, w, g2, g3, g4, z, Int.toNat_natCast]
  · rw [if_neg hp]
    have e : pos c s = s.length := by omega
    have g5 : decide (pos c s < s.length) = false := by simpa using hp
    unfold cutS
    rw [g5, e, List.take_of_length_le (Nat.le_refl _), List.drop_eq_nil_of_le (by omega)]
    simp (maxSteps := 4000000) only [vm, vl, Arg.get, cells, stor, boundO, resultsV, resV, partK, loadV, Vm.part, fillC, splice, reduceIte, reduceCtorEq, Nat.reduceEqDiff, Nat.reduceAdd, Nat.reduceSub, Nat.reduceMul, Nat.reduceLeDiff, ne_eq, not_false_eq_true, Int.reduceEq, Int.reduceLT, Int.reduceLE, Int.reduceNeg, Int.reduceToNat, Int.reduceGT, Int.reduceGE, Nat.reduceLT, Nat.lt_add_one, Nat.zero_lt_succ, Nat.succ_pos, Nat.zero_le, beq_self_eq_true, k_internal_stringslite_Cut_0]
theorem Cut_ok {s : Bs} {c : UInt8} (HI : IndexOk L) (hs : s.length < 9223372036854775807) : Cf F L i_strings_Cut [.str s, .str [c]] h (Pu h (cutS c s)) := by
  refine run_strings_Cut ?_
  simp only [p_strings_Cut]
  simp (maxSteps := 4000000) only [vm, vl, Arg.get, cells, stor, boundO, resultsV, resV, partK, loadV, Vm.part, fillC, splice, reduceIte, reduceCtorEq, Nat.reduceEqDiff, Nat.reduceAdd, Nat.reduceSub, Nat.reduceMul, Nat.reduceLeDiff, ne_eq, not_false_eq_true, Int.reduceEq, Int.reduceLT, Int.reduceLE, Int.reduceNeg, Int.reduceToNat, Int.reduceGT, Int.reduceGE, Nat.reduceLT, Nat.lt_add_one, Nat.zero_lt_succ, Nat.succ_pos, Nat.zero_le, beq_self_eq_true]
  refine Cf.pu (Cut1_ok HI hs) fun t => ?_
  unfold cutS
  simp (maxSteps := 4000000) only [vm, vl, Arg.get, cells, stor, boundO, resultsV, resV, partK, loadV, Vm.part, fillC, splice, reduceIte, reduceCtorEq, Nat.reduceEqDiff, Nat.reduceAdd, Nat.reduceSub, Nat.reduceMul, Nat.reduceLeDiff, ne_eq, not_false_eq_true, Int.reduceEq, Int.reduceLT, Int.reduceLE, Int.reduceNeg, Int.reduceToNat, Int.reduceGT, Int.reduceGE, Nat.reduceLT, Nat.lt_add_one, Nat.zero_lt_succ, Nat.succ_pos, Nat.zero_le, beq_self_eq_true]
def LIndex : FuncId → List V → V → Prop := fun f args v => f = i_internal_stringslite_Index ∧ ∃ (s : Bs) (c : UInt8), args = [.str s, .str [c]] ∧ v = .int .i64 (Go.Lib.indexByte s c)
theorem index_at (w0 : World) : LibAt Tryd.prog w0 LIndex := by
  rintro f args v ⟨rfl, s, c, rfl, rfl⟩
  refine ⟨by kernel_rfl, good_below fun B G h w vs hr hb hv => ?_⟩
  obtain ⟨a, b, rfl, ha, hs⟩ := rvs_two hv
  cases hs; cases ha
  refine (Tryd.stringslite_Index_one ⟨s.toArray⟩ c w).mono fun e w' ⟨h1, h2⟩ => ?_
  subst h2
  exact ⟨_, h1, .int .i64 _, Go.RowKit.Below.refl ..⟩
theorem indexOk {L : FuncId → List V → V → Prop} (hL : ∀ f a v, LIndex f a v → L f a v) : IndexOk L :=
  wlib (hL _ _ _ ⟨rfl, _, _, rfl, rfl⟩) ⟨rfl, [], by simp⟩
end Go.Proofs.YtaahialaegfjgaaDoor.Vh
end
section
set_option linter.unusedVariables false
set_option linter.unusedSimpArgs false
namespace Go.Proofs.YtaahialaegfjgaaDoor.Uq
open Go.RowKit
abbrev tB : TypeId := 73
abbrev tU : TypeId := 5
theorem sizeB : (Tryd.prog.info? tB).map (·.size) = some 2 := by kernel_rfl
theorem liesB : liesAt Tryd.prog Tryd.prog.depth tB (2 / Tryd.prog.cellsOf tB) 0 tB 1 = true := by kernel_rfl
theorem infoU : (Tryd.prog.info? tU).map (fun i => (i.zero, i.size, i.bytes)) = some (some (.int .u8 0), 1, 1) := by kernel_rfl
theorem ne_BU : tB ≠ tU := by decide
theorem uP : Tryd.prog.underlying 71 = some (.pointer tB) := by kernel_rfl
theorem uUns : Tryd.prog.underlying 101 = some .unsafePointer := by kernel_rfl
theorem uSl : Tryd.prog.underlying 68 = some (.slice tU) := by kernel_rfl
set_option maxHeartbeats 1000000 in
set_option maxRecDepth 100000 in
theorem copy_used (b : Nat) (w : World) (h0 : w.cell? ⟨b, 0, none⟩ = some (.pointer (some ⟨b, 0, none⟩))) :
    Calls Tryd.prog 53 #[.pointer (some ⟨b, 0, none⟩)] w fun e w' => e = .returned (.tuple #[]) ∧ w' = w := by
  obtain ⟨j, hj, _⟩ := Option.map_eq_some_iff.1 sizeB
  go_enter Tryd.func53, Tryd.ntmps53
  go_wp2
  rw [Lib.run_neq_ptr_same w _ uP hj]
  go_wp2
  go_end0
  exact ⟨rfl, rfl⟩
set_option maxHeartbeats 1000000 in
set_option maxRecDepth 100000 in
theorem copy_fresh (b : Nat) (w : World) (h0 : w.cell? ⟨b, 0, none⟩ = some (.pointer none)) (hsh : w.shape? b = some (tB, 2)) (hfz : w.frozen? ⟨b, 0, none⟩ = false) :
    Calls Tryd.prog 53 #[.pointer (some ⟨b, 0, none⟩)] w fun e w' => e = .returned (.tuple #[]) ∧ w' = w.setCell ⟨b, 0, none⟩ (.pointer (some ⟨b, 0, none⟩)) := by
  obtain ⟨j, hj, hjs⟩ := Option.map_eq_some_iff.1 sizeB
  go_enter Tryd.func53, Tryd.ntmps53
  go_wp2
  rw [Lib.run_to_unsafe w ⟨b, 0, none⟩ uP uUns hj (by rw [hjs]; decide) hsh (Nat.zero_lt_succ 1)]
  simp only [Result.andThen]
  rw [Oper.upon_value]
  go_wp2
  rw [run_callFunc_extern Tryd.func69 (by kernel_rfl) (by kernel_rfl) (by kernel_rfl) (e := Extern.AbiNoEscape.same) (by kernel_rfl)]
  rw [Lib.run_noEscape]
  simp only [Result.andThen]
  rw [Oper.upon_value]
  go_wp2
  rw [Lib.run_from_unsafe w ⟨b, 0, none⟩ uUns uP hj hsh liesB]
  simp only [Result.andThen]
  rw [Oper.upon_value]
  go_wp2
  go_end0
  exact ⟨rfl, rfl⟩
theorem copy_any (B b : Nat) (bs : List Value) (w : World) (h : Lib.IsBuilder tB tU B b bs w) :
    Calls Tryd.prog 53 #[.pointer (some ⟨b, 0, none⟩)] w fun e w' => e = .returned (.tuple #[]) ∧ (Lib.BuilderAt tB tU B b (.pointer (some ⟨b, 0, none⟩)) bs w' ∧ Below B w w') := by
  rcases h with h | h
  · exact (copy_fresh b w h.cell0 h.shape h.frozen0).mono fun e w' ⟨h1, h2⟩ => ⟨h1, by subst h2; exact ⟨h.used _, (Below.refl B w).setCell (p := ⟨b, 0, none⟩) h.1 _⟩⟩
  · exact (copy_used b w h.cell0).mono fun e w' ⟨h1, h2⟩ => ⟨h1, by subst h2; exact ⟨h, Below.refl B _⟩⟩
set_option maxHeartbeats 2000000 in
set_option maxRecDepth 100000 in
theorem write_byte (B b : Nat) (bs : List Value) (c : Int) (w : World) (h : Lib.IsBuilder tB tU B b bs w) (hlen : bs.length + 1 ≤ 140737488355328) (hBw : B ≤ w.heap.size) :
    Calls Tryd.prog 60 #[.pointer (some ⟨b, 0, none⟩), .int .u8 c] w fun e w' => e = .returned .nilIface ∧ (Lib.BuilderAt tB tU B b (.pointer (some ⟨b, 0, none⟩)) (bs ++ [.int .u8 c]) w' ∧ Below B w w') := by
  obtain ⟨i0, hi, hz0, hz1, hz2⟩ := info_parts infoU
  go_enter Tryd.func60, Tryd.ntmps60
  go_wp2_with (go_at_call 53; refine (copy_any B b bs _ h).mono ?_)
  rintro e w1 ⟨rfl, h1, hb1⟩
  obtain ⟨hB, v, hbk, hown, hne⟩ := h1
  have c0 : w1.cell? ⟨b, 0, none⟩ = some (.pointer (some ⟨b, 0, none⟩)) := by rw [Lib.cell_of_heap hbk]; rfl
  have c1 : w1.cell? ⟨b, 1, none⟩ = some v := by rw [Lib.cell_of_heap hbk]; rfl
  have s1 := hb1.size
  go_wp2_with (at_builtin; refine wpList_append_own _ rfl _ _ 68 rfl B tU i0 (.int .u8 0) 1 1 uSl hi hz0 hz1 hz2 rfl (by decide) _ _ _ rfl (hown.alloc _) ⟨w1.heap.size, 0, none⟩ 1 1 [.int .u8 c] rfl rfl ?p1 ?p2 ?p3 ?p4 ?p5 ?_)
  case p1 =>
    intro j u hj
    match j, hj with
    | 0, hj => simp at hj; subst hj; simp [Addr.add]
  case p2 => intro u hu; simp at hu; subst hu; rfl
  case p3 => unfold maxLen; omega
  case p4 => omega
  case p5 => simp; omega
  intro v' w2 hown' hgrow _
  have hlt : b < w1.heap.size := Lib.BuilderAt.lt ⟨hB, v, hbk, hown, hne⟩
  have hb2 : w2.heap[b]? = some (.cells #[.pointer (some ⟨b, 0, none⟩), v] tB (0, 0)) := by
    rw [hgrow.block b (by simp; omega) (fun e => hne e.symm), Lib.alloc_old w1 _ b hlt]
    exact hbk
  have d0 : w2.cell? ⟨b, 0, none⟩ = some (.pointer (some ⟨b, 0, none⟩)) := by rw [Lib.cell_of_heap hb2]; rfl
  have d1 : w2.cell? ⟨b, 1, none⟩ = some v := by rw [Lib.cell_of_heap hb2]; rfl
  have f1 : w2.frozen? ⟨b, 1, none⟩ = false := Lib.frozen_of_heap hb2 1
  obtain ⟨g, cap, rfl⟩ : ∃ g cap, v' = .slice (some ⟨g, 0, none⟩) (bs.length + 1) cap := by
    rcases hown'.2 with ⟨_, h0⟩ | ⟨g, cap, cur, hv, _⟩
    · omega
    · exact ⟨g, cap, hv⟩
  go_wp2
  go_ret
  exact ⟨rfl, Lib.BuilderAt.put hB hb2 (bs' := bs ++ [.int .u8 c]) (by simpa using hown') ne_BU,
    ((hb1.alloc (by omega) _).grown hgrow (by simp; omega) (fun k hk => (hown.lt k hk).1)).setCell (p := ⟨b, 1, none⟩) hB _⟩
end Go.Proofs.YtaahialaegfjgaaDoor.Uq
end
section
set_option linter.unusedVariables false
set_option linter.unusedSimpArgs false
namespace Go.Proofs.YtaahialaegfjgaaDoor.Uq
open Go.RowKit
def inQ (c : Int) : Bool := (c == 9) || (decide (32 ≤ c) && !decide (c = 127))
set_option maxHeartbeats 400000 in
theorem inQ_calls (c : Int) (w : World) :
    Calls Tryd.prog 59 #[.int .u8 c] w fun e w' => e = .returned (.bool (inQ c)) ∧ w' = w := by
  go_enter Tryd.func59, Tryd.ntmps59
  unfold inQ
  by_cases k0 : c = 9
  · subst k0; go_wp2; go_ret; exact ⟨rfl, rfl⟩
  · by_cases k1 : c ≥ 32
    · by_cases k2 : c = 127
      · subst k2; go_wp2; go_ret; exact ⟨rfl, rfl⟩
      · go_wp2; go_ret; exact ⟨by simp [k0, k1, k2], rfl⟩
    · go_wp2; go_ret; refine ⟨?_, rfl⟩; simp [k0]; omega
/-- What a quoted text holds, behind its first mark. -/
def unqG : List UInt8 → List UInt8 → List UInt8 × Bool
  | [], _ => ([], false)
  | c :: r, bs => if c = 34 then (bs, r.isEmpty) else if c = 92 then (match r with
      | [] => ([], false)
      | d :: r' => if inQ (d.toNat : Int) then unqG r' (bs ++ [d]) else ([], false))
    else if inQ (c.toNat : Int) then unqG r (bs ++ [c]) else ([], false)
theorem u8_of {c : UInt8} {n : Nat} (hn : n < 256) (h : (c.toNat : Int) = n) : c = UInt8.ofNat n := by
  refine UInt8.toNat_inj.1 ?_
  rw [UInt8.toNat_ofNat_of_lt' hn]; omega
theorem unqG_other {c : UInt8} {r bs : List UInt8} (h1 : ¬ (c.toNat : Int) = 34) (h2 : ¬ (c.toNat : Int) = 92) : unqG (c :: r) bs = if inQ (c.toNat : Int) then unqG r (bs ++ [c]) else ([], false) := by
  rw [unqG.eq_def]
  simp only
  rw [if_neg (by rintro rfl; exact h1 rfl), if_neg (by rintro rfl; exact h2 rfl)]
theorem unqG_end {c : UInt8} {bs : List UInt8} (h2 : (c.toNat : Int) = 92) : unqG [c] bs = ([], false) := by
  have : c = 92 := u8_of (n := 92) (by decide) h2
  subst this; rfl
theorem unqG_esc {c d : UInt8} {r bs : List UInt8} (h2 : (c.toNat : Int) = 92) : unqG (c :: d :: r) bs = if inQ (d.toNat : Int) then unqG r (bs ++ [d]) else ([], false) := by
  have : c = 92 := u8_of (n := 92) (by decide) h2
  subst this; rw [unqG.eq_def]; rfl
def unqS (l : List UInt8) : List UInt8 × Bool := if Lib.hasPrefix l [34] then unqG (Lib.trimPrefix l [34]) [] else ([], false)
def UnqI (t : ByteArray) (R : List UInt8 × Bool) (b : Nat) (w : World) (v5 v7 : Value) (w' : World) : Prop :=
  ∃ (k : Nat) (ok : Bool) (bs : List UInt8), k ≤ t.size ∧ v5 = .bool ok ∧ v7 = .int .i64 k ∧ Lib.IsBuilder tB tU b b (Lib.byteCells bs) w' ∧ Below b w w' ∧ bs.length ≤ k ∧
    (ok = true → unqG (t.data.toList.drop k) bs = R) ∧ (ok = false → R = ([], false))
theorem cells_snoc (bs : List UInt8) (c : UInt8) : Lib.byteCells (bs ++ [c]) = Lib.byteCells bs ++ [.int .u8 c.toNat] := by simp [Lib.byteCells]
theorem unqI_next {t : ByteArray} {R : List UInt8 × Bool} {b k : Nat} {w w1 w2 : World} {bs : List UInt8} {c : UInt8} (hk : k ≤ t.size) (hbl : Below b w w1) (hb2 : Below b w1 w2) (hlen : bs.length + 1 ≤ k) (h2 : Lib.BuilderAt tB tU b b (.pointer (some ⟨b, 0, none⟩)) (Lib.byteCells bs ++ [.int .u8 c.toNat]) w2)
    (h1 : (if inQ (c.toNat : Int) then unqG (t.data.toList.drop k) (bs ++ [c]) else ([], false)) = R) : UnqI t R b w (.bool (inQ (c.toNat : Int))) (.int .i64 k) w2 :=
  ⟨k, _, bs ++ [c], hk, rfl, rfl, .inr (by rw [cells_snoc]; exact h2), hbl.trans hb2, by simpa using hlen, fun h => by rw [if_pos h] at h1; exact h1, fun h => by rw [if_neg (by simp [h])] at h1; exact h1.symm⟩
set_option maxHeartbeats 1000000 in
set_option maxRecDepth 100000 in
theorem unq_calls (s : ByteArray) (w : World) (hs : s.size ≤ 140737488351232) (R : List UInt8 × Bool) (hR : unqS s.data.toList = R) :
    Calls Tryd.prog 50 #[.string s] w fun e w' => e = .returned (.tuple #[.string ⟨R.1.toArray⟩, .bool R.2]) ∧ Below w.heap.size w w' := by
  have hsz : (Lib.trimPrefix s.data.toList [34]).length ≤ 140737488351232 := by
    have : (Lib.trimPrefix s.data.toList [34]).length ≤ s.data.toList.length := by
      unfold Lib.trimPrefix
      split
      · rw [List.length_drop]; omega
      · exact Nat.le_refl _
    have h2 : s.data.toList.length = s.size := by simp
    omega
  unfold unqS at hR
  have HR := Lib.hid hR
  clear hR
  go_enter Tryd.func50, Tryd.ntmps50
  go_wp2_with (go_at_call 58; refine (Tryd.strings_CutPrefix _ _ _).mono ?_)
  generalize Lib.hasPrefix s.data.toList [34] = ok0 at *
  generalize Lib.trimPrefix s.data.toList [34] = l0 at *
  generalize ht : ByteArray.mk l0.toArray = t at *
  have hl : l0 = t.data.toList := by rw [← ht]
  subst hl
  have hn : t.data.toList.length = t.size := by simp
  have hn' : t.size ≤ 140737488351232 := by omega
  have hB := Lib.hid (Lib.fresh_isBuilder tB tU w)
  have hb0 := Lib.hid ((Below.refl w.heap.size w).alloc (Nat.le_refl _) (Obj.cells #[Value.pointer none, Value.slice none 0 0] tB))
  generalize hb : w.heap.size = b at *
  go_loopw [5, 7, 8] (fun v5 v7 _ w' => UnqI t R b w v5 v7 w') (fun _ i _ _ => t.size - (intOf i).toNat)
  case atStart => exact ⟨0, ok0, [], Nat.zero_le _, rfl, rfl, hB.out, hb0.out, Nat.le_refl _, fun h => by rw [← HR.out, if_pos h]; rfl, fun h => by rw [← HR.out, if_neg (by simp [h])]⟩
  case round =>
    obtain ⟨k, ok, bs, hk, rfl, rfl, hI, hbl, hlen, h1, h2⟩ := hrel
    have HI := Lib.hid hI; have HL := Lib.hid hbl
    clear hI hbl HR
    cases ok with
    | false =>
      have := h2 rfl
      subst this
      clear h1 h2
      go_wp2
      go_ret2
      exact ⟨rfl, HL.out⟩
    | true =>
      replace h1 := h1 rfl
      clear h2
      by_cases hlt : k < t.size
      case neg =>
        have hke : k = t.size := by omega
        rw [List.drop_of_length_le (by omega)] at h1
        subst h1
        go_wp2
        go_ret2
        exact ⟨rfl, HL.out⟩
      have hlt' : k < t.data.toList.length := by omega
      have hd : t.data.toList.drop k = (t[k]'hlt) :: t.data.toList.drop (k + 1) := List.drop_eq_getElem_cons hlt'
      rw [hd] at h1
      have hbw : b ≤ wr.heap.size := by have := HL.out.size; omega
      have H1 := Lib.hid h1
      clear h1 hd ht
      have hcn := (t[k]'hlt).toNat_lt
      by_cases c34 : ((t[k]'hlt).toNat : Int) = 34
      · have hc8 : t[k]'hlt = 34 := UInt8.toNat_inj.1 (by have : (34 : UInt8).toNat = 34 := rfl; omega)
        have h1 := H1.out
        unfold unqG at h1
        rw [if_pos hc8] at h1
        have HR1 := Lib.hid h1
        clear h1 hc8 H1
        go_wp2_with (go_at_call 32; refine (Tryd.Builder_String_any b b bs _ HI.out hbw).mono ?_)
        rintro e w' ⟨rfl, hb2⟩
        go_wp2
        go_ret2
        rw [← HR1.out]
        refine ⟨?_, hb ▸ HL.out.trans hb2⟩
        show Ending.returned (.tuple #[.string ⟨bs.toArray⟩, .bool ((k : Int) == (t.size : Int) - 1)]) = _
        have e1 : ((k : Int) == (t.size : Int) - 1) = (List.drop (k + 1) t.data.toList).isEmpty := by
          rw [Bool.eq_iff_iff, beq_iff_eq, List.isEmpty_iff, List.drop_eq_nil_iff]
          omega
        rw [e1]
      · by_cases c92 : ((t[k]'hlt).toNat : Int) = 92
        · by_cases hlt2 : k + 1 < t.size
          case neg =>
            have hke : k + 1 = t.size := by omega
            have hki : (k : Int) + 1 = (t.size : Int) := by omega
            have h1 := H1.out
            rw [List.drop_of_length_le (by omega), unqG_end c92] at h1
            subst h1
            clear H1
            go_wp2
            go_ret2
            exact ⟨rfl, hb ▸ HL.out⟩
          have hki : ¬ (k : Int) + 1 = (t.size : Int) := by omega
          have hlt2' : k + 1 < t.data.toList.length := by omega
          have hd : t.data.toList.drop (k + 1) = (t[k + 1]'hlt2) :: t.data.toList.drop (k + 2) := List.drop_eq_getElem_cons hlt2'
          have h1 := H1.out
          rw [hd, unqG_esc c92] at h1
          have H3 := Lib.hid h1
          clear h1 hd H1
          have hI1 := Lib.hid (inQ_calls ((t[k + 1]'hlt2).toNat : Int) wr)
          have hW := Lib.hid (write_byte b b _ ((t[k + 1]'hlt2).toNat : Int) wr HI.out (by rw [Lib.byteCells_length]; omega) hbw)
          go_wp2_with (go_at_call 59; refine hI1.out.mono ?_)
          rintro e w' ⟨rfl, rfl⟩
          go_wp2_with (go_at_call 60; refine hW.out.mono ?_)
          rintro e w2 ⟨rfl, h2, hb2⟩
          go_wp2
          go_roundw
          case rel =>
            have h1 := H3.out
            have := unqI_next (k := k + 2) hlt2 HL.out hb2 (by omega) h2 h1
            have e2 : ((k + 2 : Nat) : Int) = (k : Int) + 1 + 1 := by omega
            rwa [e2] at this
          case measure => simp [intOf]; omega
        · have hI1 := Lib.hid (inQ_calls ((t[k]'hlt).toNat : Int) wr)
          have hW := Lib.hid (write_byte b b _ ((t[k]'hlt).toNat : Int) wr HI.out (by rw [Lib.byteCells_length]; omega) hbw)
          go_wp2_with (go_at_call 59; refine hI1.out.mono ?_)
          rintro e w' ⟨rfl, rfl⟩
          go_wp2_with (go_at_call 60; refine hW.out.mono ?_)
          rintro e w2 ⟨rfl, h2, hb2⟩
          go_wp2
          go_roundw
          case rel =>
            have h1 := H1.out
            rw [unqG_other c34 c92] at h1
            have := unqI_next (k := k + 1) hlt HL.out hb2 (by omega) h2 h1
            rwa [Int.natCast_add] at this
          case measure => simp [intOf]; omega
end Go.Proofs.YtaahialaegfjgaaDoor.Uq
end
section
set_option linter.unusedVariables false
set_option linter.unusedSimpArgs false
namespace Go.Proofs.YtaahialaegfjgaaDoor.Vh
open Go.Vm Go.Vt
attribute [local congr] wi_congr wg_congr wgd_congr wb_congr wl_congr cf_congr
variable {L : FuncId → List V → V → Prop} {h : Heap}
def unqV (p : Bs × Bool) : V := .tup [.str p.1, .bool p.2]
def LUnq : FuncId → List V → V → Prop := fun f args v => f = i_token_unquote ∧ ∃ s : Bs, s.length ≤ 140737488351232 ∧ args = [.str s] ∧ v = unqV (Uq.unqS s)
theorem unq_at (w0 : World) : LibAt Tryd.prog w0 LUnq := by
  rintro f args v ⟨rfl, s, hs, rfl, rfl⟩
  refine ⟨by kernel_rfl, good_below fun B G h w vs hr hb hv => ?_⟩
  obtain ⟨a, rfl, ha⟩ := rvs_one hv
  cases ha
  refine (Uq.unq_calls ⟨s.toArray⟩ w (by show s.toArray.size ≤ _; simpa using hs) _ rfl).mono fun e w' ⟨h1, h2⟩ => ⟨_, h1, ?_, h2⟩
  refine .tup (vs := [.string ⟨(Uq.unqS s).1.toArray⟩, .bool (Uq.unqS s).2]) rfl fun k x v hx hv => ?_
  match k, hx, hv with
  | 0, hx, hv => cases hx; cases hv; exact .str _
  | 1, hx, hv => cases hx; cases hv; exact .bool _
def UnqOk (L : FuncId → List V → V → Prop) : Prop := ∀ {s : Bs} {h : Heap}, s.length ≤ 140737488351232 → Cf F L i_token_unquote [.str s] h (Pu h (unqV (Uq.unqS s)))
theorem unqOk {L : FuncId → List V → V → Prop} (hL : ∀ f a v, LUnq f a v → L f a v) : UnqOk L :=
  fun hs => wlib (hL _ _ _ ⟨rfl, _, hs, rfl, rfl⟩) ⟨rfl, [], by simp⟩
/-! What unquote tells. -/
def unqT : Bs → Bs → Bs × Bool
  | [], _ => ([], false)
  | c :: r, bs => if c = 34 then (bs, r.isEmpty) else if c = 92 then (match r with
      | [] => ([], false)
      | d :: r' => if txtB d then unqT r' (bs ++ [d]) else ([], false))
    else if txtB c then unqT r (bs ++ [c]) else ([], false)
def unqP (s : Bs) : Bs × Bool := if s.head? = some 34 then unqT (s.drop 1) [] else ([], false)
theorem inQ_txt (c : UInt8) : Uq.inQ (c.toNat : Int) = txtB c := byte_all (p := fun c => Uq.inQ (c.toNat : Int) = txtB c) (by decide +kernel) c
theorem unqG_eq : ∀ (n : Nat) (s bs : Bs), s.length ≤ n → Uq.unqG s bs = unqT s bs
  | _, [], bs, _ => by rw [Uq.unqG.eq_def, unqT.eq_def]
  | 0, c :: r, bs, h => by simp at h
  | n + 1, c :: r, bs, h => by
    simp at h
    rw [Uq.unqG.eq_def, unqT.eq_def]
    simp only
    split
    · rfl
    · split
      · cases r with
        | nil => rfl
        | cons d r' => simp only [inQ_txt]; simp at h; rw [unqG_eq n r' _ (by omega)]
      · rw [inQ_txt, unqG_eq n r _ h]
theorem unqS_eq (s : Bs) : Uq.unqS s = unqP s := by
  unfold Uq.unqS unqP
  cases s with
  | nil => rfl
  | cons c r =>
    by_cases hc : c = 34
    · subst hc
      rw [if_pos (by simp [Lib.hasPrefix])]
      show _ = unqT r []
      rw [← unqG_eq _ _ _ (Nat.le_refl _)]
      congr 1
    · rw [if_neg (by simp [Lib.hasPrefix]; exact fun h => hc h.symm), if_neg (by simp [hc])]
theorem Unq_ok (HU : UnqOk L) {s : Bs} (hs : s.length ≤ 140737488351232) : Cf F L i_token_unquote [.str s] h (Pu h (unqV (unqP s))) := by
  rw [← unqS_eq]; exact HU hs
theorem unqT_end {bs : Bs} : unqT [] bs = ([], false) := by rw [unqT.eq_def]
theorem unqT_stop {r bs : Bs} : unqT (34 :: r) bs = (bs, r.isEmpty) := by rw [unqT.eq_def]; rfl
theorem unqT_esc0 {bs : Bs} : unqT [92] bs = ([], false) := by rw [unqT.eq_def]; rfl
theorem unqT_esc {d : UInt8} {r bs : Bs} : unqT (92 :: d :: r) bs = if txtB d then unqT r (bs ++ [d]) else ([], false) := by rw [unqT.eq_def]; rfl
theorem unqT_one {c : UInt8} {r bs : Bs} (h1 : c ≠ 34) (h2 : c ≠ 92) : unqT (c :: r) bs = if txtB c then unqT r (bs ++ [c]) else ([], false) := by
  rw [unqT.eq_def]; simp only; rw [if_neg h1, if_neg h2]
/-- An element's name and value. -/
def pairS (s : Bs) : Bs × Bs × Bool × Bool :=
  let n := s.take (pos 61 s)
  let v := s.drop (pos 61 s + 1)
  if isTok n then (if pos 61 s < s.length then (if isTok v then (n, v, true, true) else if (unqP v).2 then (n, (unqP v).1, true, true) else ([], [], false, false)) else (n, v, false, true)) else ([], [], false, false)
def pairV (p : Bs × Bs × Bool × Bool) : V := .tup [.str p.1, .str p.2.1, .bool p.2.2.1, .bool p.2.2.2]
theorem Pair_ok (HI : IndexOk L) (HU : UnqOk L) {s : Bs} (hs : s.length ≤ 140737488351232) : Cf F L i_token_Pair [.str s] h (Pu h (pairV (pairS s))) := by
  refine run_token_Pair ?_
  simp only [p_token_Pair]
  simp (maxSteps := 4000000) only [vm, vl, Arg.get, cells, stor, boundO, resultsV, resV, partK, loadV, Vm.part, fillC, splice, reduceIte, reduceCtorEq, Nat.reduceEqDiff, Nat.reduceAdd, Nat.reduceSub, Nat.reduceMul, Nat.reduceLeDiff, ne_eq, not_false_eq_true, Int.reduceEq, Int.reduceLT, Int.reduceLE, Int.reduceNeg, Int.reduceToNat, Int.reduceGT, Int.reduceGE, Nat.reduceLT, Nat.lt_add_one, Nat.zero_lt_succ, Nat.succ_pos, Nat.zero_le, beq_self_eq_true, k_token_Pair_2, k_token_Pair_1, k_token_Pair_0]
  refine Cf.pu (Cut_ok HI (by omega)) fun u => ?_
  have b1 : (s.take (pos 61 s)).length ≤ 140737488351232 := by rw [List.length_take]; omega
  have b2 : (s.drop (pos 61 s + 1)).length ≤ 140737488351232 := by rw [List.length_drop]; omega
  unfold pairS cutS
  simp only
  generalize s.take (pos 61 s) = n at *
  generalize s.drop (pos 61 s + 1) = v at *
  simp (maxSteps := 4000000) only [vm, vl, Arg.get, cells, stor, boundO, resultsV, resV, partK, loadV, Vm.part, fillC, splice, reduceIte, reduceCtorEq, Nat.reduceEqDiff, Nat.reduceAdd, Nat.reduceSub, Nat.reduceMul, Nat.reduceLeDiff, ne_eq, not_false_eq_true, Int.reduceEq, Int.reduceLT, Int.reduceLE, Int.reduceNeg, Int.reduceToNat, Int.reduceGT, Int.reduceGE, Nat.reduceLT, Nat.lt_add_one, Nat.zero_lt_succ, Nat.succ_pos, Nat.zero_le, beq_self_eq_true, k_token_Pair_2, k_token_Pair_1, k_token_Pair_0]
  refine Cf.pu (Is_ok (by omega)) fun u1 => ?_
  cases t1 : isTok n with
  | false => simp (maxSteps := 4000000) only [vm, vl, Arg.get, cells, stor, boundO, resultsV, resV, partK, loadV, Vm.part, fillC, splice, reduceIte, reduceCtorEq, Nat.reduceEqDiff, Nat.reduceAdd, Nat.reduceSub, Nat.reduceMul, Nat.reduceLeDiff, ne_eq, not_false_eq_true, Int.reduceEq, Int.reduceLT, Int.reduceLE, Int.reduceNeg, Int.reduceToNat, Int.reduceGT, Int.reduceGE, Nat.reduceLT, Nat.lt_add_one, Nat.zero_lt_succ, Nat.succ_pos, Nat.zero_le, beq_self_eq_true, k_token_Pair_2, k_token_Pair_1, k_token_Pair_0, pairV, Bool.not_false]
  | true =>
    by_cases hp : pos 61 s < s.length
    case neg =>
      rw [if_neg hp]
      simp (maxSteps := 4000000) only [vm, vl, Arg.get, cells, stor, boundO, resultsV, resV, partK, loadV, Vm.part, fillC, splice, reduceIte, reduceCtorEq, Nat.reduceEqDiff, Nat.reduceAdd, Nat.reduceSub, Nat.reduceMul, Nat.reduceLeDiff, ne_eq, not_false_eq_true, Int.reduceEq, Int.reduceLT, Int.reduceLE, Int.reduceNeg, Int.reduceToNat, Int.reduceGT, Int.reduceGE, Nat.reduceLT, Nat.lt_add_one, Nat.zero_lt_succ, Nat.succ_pos, Nat.zero_le, beq_self_eq_true, k_token_Pair_2, k_token_Pair_1, k_token_Pair_0, pairV, Bool.not_true, Bool.not_false, hp, decide_false]
    rw [if_pos hp]
    simp (maxSteps := 4000000) only [vm, vl, Arg.get, cells, stor, boundO, resultsV, resV, partK, loadV, Vm.part, fillC, splice, reduceIte, reduceCtorEq, Nat.reduceEqDiff, Nat.reduceAdd, Nat.reduceSub, Nat.reduceMul, Nat.reduceLeDiff, ne_eq, not_false_eq_true, Int.reduceEq, Int.reduceLT, Int.reduceLE, Int.reduceNeg, Int.reduceToNat, Int.reduceGT, Int.reduceGE, Nat.reduceLT, Nat.lt_add_one, Nat.zero_lt_succ, Nat.succ_pos, Nat.zero_le, beq_self_eq_true, k_token_Pair_2, k_token_Pair_1, k_token_Pair_0, hp, decide_true, Bool.not_true]
    refine Cf.pu (Is_ok (by omega)) fun u2 => ?_
    cases t2 : isTok v with
    | true => simp (maxSteps := 4000000) only [vm, vl, Arg.get, cells, stor, boundO, resultsV, resV, partK, loadV, Vm.part, fillC, splice, reduceIte, reduceCtorEq, Nat.reduceEqDiff, Nat.reduceAdd, Nat.reduceSub, Nat.reduceMul, Nat.reduceLeDiff, ne_eq, not_false_eq_true, Int.reduceEq, Int.reduceLT, Int.reduceLE, Int.reduceNeg, Int.reduceToNat, Int.reduceGT, Int.reduceGE, Nat.reduceLT, Nat.lt_add_one, Nat.zero_lt_succ, Nat.succ_pos, Nat.zero_le, beq_self_eq_true, k_token_Pair_2, k_token_Pair_1, k_token_Pair_0, pairV]
    | false =>
      simp (maxSteps := 4000000) only [vm, vl, Arg.get, cells, stor, boundO, resultsV, resV, partK, loadV, Vm.part, fillC, splice, reduceIte, reduceCtorEq, Nat.reduceEqDiff, Nat.reduceAdd, Nat.reduceSub, Nat.reduceMul, Nat.reduceLeDiff, ne_eq, not_false_eq_true, Int.reduceEq, Int.reduceLT, Int.reduceLE, Int.reduceNeg, Int.reduceToNat, Int.reduceGT, Int.reduceGE, Nat.reduceLT, Nat.lt_add_one, Nat.zero_lt_succ, Nat.succ_pos, Nat.zero_le, beq_self_eq_true, k_token_Pair_2, k_token_Pair_1, k_token_Pair_0, k_token_Pair_1]
      refine Cf.pu (Unq_ok HU (by omega)) fun u3 => ?_
      cases t3 : (unqP v).2 with
      | false => simp (maxSteps := 4000000) only [vm, vl, Arg.get, cells, stor, boundO, resultsV, resV, partK, loadV, Vm.part, fillC, splice, reduceIte, reduceCtorEq, Nat.reduceEqDiff, Nat.reduceAdd, Nat.reduceSub, Nat.reduceMul, Nat.reduceLeDiff, ne_eq, not_false_eq_true, Int.reduceEq, Int.reduceLT, Int.reduceLE, Int.reduceNeg, Int.reduceToNat, Int.reduceGT, Int.reduceGE, Nat.reduceLT, Nat.lt_add_one, Nat.zero_lt_succ, Nat.succ_pos, Nat.zero_le, beq_self_eq_true, k_token_Pair_2, k_token_Pair_1, k_token_Pair_0, unqV, t3, Bool.not_false, pairV]
      | true => simp (maxSteps := 4000000) only [vm, vl, Arg.get, cells, stor, boundO, resultsV, resV, partK, loadV, Vm.part, fillC, splice, reduceIte, reduceCtorEq, Nat.reduceEqDiff, Nat.reduceAdd, Nat.reduceSub, Nat.reduceMul, Nat.reduceLeDiff, ne_eq, not_false_eq_true, Int.reduceEq, Int.reduceLT, Int.reduceLE, Int.reduceNeg, Int.reduceToNat, Int.reduceGT, Int.reduceGE, Nat.reduceLT, Nat.lt_add_one, Nat.zero_lt_succ, Nat.succ_pos, Nat.zero_le, beq_self_eq_true, k_token_Pair_2, k_token_Pair_1, k_token_Pair_0, unqV, t3, Bool.not_true, pairV, k_token_Pair_2]
end Go.Proofs.YtaahialaegfjgaaDoor.Vh
end
section
set_option linter.unusedVariables false
set_option linter.unusedSimpArgs false
namespace Go.Proofs.YtaahialaegfjgaaDoor.Vh
open Go.Vm Go.Vt
attribute [local congr] wi_congr wg_congr wgd_congr wb_congr wl_congr cf_congr
variable {L : FuncId → List V → V → Prop} {h : Heap}
theorem flat_strs (out : List Bs) : flat (out.map V.str) = out.map V.str := by
  induction out with
  | nil => rfl
  | cons a r ih => simp only [List.map_cons, flat, List.flatMap_cons, cells]; exact congrArg _ ih
theorem app_new {h : Heap} {x : Bs} : appV h 1 16 false .nsl (.sl 1 .full [.str x]) = some (.sl 1 (.tip h.length) [.str x], h ++ [.tip 1]) := rfl
theorem app_tip {h : Heap} {k : Nat} {out : List Bs} {x : Bs} (hb : h[k]? = some (.tip out.length)) (hr : out.length < 8000000000) :
    appV h 1 16 false (.sl 1 (.tip k) (out.map .str)) (.sl 1 .full [.str x]) = some (.sl 1 (.tip k) ((out ++ [x]).map .str), h.set k (.tip (out.length + 1))) := by
  have e1 : (out.map V.str ++ [V.str x]) = (out ++ [x]).map V.str := by simp
  have r : room ((out.map V.str).length + [V.str x].length) 16 = true := by simp [room]; omega
  have i : isTip h k (flat (out.map V.str)).length = true := by rw [flat_strs]; simp [isTip, hb]
  rw [flat_strs] at i
  simp only [appV, srcElems, if_true, Option.bind_some, r, i, Bool.and_self, e1, flat_strs]
  simp
/-- What stands on the heap while Split runs: the text, the list, the place; rows behind. -/
def SplitH (h h' : Heap) (s : Bs) (out : List Bs) (at_ : Int) : Prop :=
  ∃ lv t, h' = h ++ (O.box [.str s] :: .box [lv] :: .box [.int .i64 at_] :: t) ∧ ((out = [] ∧ lv = .nsl) ∨ (out ≠ [] ∧ ∃ j, lv = .sl 1 (.tip (h.length + (j + 3))) (out.map .str) ∧ t[j]? = some (.tip out.length)))
theorem end_ok {s own : Bs} {out : List Bs} {from_ to : Int} {h h' : Heap} (hs : s.length ≤ 8000000000) (h0 : 0 ≤ from_) (h1 : from_ ≤ to) (h2 : to ≤ s.length) (ho : out.length ≤ from_) (ho2 : out.length < 8000000000) (hown : (s.take to.toNat).drop from_.toNat = own)
    (H : SplitH h h' s out from_) {K : V → Heap → Prop} (hK : ∀ h'', SplitH h h'' s (flush out own) (to + 1) → K (.tup []) h'') :
    Cf F L i_token_Split_1 [.int .i64 to, .ptr h.length 0, .ptr (h.length + 2) 0, .ptr (h.length + 1) 0] h' K := by
  obtain ⟨lv, t, rfl, hl⟩ := H
  refine run_token_Split_1 ?_
  simp only [p_token_Split_1]
  have w := wrap64 (x := to + 1) (by omega) (by omega)
  have g1 : 0 ≤ from_ := h0
  have g2 : 0 ≤ to := by omega
  have g3 : from_.toNat ≤ to.toNat := by omega
  have g4 : to.toNat ≤ s.length := by omega
  have g5 : own.length < 9223372036854775807 := by rw [← hown]; simp; omega
  simp (maxSteps := 4000000) only [vm, vl, Arg.get, cells, stor, boundO, resultsV, resV, partK, loadV, Vm.part, fillC, splice, reduceIte, reduceCtorEq, Nat.reduceEqDiff, Nat.reduceAdd, Nat.reduceSub, Nat.reduceMul, Nat.reduceLeDiff, ne_eq, not_false_eq_true, Int.reduceEq, Int.reduceLT, Int.reduceLE, Int.reduceNeg, Int.reduceToNat, Int.reduceGT, Int.reduceGE, Nat.reduceLT, Nat.lt_add_one, Nat.zero_lt_succ, Nat.succ_pos, Nat.zero_le, beq_self_eq_true, k_token_Split_1_0, g1, g2, g3, g4, hown, w]
  refine Cf.pu (Trim_ok g5) fun t' => ?_
  by_cases he : trim own = []
  · have q : (trim own == []) = true := by rw [he]; rfl
    have ef : flush out own = out := by simp [flush, he]
    rw [ef] at hK
    simp (maxSteps := 4000000) only [vm, vl, Arg.get, cells, stor, boundO, resultsV, resV, partK, loadV, Vm.part, fillC, splice, reduceIte, reduceCtorEq, Nat.reduceEqDiff, Nat.reduceAdd, Nat.reduceSub, Nat.reduceMul, Nat.reduceLeDiff, ne_eq, not_false_eq_true, Int.reduceEq, Int.reduceLT, Int.reduceLE, Int.reduceNeg, Int.reduceToNat, Int.reduceGT, Int.reduceGE, Nat.reduceLT, Nat.lt_add_one, Nat.zero_lt_succ, Nat.succ_pos, Nat.zero_le, beq_self_eq_true, k_token_Split_1_0, q, w]
    refine hK _ ⟨lv, t ++ t', by simp, hl.imp_right fun ⟨hne, j, e1, e2⟩ => ⟨hne, j, e1, get_old e2⟩⟩
  · have q : (trim own == []) = false := by simpa using he
    have ef : flush out own = out ++ [trim own] := by simp [flush, he]
    rw [ef] at hK
    rcases hl with ⟨rfl, rfl⟩ | ⟨hne, j, rfl, hj⟩
    · simp (maxSteps := 4000000) only [vm, vl, Arg.get, cells, stor, boundO, resultsV, resV, partK, loadV, Vm.part, fillC, splice, reduceIte, reduceCtorEq, Nat.reduceEqDiff, Nat.reduceAdd, Nat.reduceSub, Nat.reduceMul, Nat.reduceLeDiff, ne_eq, not_false_eq_true, Int.reduceEq, Int.reduceLT, Int.reduceLE, Int.reduceNeg, Int.reduceToNat, Int.reduceGT, Int.reduceGE, Nat.reduceLT, Nat.lt_add_one, Nat.zero_lt_succ, Nat.succ_pos, Nat.zero_le, beq_self_eq_true, k_token_Split_1_0, q, w, app_new]
      refine hK _ ⟨_, t ++ (t' ++ [.tip 1]), rfl, .inr ⟨by simp, t.length + t'.length, ?_, ?_⟩⟩
      · simp [Nat.add_assoc]
      · rw [← List.append_assoc, List.getElem?_append_right (by simp)]
        simp
    · have hj' : (h ++ (O.box [.str s] :: .box [V.sl 1 (.tip (h.length + (j + 3))) (out.map V.str)] :: .box [.int .i64 from_] :: (t ++ t')))[h.length + (j + 3)]? = some (.tip out.length) := by
        rw [get_new]
        simp only [List.getElem?_cons_succ]
        exact get_old hj
      have ha := app_tip (x := trim own) hj' ho2
      simp (maxSteps := 4000000) only [vm, vl, Arg.get, cells, stor, boundO, resultsV, resV, partK, loadV, Vm.part, fillC, splice, reduceIte, reduceCtorEq, Nat.reduceEqDiff, Nat.reduceAdd, Nat.reduceSub, Nat.reduceMul, Nat.reduceLeDiff, ne_eq, not_false_eq_true, Int.reduceEq, Int.reduceLT, Int.reduceLE, Int.reduceNeg, Int.reduceToNat, Int.reduceGT, Int.reduceGE, Nat.reduceLT, Nat.lt_add_one, Nat.zero_lt_succ, Nat.succ_pos, Nat.zero_le, beq_self_eq_true, k_token_Split_1_0, q, w, ha]
      refine hK _ ⟨_, _, rfl, .inr ⟨by simp, j, rfl, ?_⟩⟩
      have hjl : j < (t ++ t').length := by
        have := (List.getElem?_eq_some_iff.1 hj).1
        simp; omega
      rw [List.getElem?_set_self hjl]
      simp
theorem flush_nil (out : List Bs) : flush out [] = out := by simp [flush, trim, trimR, trimL]
theorem splitG_step (c : UInt8) (r own : Bs) (q : Bool) (out : List Bs) : splitG (c :: r) own q out =
    if c = 34 then splitG r (own ++ [c]) (!q) out
    else if (q && c == 92) = true then (match r with | [] => none | d :: r' => splitG r' (own ++ [c, d]) q out)
    else if (!q && c == 44) = true then splitG r [] q (flush out own)
    else splitG r (own ++ [c]) q out := by
  cases r with
  | cons d r => rw [splitG]
  | nil =>
    by_cases h1 : c = 34
    · subst h1; cases q <;> simp [splitG]
    · cases q
      · by_cases h2 : c = 44 <;> simp [splitG, h1, h2, flush_nil]
      · by_cases h2 : c = 92 <;> simp [splitG, h1, h2]
theorem flush_len (out : List Bs) (own : Bs) : (flush out own).length ≤ out.length + 1 := by
  unfold flush; split <;> simp
theorem own_next {s : Bs} {i f : Nat} {c : UInt8} (hf : f ≤ i) (hl : i < s.length) (hd : s.drop i = c :: s.drop (i + 1)) : (s.take (i + 1)).drop f = (s.take i).drop f ++ [c] := by
  rw [take_succ hl hd, List.drop_append_of_le_length (by simp; omega)]
theorem own_none (s : Bs) (i : Nat) : (s.take i).drop i = [] := List.drop_eq_nil_of_le (by simp [List.length_take]; omega)
def fullV (out : List Bs) : V := if out = [] then .nsl else .sl 1 .full (out.map .str)
def splitV : Option (List Bs) → V
  | none => .tup [.nsl, .bool false]
  | some out => .tup [fullV out, .bool true]
theorem slsl_full {out : List Bs} (hne : out ≠ []) {o : Own} : slslV 1 (.sl 1 o (out.map V.str)) 0 (some out.length) (some out.length) = some (.sl 1 .full (out.map V.str)) := by
  have : List.take out.length (out.map V.str) = out.map V.str := List.take_of_length_le (by simp)
  simp [slslV, this]
theorem u34 {c : UInt8} : ((c.toNat : Int) = 34) = (c = 34) := propext ⟨fun h => by
  have : c.toNat = 34 := by omega
  exact UInt8.toNat_inj.1 (by simpa using this), fun h => by subst h; rfl⟩
theorem u92 {c : UInt8} : ((c.toNat : Int) = 92) = (c = 92) := propext ⟨fun h => by
  have : c.toNat = 92 := by omega
  exact UInt8.toNat_inj.1 (by simpa using this), fun h => by subst h; rfl⟩
theorem u44 {c : UInt8} : ((c.toNat : Int) = 44) = (c = 44) := propext ⟨fun h => by
  have : c.toNat = 44 := by omega
  exact UInt8.toNat_inj.1 (by simpa using this), fun h => by subst h; rfl⟩
def SplitI (h : Heap) (s : Bs) (n : Nat) (e : Env) (h' : Heap) : Prop :=
  ∃ (i f : Nat) (q : Bool) (out : List Bs), n = s.length + 1 - i ∧ f ≤ i ∧ f ≤ s.length ∧ out.length ≤ f ∧ SplitH h h' s out f ∧
    e 1 = .ptr h.length 0 ∧ e 4 = .ptr (h.length + 1) 0 ∧ e 6 = .fn i_token_Split_1 [.ptr h.length 0, .ptr (h.length + 2) 0, .ptr (h.length + 1) 0] ∧ e 7 = .bool q ∧ e 8 = .int .i64 i ∧
    ((i ≤ s.length ∧ split s = splitG (s.drop i) ((s.take i).drop f) q out) ∨ (i = s.length + 1 ∧ q = true ∧ split s = none))
theorem Split_ok {s : Bs} (hs : s.length < 8000000000) : Cf F L i_token_Split [.str s] h (Pu h (splitV (split s))) := by
  refine run_token_Split ?_
  simp only [p_token_Split]
  simp (maxSteps := 4000000) only [vm, vl, Arg.get, cells, stor, boundO, resultsV, resV, partK, loadV, Vm.part, fillC, splice, reduceIte, reduceCtorEq, Nat.reduceEqDiff, Nat.reduceAdd, Nat.reduceSub, Nat.reduceMul, Nat.reduceLeDiff, ne_eq, not_false_eq_true, Int.reduceEq, Int.reduceLT, Int.reduceLE, Int.reduceNeg, Int.reduceToNat, Int.reduceGT, Int.reduceGE, Nat.reduceLT, Nat.lt_add_one, Nat.zero_lt_succ, Nat.succ_pos, Nat.zero_le, beq_self_eq_true, k_token_Split_1, k_token_Split_0, k_token_Split_3, k_token_Split_2]
  refine l_token_Split_0 (SplitI h s) ?_ (n := s.length + 1) ⟨0, 0, false, [], by simp, by simp, by simp, by simp, ⟨_, _, rfl, .inl ⟨rfl, rfl⟩⟩, rfl, rfl, rfl, rfl, rfl, .inl ⟨by simp, by simp [split]⟩⟩
  rintro n e h' ⟨i, f, q, out, rfl, hf, hfs, hol, H, e1, e4, e6, e7, e8, hst⟩
  simp only [b_token_Split_0]
  have hb1 : h'[h.length]? = some (.box [.str s]) := by
    obtain ⟨lv, t, rfl, _⟩ := H
    rw [get_new0]; rfl
  rcases hst with ⟨hi, hsp⟩ | ⟨rfl, rfl, hsp⟩
  · rcases str_at hi with ⟨hn, rfl, hd⟩ | ⟨c, hl, hl', hc, hd⟩
    · cases q with
      | true =>
        have : split s = none := by rw [hsp, hd]; rfl
        simp (maxSteps := 4000000) only [vm, vl, Arg.get, cells, stor, boundO, resultsV, resV, partK, loadV, Vm.part, fillC, splice, reduceIte, reduceCtorEq, Nat.reduceEqDiff, Nat.reduceAdd, Nat.reduceSub, Nat.reduceMul, Nat.reduceLeDiff, ne_eq, not_false_eq_true, Int.reduceEq, Int.reduceLT, Int.reduceLE, Int.reduceNeg, Int.reduceToNat, Int.reduceGT, Int.reduceGE, Nat.reduceLT, Nat.lt_add_one, Nat.zero_lt_succ, Nat.succ_pos, Nat.zero_le, beq_self_eq_true, k_token_Split_1, k_token_Split_0, k_token_Split_3, k_token_Split_2, e1, e4, e6, e7, e8, hb1, hn]
        rw [this]; exact ⟨rfl, by obtain ⟨lv, t, rfl, _⟩ := H; exact ⟨_, rfl⟩⟩
      | false =>
        have hres : split s = some (flush out ((s.take s.length).drop f)) := by rw [hsp, hd]; rfl
        simp (maxSteps := 4000000) only [vm, vl, Arg.get, cells, stor, boundO, resultsV, resV, partK, loadV, Vm.part, fillC, splice, reduceIte, reduceCtorEq, Nat.reduceEqDiff, Nat.reduceAdd, Nat.reduceSub, Nat.reduceMul, Nat.reduceLeDiff, ne_eq, not_false_eq_true, Int.reduceEq, Int.reduceLT, Int.reduceLE, Int.reduceNeg, Int.reduceToNat, Int.reduceGT, Int.reduceGE, Nat.reduceLT, Nat.lt_add_one, Nat.zero_lt_succ, Nat.succ_pos, Nat.zero_le, beq_self_eq_true, k_token_Split_1, k_token_Split_0, k_token_Split_3, k_token_Split_2, e1, e4, e6, e7, e8, hb1, hn]
        refine end_ok (own := (s.take s.length).drop f) (from_ := f) (by omega) (by omega) (by omega) (by omega) (by omega) (by omega) (by simp) H fun h'' H'' => ?_
        rw [hres]
        generalize flush out ((s.take s.length).drop f) = fo at *
        obtain ⟨lv, t, rfl, hlv⟩ := H''
        rcases hlv with ⟨rfl, rfl⟩ | ⟨hne, j, rfl, hj⟩
        · have e0 : slslV 1 V.nsl 0 (some 0) (some 0) = some .nsl := rfl
          simp (maxSteps := 4000000) only [vm, vl, Arg.get, cells, stor, boundO, resultsV, resV, partK, loadV, Vm.part, fillC, splice, reduceIte, reduceCtorEq, Nat.reduceEqDiff, Nat.reduceAdd, Nat.reduceSub, Nat.reduceMul, Nat.reduceLeDiff, ne_eq, not_false_eq_true, Int.reduceEq, Int.reduceLT, Int.reduceLE, Int.reduceNeg, Int.reduceToNat, Int.reduceGT, Int.reduceGE, Nat.reduceLT, Nat.lt_add_one, Nat.zero_lt_succ, Nat.succ_pos, Nat.zero_le, beq_self_eq_true, k_token_Split_1, k_token_Split_0, k_token_Split_3, k_token_Split_2, e0]
          rfl
        · have e0 := slsl_full hne (o := .tip (h.length + (j + 3)))
          simp (maxSteps := 4000000) only [vm, vl, Arg.get, cells, stor, boundO, resultsV, resV, partK, loadV, Vm.part, fillC, splice, reduceIte, reduceCtorEq, Nat.reduceEqDiff, Nat.reduceAdd, Nat.reduceSub, Nat.reduceMul, Nat.reduceLeDiff, ne_eq, not_false_eq_true, Int.reduceEq, Int.reduceLT, Int.reduceLE, Int.reduceNeg, Int.reduceToNat, Int.reduceGT, Int.reduceGE, Nat.reduceLT, Nat.lt_add_one, Nat.zero_lt_succ, Nat.succ_pos, Nat.zero_le, beq_self_eq_true, k_token_Split_1, k_token_Split_0, k_token_Split_3, k_token_Split_2, e0]
          simp [splitV, fullV, hne]
    · have w := wrap64 (x := (i : Int) + 1) (by omega) (by omega)
      rw [hd, splitG_step] at hsp
      have own1 := own_next hf hl' hd
      have k1 : ¬ (92 : UInt8) = 34 := by decide
      have k2 : ¬ (44 : UInt8) = 34 := by decide
      by_cases c1 : c = 34
      · simp (maxSteps := 4000000) only [vm, vl, Arg.get, cells, stor, boundO, resultsV, resV, partK, loadV, Vm.part, fillC, splice, reduceIte, reduceCtorEq, Nat.reduceEqDiff, Nat.reduceAdd, Nat.reduceSub, Nat.reduceMul, Nat.reduceLeDiff, ne_eq, not_false_eq_true, Int.reduceEq, Int.reduceLT, Int.reduceLE, Int.reduceNeg, Int.reduceToNat, Int.reduceGT, Int.reduceGE, Nat.reduceLT, Nat.lt_add_one, Nat.zero_lt_succ, Nat.succ_pos, Nat.zero_le, beq_self_eq_true, k_token_Split_1, k_token_Split_0, k_token_Split_3, k_token_Split_2, e1, e4, e6, e7, e8, hb1, hl, hl', hc, u34, u92, u44, w, c1]
        refine ⟨s.length + 1 - (i + 1), by omega, i + 1, f, !q, out, rfl, by omega, hfs, hol, H, by simp [upd, e1], by simp [upd, e4], by simp [upd, e6], by simp [upd], by simp [upd], .inl ⟨hl', ?_⟩⟩
        rw [hsp, if_pos c1, own1]
      rw [if_neg c1] at hsp
      cases q with
      | true =>
        by_cases c2 : c = 92
        · have w2 := wrap64 (x := (i : Int) + 1 + 1) (by omega) (by omega)
          simp (maxSteps := 4000000) only [vm, vl, Arg.get, cells, stor, boundO, resultsV, resV, partK, loadV, Vm.part, fillC, splice, reduceIte, reduceCtorEq, Nat.reduceEqDiff, Nat.reduceAdd, Nat.reduceSub, Nat.reduceMul, Nat.reduceLeDiff, ne_eq, not_false_eq_true, Int.reduceEq, Int.reduceLT, Int.reduceLE, Int.reduceNeg, Int.reduceToNat, Int.reduceGT, Int.reduceGE, Nat.reduceLT, Nat.lt_add_one, Nat.zero_lt_succ, Nat.succ_pos, Nat.zero_le, beq_self_eq_true, k_token_Split_1, k_token_Split_0, k_token_Split_3, k_token_Split_2, e1, e4, e6, e7, e8, hb1, hl, hl', hc, u34, u92, u44, w, c1, c2, w2, k1]
          rw [if_pos (by simp [c2])] at hsp
          refine ⟨s.length + 1 - (i + 2), by omega, i + 2, f, true, out, rfl, by omega, hfs, hol, H, by simp [upd, e1], by simp [upd, e4], by simp [upd, e6], by simp [upd, e7], by simp [upd]; omega, ?_⟩
          rcases str_at (s := s) (i := i + 1) (by omega) with ⟨_, hn, hd1⟩ | ⟨d, _, hl1, _, hd1⟩
          · rw [hd1] at hsp
            exact .inr ⟨by omega, rfl, hsp⟩
          · rw [hd1] at hsp
            refine .inl ⟨by omega, ?_⟩
            rw [hsp, own_next (by omega) hl1 hd1, own1]
            simp
        · simp (maxSteps := 4000000) only [vm, vl, Arg.get, cells, stor, boundO, resultsV, resV, partK, loadV, Vm.part, fillC, splice, reduceIte, reduceCtorEq, Nat.reduceEqDiff, Nat.reduceAdd, Nat.reduceSub, Nat.reduceMul, Nat.reduceLeDiff, ne_eq, not_false_eq_true, Int.reduceEq, Int.reduceLT, Int.reduceLE, Int.reduceNeg, Int.reduceToNat, Int.reduceGT, Int.reduceGE, Nat.reduceLT, Nat.lt_add_one, Nat.zero_lt_succ, Nat.succ_pos, Nat.zero_le, beq_self_eq_true, k_token_Split_1, k_token_Split_0, k_token_Split_3, k_token_Split_2, e1, e4, e6, e7, e8, hb1, hl, hl', hc, u34, u92, u44, w, c1, c2]
          rw [if_neg (by simp [c2]), if_neg (by simp)] at hsp
          refine ⟨s.length + 1 - (i + 1), by omega, i + 1, f, true, out, rfl, by omega, hfs, hol, H, by simp [upd, e1], by simp [upd, e4], by simp [upd, e6], by simp [upd, e7], by simp [upd], .inl ⟨hl', ?_⟩⟩
          rw [hsp, own1]
      | false =>
        rw [if_neg (by simp)] at hsp
        by_cases c2 : c = 44
        · rw [if_pos (by simp [c2])] at hsp
          simp (maxSteps := 4000000) only [vm, vl, Arg.get, cells, stor, boundO, resultsV, resV, partK, loadV, Vm.part, fillC, splice, reduceIte, reduceCtorEq, Nat.reduceEqDiff, Nat.reduceAdd, Nat.reduceSub, Nat.reduceMul, Nat.reduceLeDiff, ne_eq, not_false_eq_true, Int.reduceEq, Int.reduceLT, Int.reduceLE, Int.reduceNeg, Int.reduceToNat, Int.reduceGT, Int.reduceGE, Nat.reduceLT, Nat.lt_add_one, Nat.zero_lt_succ, Nat.succ_pos, Nat.zero_le, beq_self_eq_true, k_token_Split_1, k_token_Split_0, k_token_Split_3, k_token_Split_2, e1, e4, e6, e7, e8, hb1, hl, hl', hc, u34, u92, u44, w, c1, c2, k2]
          refine end_ok (own := (s.take i).drop f) (from_ := f) (to := (i : Int)) (by omega) (by omega) (by omega) (by omega) (by omega) (by omega) (by simp) H fun h'' H'' => ?_
          refine ⟨s.length + 1 - (i + 1), by omega, i + 1, i + 1, false, flush out ((s.take i).drop f), rfl, by omega, hl', ?_, by simpa using H'', by simp [upd, e1], by simp [upd, e4], by simp [upd, e6], by simp [upd, e7], by simp [upd], .inl ⟨hl', ?_⟩⟩
          · have := flush_len out ((s.take i).drop f); omega
          · rw [hsp, own_none]
        · rw [if_neg (by simp [c2])] at hsp
          simp (maxSteps := 4000000) only [vm, vl, Arg.get, cells, stor, boundO, resultsV, resV, partK, loadV, Vm.part, fillC, splice, reduceIte, reduceCtorEq, Nat.reduceEqDiff, Nat.reduceAdd, Nat.reduceSub, Nat.reduceMul, Nat.reduceLeDiff, ne_eq, not_false_eq_true, Int.reduceEq, Int.reduceLT, Int.reduceLE, Int.reduceNeg, Int.reduceToNat, Int.reduceGT, Int.reduceGE, Nat.reduceLT, Nat.lt_add_one, Nat.zero_lt_succ, Nat.succ_pos, Nat.zero_le, beq_self_eq_true, k_token_Split_1, k_token_Split_0, k_token_Split_3, k_token_Split_2, e1, e4, e6, e7, e8, hb1, hl, hl', hc, u34, u92, u44, w, c1, c2]
          refine ⟨s.length + 1 - (i + 1), by omega, i + 1, f, false, out, rfl, by omega, hfs, hol, H, by simp [upd, e1], by simp [upd, e4], by simp [upd, e6], by simp [upd, e7], by simp [upd], .inl ⟨hl', ?_⟩⟩
          rw [hsp, own1]
  · have hn : ¬ ((s.length + 1 : Nat) : Int) < s.length := by omega
    simp (maxSteps := 4000000) only [vm, vl, Arg.get, cells, stor, boundO, resultsV, resV, partK, loadV, Vm.part, fillC, splice, reduceIte, reduceCtorEq, Nat.reduceEqDiff, Nat.reduceAdd, Nat.reduceSub, Nat.reduceMul, Nat.reduceLeDiff, ne_eq, not_false_eq_true, Int.reduceEq, Int.reduceLT, Int.reduceLE, Int.reduceNeg, Int.reduceToNat, Int.reduceGT, Int.reduceGE, Nat.reduceLT, Nat.lt_add_one, Nat.zero_lt_succ, Nat.succ_pos, Nat.zero_le, beq_self_eq_true, k_token_Split_1, k_token_Split_0, k_token_Split_3, k_token_Split_2, e1, e4, e6, e7, e8, hb1, hn, hsp]
    exact ⟨rfl, by obtain ⟨lv, t, rfl, _⟩ := H; exact ⟨_, rfl⟩⟩
end Go.Proofs.YtaahialaegfjgaaDoor.Vh
end
section
set_option linter.unusedVariables false
set_option linter.unusedSimpArgs false
namespace Go.Proofs.YtaahialaegfjgaaDoor.Vh
open Go.Vm Go.Vt
/-- Read from its begin to its end, a text leaves the reader of lists outside quotes. -/
def Runs (x : Bs) : Prop := ∀ r own out, splitG (x ++ r) own false out = splitG r (own ++ x) false out
theorem Runs.nil : Runs [] := fun r own out => by simp
theorem Runs.app {a b : Bs} (ha : Runs a) (hb : Runs b) : Runs (a ++ b) := fun r own out => by rw [List.append_assoc, ha, hb, List.append_assoc]
theorem Runs.one {c : UInt8} (h1 : c ≠ 34) (h2 : c ≠ 44) : Runs [c] := fun r own out => by
  rw [List.singleton_append, splitG_step, if_neg h1, if_neg (by simp), if_neg (by simp [h2])]
theorem Runs.tok : ∀ {s : Bs}, s.all tokB = true → Runs s
  | [], _ => Runs.nil
  | c :: r, h => by
    rw [List.all_cons, Bool.and_eq_true] at h
    exact Runs.app (a := [c]) (Runs.one (by rintro rfl; exact absurd h.1 (by decide)) (by rintro rfl; exact absurd h.1 (by decide))) (Runs.tok h.2)
/-- No blanks at its ends, and not empty. -/
def Firm (x : Bs) : Prop := (∃ c r, x = c :: r ∧ blankB c = false) ∧ ∃ r c, x = r ++ [c] ∧ blankB c = false
theorem Firm.trim {x : Bs} (h : Firm x) : trim x = x := by
  obtain ⟨⟨c, r, rfl, h1⟩, r', c', h2, h3⟩ := h
  unfold Vt.trim
  rw [h2, trimR_full h3, ← h2, trimL_full h1]
theorem trim_pre {c : UInt8} {s : Bs} (hc : blankB c = true) : trim (c :: s) = trim s := by
  rw [← trim_comm, ← trim_comm, trimL_blank hc]
theorem trim_suf {c : UInt8} {s : Bs} (hc : blankB c = true) : trim (s ++ [c]) = trim s := by
  unfold trim; rw [trimR_blank hc]
theorem Firm.ne {x : Bs} (h : Firm x) : x ≠ [] := by
  obtain ⟨⟨c, r, rfl, h1⟩, _⟩ := h
  simp
theorem tok_blank (c : UInt8) : tokB c = true → blankB c = false := byte_all (p := fun c => tokB c = true → blankB c = false) (by decide +kernel) c
theorem Firm.tok {s : Bs} (h : isTok s = true) : Firm s := by
  unfold isTok at h
  rw [Bool.and_eq_true] at h
  obtain ⟨h1, h2⟩ := h
  have h2 := List.all_eq_true.1 h2
  constructor
  · cases s with
    | nil => cases h1
    | cons c r => exact ⟨c, r, rfl, tok_blank c (h2 c (by simp))⟩
  · rcases List.eq_nil_or_concat s with rfl | ⟨r, c, rfl⟩
    · cases h1
    · exact ⟨r, c, by simp, tok_blank c (h2 c (by simp))⟩
theorem isTok_all {s : Bs} (h : isTok s = true) : s.all tokB = true := by
  unfold isTok at h; rw [Bool.and_eq_true] at h; exact h.2
/-- A comma ends an element. -/
theorem splitG_comma {r own : Bs} {out : List Bs} : splitG (44 :: r) own false out = splitG r [] false (flush out own) := by
  rw [splitG_step, if_neg (by decide), if_neg (by simp), if_pos (by simp)]
theorem flush_firm {out : List Bs} {x : Bs} (h : Firm x) {p q : Bs} (hp : p = [] ∨ p = [9] ∨ p = [32]) (hq : q = [] ∨ q = [32]) : flush out (p ++ x ++ q) = out ++ [x] := by
  have e : trim (p ++ x ++ q) = x := by
    rcases hq with rfl | rfl
    · rw [List.append_nil]
      rcases hp with rfl | rfl | rfl
      · exact h.trim
      · rw [List.singleton_append, trim_pre rfl, h.trim]
      · rw [List.singleton_append, trim_pre rfl, h.trim]
    · rw [trim_suf rfl]
      rcases hp with rfl | rfl | rfl
      · exact h.trim
      · rw [List.singleton_append, trim_pre rfl, h.trim]
      · rw [List.singleton_append, trim_pre rfl, h.trim]
  unfold flush
  rw [e, if_neg h.ne]
end Go.Proofs.YtaahialaegfjgaaDoor.Vh
end
