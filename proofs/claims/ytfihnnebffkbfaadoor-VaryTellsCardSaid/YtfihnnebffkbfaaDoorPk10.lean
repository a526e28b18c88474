/- Several texts in one: VJoin, VItoa, VKeyB, VKey, VKey2, VKeyL, VVaryP, VVary, VSplit, VSplit3, VSplitN, VNamesE, VSortL, VVNames, VVOrdP, VVRNamP, VVRNam, VVRNam2, VVRKey, VVOrd, VVTel. -/
import Derived.Test.YtfihnnebffkbfaaDoorPk6
import Derived.Test.YtfihnnebffkbfaaDoorPk7
import Derived.Test.YtfihnnebffkbfaaDoorPk9
import Derived.Test.YtfihnnebffkbfaaDoorPk3
import Derived.Lib.ItoaNum
import Derived.Lib.AppendIntMem
import Derived.Test.YtfihnnebffkbfaaDoorProg
import Derived.WalkKit
import Derived.LoopTactic
import Derived.Lib.Hide
import Derived.Lib.Builder
import Derived.Lib.AppendStr
import Derived.Lib.UnsafeStr
import Derived.Lib.Walk
import Derived.Lib.Slices
import Derived.Laws.Externs
import Derived.Test.YtfihnnebffkbfaaDoorPk8
import Derived.Lib.ItoaLen
import Derived.Test.YtfihnnebffkbfaaDoorPk4
import Derived.Test.YtfihnnebffkbfaaDoorPk5
import Derived.Sort.Walk0
section
set_option linter.unusedVariables false
set_option linter.unusedSimpArgs false
namespace Go.Proofs.YtfihnnebffkbfaaDoor.Vh
open Go.Vm Go.Vt
theorem rv_texts {B : Nat} {G : Gh} {w : World} {x : V} {l : List Bs} {v : Value} (hx : ListV 1 x (strs l)) (h : Rv B G w x v) : (l = [] ∧ ∃ a cap, v = .slice a 0 cap) ∨ (l ≠ [] ∧ ∃ b o cap, v = .slice (some ⟨b, o, none⟩) l.length cap ∧ l.length ≤ cap ∧ ∀ (j : Nat) s, l[j]? = some s → w.cell? ⟨b, o + j, none⟩ = some (.string ⟨s.toArray⟩)) := by
  rcases hx with ⟨he, rfl⟩ | ⟨own, rfl⟩
  · have : l = [] := by simpa [strs] using he
    subst this
    cases h
    exact .inl ⟨rfl, _, _, rfl⟩
  · generalize he : strs l = es at h
    cases h with
    | sl vs hsz hsp hcap hc h1 hr hfull htip =>
      rename_i a cap
      subst he
      rcases List.eq_nil_or_concat l with rfl | hcc
      · exact .inl ⟨rfl, _, _, rfl⟩
      · have hne : l ≠ [] := by rintro rfl; obtain ⟨l', b, h⟩ := hcc; simp at h
        have ha := hsp (by simpa [strs] using hne)
        have hf : flat (strs l) = strs l := flat_ones (by intro e he; obtain ⟨s, _, rfl⟩ := List.mem_map.1 he; rfl)
        obtain ⟨ab, ao, asp⟩ := a
        simp only at ha; subst ha
        refine .inr ⟨hne, ab, ao, cap, by rw [strs_len], by rwa [strs_len] at hcap, fun j s hj => ?_⟩
        have hjl := (List.getElem?_eq_some_iff.1 hj).1
        have h2 := (hc j (by rw [hf, strs_len]; exact hjl)).2
        have h3 := hr j (.str s) (by rw [hf]; simp [strs, hj])
        simp only at h2
        generalize hv : vs j = vj at h2 h3
        cases h3
        exact h2
def LJoin : FuncId → List V → V → Prop := fun f args v => f = i_strings_Join ∧ ∃ (x : V) (l : List Bs), ListV 1 x (strs l) ∧ l.length ≤ 140737488355328 ∧ (joinS l).length ≤ 140737488355328 ∧ args = [x, .str [44, 32]] ∧ v = .str (joinS l)
theorem join_at (w0 : World) : LibAt Tryd.prog w0 LJoin := by
  rintro f args v ⟨rfl, x, l, hx, hl, hj, rfl, rfl⟩
  refine ⟨by kernel_rfl, good_below fun B G h w vs hr hb hv => ?_⟩
  obtain ⟨a, b, rfl, ha, hs⟩ := rvs_two hv
  cases hs
  rcases rv_texts hx ha with ⟨rfl, a', cap, rfl⟩ | ⟨hne, bk, o, cap, rfl, hcap, hc⟩
  · refine (Tryd.strings_Join_none a' cap _ w).mono fun e w' ⟨h1, h2⟩ => ?_
    subst h2
    exact ⟨_, h1, .str [], Go.RowKit.Below.refl ..⟩
  · have hlt : bk < w.heap.size := by
      obtain ⟨s, hs⟩ : ∃ s, l[0]? = some s := by
        cases l with
        | nil => exact absurd rfl hne
        | cons s _ => exact ⟨s, rfl⟩
      exact World.block_lt_of_cell? w _ (hc 0 s hs)
    have hm : (l.map fun s : Bs => (⟨s.toArray⟩ : ByteArray)).map (fun x => x.data.toList) = l := by rw [List.map_map]; exact List.map_id' l
    have := Tryd.strings_Join bk o cap (l.map fun s => ⟨s.toArray⟩) ⟨[44, 32].toArray⟩ w (by
        intro j x hx
        rw [List.getElem?_map] at hx
        obtain ⟨s, h1, rfl⟩ := Option.map_eq_some_iff.1 hx
        exact hc j s h1) hlt (by simpa using hl) (by simpa using hcap) (by rw [hm]; exact hj)
    rw [hm, List.length_map] at this
    exact this.mono fun e w' ⟨h1, h2⟩ => ⟨_, h1, .str _, h2⟩
theorem joinOk {L : FuncId → List V → V → Prop} (hL : ∀ f a v, LJoin f a v → L f a v) : JoinOk L := by
  intro x l h hx hl hj
  exact wlib (hL _ _ _ ⟨rfl, x, l, hx, by omega, hj, rfl, rfl⟩) ⟨rfl, [], by simp⟩
end Go.Proofs.YtfihnnebffkbfaaDoor.Vh
end
section
set_option linter.unusedVariables false
set_option linter.unusedSimpArgs false
namespace Go.Proofs.YtfihnnebffkbfaaDoor.Vh
open Go.Vm
abbrev TabAt (w : World) : Prop := Lib.TabIs Tryd.prog w "internal/strconv.uint64pow10" .u64 Lib.pow10Tab
end Go.Proofs.YtfihnnebffkbfaaDoor.Vh
end
section
set_option linter.unusedVariables false
set_option linter.unusedSimpArgs false
namespace Go.Proofs.YtfihnnebffkbfaaDoor.Kq
open Go.RowKit
abbrev tB : TypeId := 44
abbrev tU : TypeId := 5
theorem sizeB : (Tryd.prog.info? tB).map (·.size) = some 2 := by kernel_rfl
theorem liesB : liesAt Tryd.prog Tryd.prog.depth tB (2 / Tryd.prog.cellsOf tB) 0 tB 1 = true := by kernel_rfl
theorem infoU : (Tryd.prog.info? tU).map (fun i => (i.zero, i.size, i.bytes)) = some (some (.int .u8 0), 1, 1) := by kernel_rfl
theorem ne_BU : tB ≠ tU := by decide
theorem uP : Tryd.prog.underlying 41 = some (.pointer tB) := by kernel_rfl
theorem uUns : Tryd.prog.underlying 62 = some .unsafePointer := by kernel_rfl
theorem uStr : Tryd.prog.underlying 9 = some .string := by kernel_rfl
theorem uSl : Tryd.prog.underlying 42 = some (.slice tU) := by kernel_rfl
set_option maxHeartbeats 1000000 in
set_option maxRecDepth 100000 in
theorem copy_used (b : Nat) (w : World) (h0 : w.cell? ⟨b, 0, none⟩ = some (.pointer (some ⟨b, 0, none⟩))) :
    Calls Tryd.prog 27 #[.pointer (some ⟨b, 0, none⟩)] w fun e w' => e = .returned (.tuple #[]) ∧ w' = w := by
  obtain ⟨j, hj, _⟩ := Option.map_eq_some_iff.1 sizeB
  go_enter Tryd.func27, Tryd.ntmps27
  go_wp2
  rw [Lib.run_neq_ptr_same w _ uP hj]
  go_wp2
  go_end0
  exact ⟨rfl, rfl⟩
set_option maxHeartbeats 1000000 in
set_option maxRecDepth 100000 in
theorem copy_fresh (b : Nat) (w : World) (h0 : w.cell? ⟨b, 0, none⟩ = some (.pointer none)) (hsh : w.shape? b = some (tB, 2)) (hfz : w.frozen? ⟨b, 0, none⟩ = false) :
    Calls Tryd.prog 27 #[.pointer (some ⟨b, 0, none⟩)] w fun e w' => e = .returned (.tuple #[]) ∧ w' = w.setCell ⟨b, 0, none⟩ (.pointer (some ⟨b, 0, none⟩)) := by
  obtain ⟨j, hj, hjs⟩ := Option.map_eq_some_iff.1 sizeB
  go_enter Tryd.func27, Tryd.ntmps27
  go_wp2
  rw [Lib.run_to_unsafe w ⟨b, 0, none⟩ uP uUns hj (by rw [hjs]; decide) hsh (Nat.zero_lt_succ 1)]
  simp only [Result.andThen]
  rw [Oper.upon_value]
  go_wp2
  rw [run_callFunc_extern Tryd.func37 (by kernel_rfl) (by kernel_rfl) (by kernel_rfl) (e := Extern.AbiNoEscape.same) (by kernel_rfl)]
  rw [Lib.run_noEscape]
  simp only [Result.andThen]
  rw [Oper.upon_value]
  go_wp2
  rw [Lib.run_from_unsafe w ⟨b, 0, none⟩ uUns uP hj hsh liesB]
  simp only [Result.andThen]
  rw [Oper.upon_value]
  go_wp2
  go_end0
  exact ⟨rfl, rfl⟩
theorem copy_any (B b : Nat) (bs : List Value) (w : World) (h : Lib.IsBuilder tB tU B b bs w) :
    Calls Tryd.prog 27 #[.pointer (some ⟨b, 0, none⟩)] w fun e w' => e = .returned (.tuple #[]) ∧ (Lib.BuilderAt tB tU B b (.pointer (some ⟨b, 0, none⟩)) bs w' ∧ Below B w w') := by
  rcases h with h | h
  · exact (copy_fresh b w h.cell0 h.shape h.frozen0).mono fun e w' ⟨h1, h2⟩ => ⟨h1, by subst h2; exact ⟨h.used _, (Below.refl B w).setCell (p := ⟨b, 0, none⟩) h.1 _⟩⟩
  · exact (copy_used b w h.cell0).mono fun e w' ⟨h1, h2⟩ => ⟨h1, by subst h2; exact ⟨h, Below.refl B _⟩⟩
set_option maxHeartbeats 2000000 in
set_option maxRecDepth 100000 in
theorem write_str (B b : Nat) (bs : List Value) (s : ByteArray) (w : World) (h : Lib.IsBuilder tB tU B b bs w) (hlen : bs.length + s.size ≤ 140737488355328) (hBw : B ≤ w.heap.size) :
    Calls Tryd.prog 18 #[.pointer (some ⟨b, 0, none⟩), .string s] w fun e w' => e = .returned (.tuple #[.int .i64 s.size, .nilIface]) ∧ (Lib.BuilderAt tB tU B b (.pointer (some ⟨b, 0, none⟩)) (bs ++ Lib.strCells s) w' ∧ Below B w w') := by
  obtain ⟨i0, hi, hz0, hz1, hz2⟩ := info_parts infoU
  go_enter Tryd.func18, Tryd.ntmps18
  go_wp2_with (go_at_call 27; refine (copy_any B b bs _ h).mono ?_)
  rintro e w1 ⟨rfl, h1, hb1⟩
  obtain ⟨hB, v, hbk, hown, hne⟩ := h1
  have c0 : w1.cell? ⟨b, 0, none⟩ = some (.pointer (some ⟨b, 0, none⟩)) := by rw [Lib.cell_of_heap hbk]; rfl
  have c1 : w1.cell? ⟨b, 1, none⟩ = some v := by rw [Lib.cell_of_heap hbk]; rfl
  go_wp2_with (at_builtin; refine Lib.wpList_append_own_string _ rfl _ _ 42 9 rfl B tU i0 uSl uStr hi hz0 hz1 hz2 _ _ _ rfl hown s rfl ?c3 ?c4 ?c5 ?_)
  case c3 => unfold maxLen; omega
  case c4 => omega
  case c5 => have := hb1.size; omega
  intro v' w2 hown' hgrow _
  have hlt : b < w1.heap.size := Lib.BuilderAt.lt ⟨hB, v, hbk, hown, hne⟩
  have hb2 : w2.heap[b]? = some (.cells #[.pointer (some ⟨b, 0, none⟩), v] tB (0, 0)) := by
    rw [hgrow.block b hlt (fun e => hne e.symm)]
    exact hbk
  have d0 : w2.cell? ⟨b, 0, none⟩ = some (.pointer (some ⟨b, 0, none⟩)) := by rw [Lib.cell_of_heap hb2]; rfl
  have d1 : w2.cell? ⟨b, 1, none⟩ = some v := by rw [Lib.cell_of_heap hb2]; rfl
  have f1 : w2.frozen? ⟨b, 1, none⟩ = false := Lib.frozen_of_heap hb2 1
  obtain ⟨ao, n', cap, rfl⟩ : ∃ ao n' cap, v' = .slice ao n' cap := by
    rcases hown'.2 with ⟨hv, _⟩ | ⟨g, cap, cur, hv, _⟩
    · exact ⟨_, _, _, hv⟩
    · exact ⟨_, _, _, hv⟩
  go_wp2
  go_ret2
  refine ⟨rfl, ?_, ?_⟩
  · exact Lib.BuilderAt.put hB hb2 (bs' := bs ++ Lib.strCells s) (by simpa [Lib.strCells_length] using hown') ne_BU
  · exact (hb1.grown hgrow (by have := hb1.size; omega) (fun k hk => (hown.lt k hk).1)).setCell (p := ⟨b, 1, none⟩) hB _
end Go.Proofs.YtfihnnebffkbfaaDoor.Kq
end
section
set_option linter.unusedVariables false
set_option linter.unusedSimpArgs false
namespace Go.Proofs.YtfihnnebffkbfaaDoor.Kq
open Go.RowKit
/-- Of a name: its value, and how many fields there are. -/
def part (name v : List UInt8) (n : Nat) : List UInt8 := name ++ [58] ++ (if n = 0 then [45, 44] else Lib.itoa v.length ++ [58] ++ v ++ [44])
theorem isB_below {B b : Nat} {bs : List Value} {w w' : World} (h : Lib.IsBuilder tB tU B b bs w) (hb : Below w.heap.size w w') : Lib.IsBuilder tB tU B b bs w' := by
  have k : ∀ p, Lib.BuilderAt tB tU B b p bs w → Lib.BuilderAt tB tU B b p bs w' := by
    intro p h
    have hlt := h.lt
    obtain ⟨hB, v, hbk, hown, hne⟩ := h
    exact ⟨hB, v, by rw [hb.block b hlt]; exact hbk, hown.kept (row := none) ⟨hb.os, hb.tape, hb.output, hb.size, fun k hk _ => hb.block k hk⟩ (by cases hv : v.ownBlock <;> simp), hne⟩
  exact h.imp (k _) (k _)
theorem cat (a b : List UInt8) : (⟨a.toArray⟩ : ByteArray) ++ ⟨b.toArray⟩ = ⟨(a ++ b).toArray⟩ := by
  apply ByteArray.ext
  simp [ByteArray.data_append]
theorem sc_arr (l : List UInt8) : Lib.strCells ⟨l.toArray⟩ = Lib.byteCells l := rfl
theorem isB_at {B b : Nat} {bs : List Value} {w : World} (h : Lib.BuilderAt tB tU B b (.pointer (some ⟨b, 0, none⟩)) bs w) : Lib.IsBuilder tB tU B b bs w := .inr h
theorem write_l (B b : Nat) (bs : List Value) (l : List UInt8) (w : World) (h : Lib.IsBuilder tB tU B b bs w) (hlen : bs.length + l.length ≤ 140737488355328) (hBw : B ≤ w.heap.size) :
    Calls Tryd.prog 18 #[.pointer (some ⟨b, 0, none⟩), .string ⟨l.toArray⟩] w fun e w' => e = .returned (.tuple #[.int .i64 l.length, .nilIface]) ∧ (Lib.BuilderAt tB tU B b (.pointer (some ⟨b, 0, none⟩)) (bs ++ Lib.byteCells l) w' ∧ Below B w w') :=
  write_str B b bs ⟨l.toArray⟩ w h (by show bs.length + l.toArray.size ≤ _; simpa using hlen) hBw
set_option maxHeartbeats 2000000 in
set_option maxRecDepth 100000 in
theorem key1_calls (b b0 : Nat) (hlt : b0 < b) (bs name v : List UInt8) (n : Nat) (vl : Value) (w : World) (h : Lib.IsBuilder tB tU b b (Lib.byteCells bs) w) (hl : w.cell? ⟨b0, 0, none⟩ = some vl)
    (hget : ∀ w', Below b w w' → Calls Tryd.prog 19 #[vl, .string ⟨name.toArray⟩] w' fun e w'' => e = .returned (.tuple #[.string ⟨v.toArray⟩, .int .i64 n]) ∧ Below w'.heap.size w' w'')
    (hitoa : ∀ w', Below b w w' → Calls Tryd.prog 20 #[.int .i64 v.length] w' fun e w'' => e = .returned (.string ⟨(Lib.itoa v.length).toArray⟩) ∧ Below w'.heap.size w' w'')
    (hlen : bs.length + name.length + v.length + 100 ≤ 140737488355328) (hit : (Lib.itoa v.length).length ≤ 21) (hbw : b ≤ w.heap.size) :
    Calls Tryd.prog 17 #[.string ⟨name.toArray⟩, .pointer (some ⟨b, 0, none⟩), .pointer (some ⟨b0, 0, none⟩)] w fun e w' => e = .returned (.tuple #[]) ∧ Lib.IsBuilder tB tU b b (Lib.byteCells (bs ++ part name v n)) w' ∧ Below b w w' := by
  go_enter Tryd.func17, Tryd.ntmps17
  have e1 : (⟨name.toArray⟩ : ByteArray) ++ ⟨#[58]⟩ = ⟨(name ++ [58]).toArray⟩ := cat name [58]
  have hW1 := Lib.hid (write_str b b _ ((⟨name.toArray⟩ : ByteArray) ++ ⟨#[58]⟩) w h (by rw [Lib.byteCells_length, e1]; show bs.length + (name ++ [58]).toArray.size ≤ _; simp; omega) hbw)
  go_wp2_with (go_at_call 18; refine hW1.out.mono ?_)
  rintro e w1 ⟨rfl, h1, hb1⟩
  rw [e1, sc_arr, ← Lib.byteCells_append] at h1
  have hl1 : w1.cell? ⟨b0, 0, none⟩ = some vl := (hb1.cell hlt).trans hl
  have hG := Lib.hid (hget w1 hb1)
  go_wp2_with (go_at_call 19; refine hG.out.mono ?_)
  rintro e w2 ⟨rfl, hb2⟩
  have h2 := isB_below (isB_at h1) hb2
  have hb12 : Below b w w2 := hb1.trans (hb2.mono (Nat.le_trans hbw hb1.size))
  have hb2w : b ≤ w2.heap.size := Nat.le_trans hbw hb12.size
  have hW2 := fun (l : List UInt8) (hs : l.length ≤ v.length + 50) => Lib.hid (write_str b b _ ⟨l.toArray⟩ w2 h2 (by rw [Lib.byteCells_length]; show (bs ++ (name ++ [58])).length + l.toArray.size ≤ 140737488355328; simp only [List.size_toArray, List.length_append, List.length_cons, List.length_nil]; omega) hb2w)
  have HB := Lib.hid hb12
  have HX := Lib.hid h2
  clear h h1 h2 hb1 hb2 hG hget
  by_cases hn : n = 0
  · subst hn
    have hW2 := hW2 [45, 44] (by simp)
    go_wp2_with (go_at_call 18; refine hW2.out.mono ?_)
    rintro e w3 ⟨rfl, h3, hb3⟩
    rw [sc_arr, ← Lib.byteCells_append] at h3
    go_wp2
    refine bodyPost_ret (results_none rfl _ _ _) rfl ?_
    exact ⟨rfl, .inr (by unfold part; rw [if_pos rfl, ← List.append_assoc]; exact h3), HB.out.trans hb3⟩
  · have hn' : ¬ (n : Int) = 0 := by omega
    have hI := Lib.hid (hitoa w2 HB.out)
    go_wp2_with (go_at_call 20; refine hI.out.mono ?_)
    rintro e w3 ⟨rfl, hb3⟩
    have e2 : (((⟨(Lib.itoa v.length).toArray⟩ : ByteArray) ++ ⟨#[58]⟩) ++ ⟨v.toArray⟩) ++ ⟨#[44]⟩ = ⟨(Lib.itoa v.length ++ [58] ++ v ++ [44]).toArray⟩ := by
      have a1 := cat (Lib.itoa v.length) [58]
      have a2 := cat (Lib.itoa v.length ++ [58]) v
      have a3 := cat (Lib.itoa v.length ++ [58] ++ v) [44]
      rw [← a3, ← a2, ← a1]
    have hRl : (Lib.itoa v.length ++ [58] ++ v ++ [44]).length ≤ v.length + 23 := by simp only [List.length_append, List.length_cons, List.length_nil]; omega
    have HP : part name v n = name ++ [58] ++ (Lib.itoa v.length ++ [58] ++ v ++ [44]) := by unfold part; rw [if_neg hn]
    generalize Lib.itoa v.length ++ [58] ++ v ++ [44] = R at *
    have h2 := HX.out
    have h3 := isB_below h2 hb3
    have hb23 : Below b w w3 := HB.out.trans (hb3.mono hb2w)
    have hW3 := Lib.hid (write_l b b _ R w3 h3 (by rw [Lib.byteCells_length]; simp only [List.length_append, List.length_cons, List.length_nil]; omega) (Nat.le_trans hb2w hb3.size))
    have HB3 := Lib.hid hb23
    clear h2 h3 hb23 hb3 HX
    go_wp2_with (go_at_call 18; refine hW3.out.mono ?_)
    rintro e w4 ⟨rfl, h4, hb4⟩
    rw [← Lib.byteCells_append] at h4
    go_wp2
    go_end0
    exact ⟨rfl, .inr (by rw [HP, ← List.append_assoc]; exact h4), HB3.out.trans hb4⟩
end Go.Proofs.YtfihnnebffkbfaaDoor.Kq
end
section
set_option linter.unusedVariables false
set_option linter.unusedSimpArgs false
namespace Go.Proofs.YtfihnnebffkbfaaDoor.Kq
open Go.RowKit
def keyG (g : List UInt8 → List UInt8 × Nat) : List (List UInt8) → List UInt8
  | [] => []
  | x :: r => part x (g x).1 (g x).2 ++ keyG g r
theorem keyG_app (g : List UInt8 → List UInt8 × Nat) : ∀ a b, keyG g (a ++ b) = keyG g a ++ keyG g b
  | [], b => rfl
  | x :: r, b => by simp [keyG, keyG_app g r b]
def KeyI (g : List UInt8 → List UInt8 × Nat) (names : List (List UInt8)) (b : Nat) (w : World) (v12 : Value) (w' : World) : Prop :=
  ∃ k : Nat, k ≤ names.length ∧ v12 = .int .i64 k ∧ Lib.IsBuilder tB tU b b (Lib.byteCells (keyG g (names.take k))) w' ∧ Below b w w'
set_option maxHeartbeats 2000000 in
set_option maxRecDepth 100000 in
theorem key_calls (names : List (List UInt8)) (g : List UInt8 → List UInt8 × Nat) (blk off cap : Nat) (p lp : Option Addr) (ln lc : Nat) (w : World) (hp : 0 < names.length → p = some ⟨blk, off, none⟩ ∧ blk < w.heap.size)
    (hc : ∀ i (hi : i < names.length), w.cell? ⟨blk, off + i, none⟩ = some (.string ⟨names[i].toArray⟩))
    (hget : ∀ i (hi : i < names.length) w', Below w.heap.size w w' → Calls Tryd.prog 19 #[.slice lp ln lc, .string ⟨names[i].toArray⟩] w' fun e w'' => e = .returned (.tuple #[.string ⟨(g names[i]).1.toArray⟩, .int .i64 (g names[i]).2]) ∧ Below w'.heap.size w' w'')
    (hitoa : ∀ (n : Nat), n ≤ 140737488355328 → ∀ w', Below w.heap.size w w' → Calls Tryd.prog 20 #[.int .i64 n] w' fun e w'' => e = .returned (.string ⟨(Lib.itoa n).toArray⟩) ∧ Below w'.heap.size w' w'')
    (hit : ∀ n : Nat, n ≤ 140737488355328 → (Lib.itoa n).length ≤ 21)
    (hlen : ∀ i (hi : i < names.length), (keyG g (names.take i)).length + names[i].length + (g names[i]).1.length + 100 ≤ 140737488355328) (hnl : names.length ≤ 140737488355328) :
    Calls Tryd.prog 11 #[.slice p names.length cap, .slice lp ln lc] w fun e w' => e = .returned (.string ⟨(keyG g names).toArray⟩) ∧ Below w.heap.size w w' := by
  have HC := Lib.hid hc
  have HG := Lib.hid hget
  have HI := Lib.hid hitoa
  have HT := Lib.hid hit
  have HL := Lib.hid hlen
  have HP := Lib.hid hp
  clear hc hget hitoa hit hlen hp
  go_enter Tryd.func11, Tryd.ntmps11
  have hs1 : (w.alloc (.cells #[.slice lp ln lc] 23)).heap.size = w.heap.size + 1 := Array.size_push ..
  have hB := Lib.hid (Lib.fresh_isBuilder tB tU (w.alloc (.cells #[.slice lp ln lc] 23)))
  have hc0 := Lib.hid (show (w.alloc (.cells #[.slice lp ln lc] 23)).cell? ⟨w.heap.size, 0, none⟩ = some (.slice lp ln lc) from by rw [Lib.cell_of_heap (heap_alloc_new w _)]; rfl)
  have hb1 := Lib.hid ((Below.refl w.heap.size w).alloc (Nat.le_refl _) (.cells #[.slice lp ln lc] 23))
  have hb2 := Lib.hid ((Below.refl (w.heap.size + 1) (w.alloc (.cells #[.slice lp ln lc] 23))).alloc (Nat.le_of_eq hs1.symm) (.cells #[.pointer none, .slice none 0 0] tB))
  go_wp2
  rw [hs1] at hB
  generalize hw1 : w.alloc (.cells #[.slice lp ln lc] 23) = w1 at *
  generalize hw2 : w1.alloc (.cells #[.pointer none, .slice none 0 0] tB) = w2 at *
  clear hw1 hw2
  generalize hb : w.heap.size + 1 = b at *
  have hnl' := Lib.hid hnl
  go_loopw [8, 12] (fun _ v12 w' => KeyI g names b w1 v12 w') (fun _ i _ => names.length - (intOf i).toNat)
  case atStart => exact ⟨0, Nat.zero_le _, rfl, hB.out, hb2.out⟩
  case round =>
    obtain ⟨k, hk, rfl, hI, hbl⟩ := hrel
    have HI2 := Lib.hid hI; have HBL := Lib.hid hbl
    clear hI hbl hB hb2
    have hbw : b ≤ wr.heap.size := Nat.le_trans (by have := hb1.out.size; omega) HBL.out.size
    by_cases hlt : k < names.length
    case neg =>
      have hke : k = names.length := by omega
      rw [hke, List.take_length] at HI2
      have hS := Lib.hid (Tryd.Builder_String_any b b (keyG g names) _ HI2.out hbw)
      have hki : ¬ (k : Int) < (names.length : Int) := by omega
      go_wp2_with (go_at_call 21; refine hS.out.mono ?_)
      intro e w' he hb3
      subst he
      go_wp2
      go_ret
      exact ⟨rfl, hb1.out.trans ((HBL.out.trans hb3).mono (by omega))⟩
    obtain ⟨rfl, hblk⟩ := HP.out (by omega)
    have hW : ∀ w', Below b wr w' → Below w.heap.size w w' := fun w' h => hb1.out.trans ((HBL.out.trans h).mono (by omega))
    have hck : wr.cell? ⟨blk, off + k, none⟩ = some (.string ⟨names[k].toArray⟩) := ((hW wr (Below.refl b wr)).cell (p := ⟨blk, off + k, none⟩) hblk).trans (HC.out k hlt)
    have hl0 : wr.cell? ⟨w.heap.size, 0, none⟩ = some (.slice lp ln lc) := (HBL.out.cell (p := ⟨w.heap.size, 0, none⟩) (by show w.heap.size < b; omega)).trans hc0.out
    have hvl : (g names[k]).1.length ≤ 140737488355328 := by have := HL.out k hlt; omega
    have hK := Lib.hid (key1_calls b w.heap.size (by omega) (keyG g (names.take k)) names[k] (g names[k]).1 (g names[k]).2 (.slice lp ln lc) wr HI2.out hl0 (fun w' h => HG.out k hlt w' (hW w' h)) (fun w' h => HI.out _ hvl w' (hW w' h)) (HL.out k hlt) (HT.out _ hvl) hbw)
    have hki : (k : Int) < (names.length : Int) := by omega
    have hnx : keyG g (names.take k) ++ part names[k] (g names[k]).1 (g names[k]).2 = keyG g (names.take (k + 1)) := by
      rw [List.take_succ_eq_append_getElem hlt, keyG_app]; simp [keyG]
    rw [hnx] at hK
    have HW := Lib.hid hW
    clear hW hl0 hvl hnx HI2 HC HG HI HT HL
    go_wp2_with (go_at_call 17; refine hK.out.mono ?_)
    intro e w' he h3 hb3
    subst he
    go_wp2
    go_roundw
    case rel => exact ⟨k + 1, hlt, rfl, h3, HBL.out.trans hb3⟩
    case measure => simp [intOf]; omega
end Go.Proofs.YtfihnnebffkbfaaDoor.Kq
end
section
set_option linter.unusedVariables false
set_option linter.unusedSimpArgs false
namespace Go.Proofs.YtfihnnebffkbfaaDoor.Vh
open Go.Vm Go.Vt
variable {L : FuncId → List V → V → Prop} {h : Heap}
/-- A field's text of a name, and how many such fields there are. -/
def gv (l : List Fld) (name : Bs) : Bs × Nat := (joinS (valsOf l name), (valsOf l name).length)
def keyS (names : List Bs) (l : List Fld) : Bs := Kq.keyG (gv l) names
def KeyB (names : List Bs) (l : List Fld) : Prop := names.length ≤ 300 ∧ (∀ s ∈ names, s.length ≤ 300) ∧ l.length ≤ 3000 ∧ sumF l ≤ 3000
def LKey : FuncId → List V → V → Prop := fun f args v => f = i_vary_Key ∧ ∃ (x y : V) (names : List Bs) (l : List Fld), ListV 1 x (strs names) ∧ ListV 2 y (flds l) ∧ (names = [] ∨ KeyB names l) ∧ args = [x, y] ∧ v = .str (keyS names l)
theorem flds_flat : ∀ (l : List Fld), ∀ c ∈ flat (flds l), ∃ s, c = .str s
  | [], c, h => by simp [flds, flat] at h
  | f :: r, c, h => by
    have e : flat (flds (f :: r)) = [.str f.1, .str f.2] ++ flat (flds r) := rfl
    rw [e] at h
    rcases List.mem_append.1 h with h | h
    · rcases List.mem_cons.1 h with rfl | h
      · exact ⟨_, rfl⟩
      · rcases List.mem_cons.1 h with rfl | h
        · exact ⟨_, rfl⟩
        · cases h
    · exact flds_flat r c h
theorem rv_no {B : Nat} {G : Gh} {w : World} {x : V} {l : List Fld} {v : Value} (hx : ListV 2 x (flds l)) (h : Rv B G w x v) :
    (∃ p n c, v = .slice p n c) ∧ ∀ w', RowKit.Below w.heap.size w w' → ∃ x', ListV 2 x' (flds l) ∧ Rv w'.heap.size G0 w' x' v := by
  rcases hx with ⟨he, rfl⟩ | ⟨own, rfl⟩
  · cases h
    exact ⟨⟨_, _, _, rfl⟩, fun w' _ => ⟨.nsl, .inl ⟨he, rfl⟩, .nsl⟩⟩
  · generalize hes : flds l = es at h
    cases h with
    | sl vs hsz hsp hcap hc h1 hr hfull htip =>
      subst hes
      refine ⟨⟨_, _, _, rfl⟩, fun w' hb => ⟨.sl 2 .no (flds l), .inr ⟨_, rfl⟩, .sl vs hsz hsp hcap (fun k hk => ?_) h1 (fun k x hx => ?_) (by intro h; cases h) (by intro id h; cases h)⟩⟩
      · have h2 := (hc k hk).2
        have hlt := World.block_lt_of_cell? w _ h2
        exact ⟨.inl (Nat.lt_of_lt_of_le hlt hb.size), (hb.cell hlt).trans h2⟩
      · have h3 := hr k x hx
        obtain ⟨s, rfl⟩ := flds_flat l x (List.mem_of_getElem? hx)
        generalize vs k = u at h3
        cases h3
        exact .str _
theorem calls_val {w : World} {f : FuncId} {args : List V} {x : V} (hL : LibAt Tryd.prog w L) (hS : SortAt Tryd.prog w L) (hc : Cf F L f args [] (Pu [] x)) {vs : List Value} (ha : Rvs w.heap.size G0 w args vs) :
    Calls Tryd.prog f vs.toArray w fun e w' => ∃ G val, e = .returned val ∧ Rv w.heap.size G w' x val ∧ RowKit.Below w.heap.size w w' := by
  obtain ⟨v, h', hev, rfl, _⟩ := hc
  refine ((sound (w0 := w) hm hF hL hS hev).2 _ G0 w vs (rel0 w) ⟨Nat.le_refl _, .refl _ _⟩ ha).mono ?_
  rintro en w' ⟨G', val, rfl, hv, hr, he⟩
  exact ⟨G', val, rfl, hv, he.os, he.tape, he.output, he.size, fun k hk => he.frame k hk (not_mapped0 k)⟩
theorem vals_bound (l : List Fld) (name : Bs) (h1 : l.length ≤ 3000) (h2 : sumF l ≤ 3000) : (gv l name).1.length ≤ 9000 := by
  have := vals_join l name
  show (joinS (valsOf l name)).length ≤ _
  omega
theorem keyG_len (g : Bs → Bs × Nat) (hg : ∀ s, (g s).1.length ≤ 9000) : ∀ (names : List Bs), (∀ s ∈ names, s.length ≤ 300) → (Kq.keyG g names).length ≤ 9400 * names.length
  | [], _ => by simp [Kq.keyG]
  | x :: r, h => by
    have h1 := keyG_len g hg r (fun s hs => h s (List.mem_cons_of_mem _ hs))
    have h2 := h x (List.mem_cons_self ..)
    have h3 := hg x
    have h4 := Lib.itoa_length_le ((g x).1.length : Int) (by omega) (by omega)
    have h5 : (Kq.part x (g x).1 (g x).2).length ≤ 9400 := by
      unfold Kq.part
      split <;> simp <;> omega
    show (Kq.part x (g x).1 (g x).2 ++ Kq.keyG g r).length ≤ _
    rw [List.length_append, List.length_cons]
    omega
theorem key_at {w0 : World} (ht : TabAt w0) : LibAt Tryd.prog w0 LKey := by
  rintro f args v ⟨rfl, x, y, names, l, hx, hy, hkb, rfl, rfl⟩
  refine ⟨by kernel_rfl, good_below fun B G h w vs hr hb hv => ?_⟩
  obtain ⟨a, b, rfl, ha, hl⟩ := rvs_two hv
  obtain ⟨⟨lp, ln, lc, rfl⟩, hno⟩ := rv_no hy hl
  have hn : ∃ blk off p c, a = .slice p names.length c ∧ (0 < names.length → p = some ⟨blk, off, none⟩ ∧ blk < w.heap.size) ∧ ∀ i (hi : i < names.length), w.cell? ⟨blk, off + i, none⟩ = some (.string ⟨names[i].toArray⟩) := by
    rcases rv_texts hx ha with ⟨rfl, p, cap, rfl⟩ | ⟨hne, blk, o, cap, rfl, hcap, hc⟩
    · exact ⟨0, 0, p, cap, rfl, by simp, by simp⟩
    · refine ⟨blk, o, _, cap, rfl, fun h0 => ⟨rfl, ?_⟩, fun i hi => hc i _ (List.getElem?_eq_getElem hi)⟩
      exact World.block_lt_of_cell? w _ (hc 0 _ (List.getElem?_eq_getElem h0))
  obtain ⟨blk, off, p, c, rfl, hp, hc⟩ := hn
  have hkb' : ∀ {s : Bs}, s ∈ names → KeyB names l := fun hs => hkb.resolve_left (by rintro rfl; cases hs)
  refine (Kq.key_calls names (gv l) blk off c p lp ln lc w hp hc (fun i hi w' hb' => ?_) (fun n hn w' hb' => ?_) (fun n hn => ?_) (fun i hi => ?_) ?_).mono fun e w' ⟨h1, h2⟩ => ⟨_, h1, .str _, h2⟩
  · obtain ⟨k1, k2, k3, k4⟩ := hkb' (List.getElem_mem hi)
    obtain ⟨y', hy', hv'⟩ := hno w' hb'
    have hf : ∀ f ∈ l, f.1.length ≤ 140737488355328 := fun f hf => by have := sumF_mem hf; omega
    have hj := vals_join l names[i]
    have hn := k2 _ (List.getElem_mem hi)
    refine (calls_val (join_at w') (by rintro f ⟨_, x, l, _, _, _, h, _⟩; cases h) (Get_ok (L := LJoin) (h := []) (joinOk fun _ _ _ h => h) hy' (name := names[i]) (by omega) hf (by omega) (by omega)) (vs := [.slice lp ln lc, .string ⟨names[i].toArray⟩]) (rvs_of rfl ?_)).mono ?_
    · intro k hk hk'
      match k, hk with
      | 0, _ => exact hv'
      | 1, _ => exact .str _
    · rintro e w'' ⟨G', val, rfl, hrv, hbl⟩
      refine ⟨?_, hbl⟩
      unfold getV at hrv
      cases hrv with
      | tup hl hr =>
        rename_i vs
        match vs, hl with
        | [u1, u2], _ =>
          have h1 := hr 0 _ _ rfl rfl
          have h2 := hr 1 _ _ rfl rfl
          cases h1
          cases h2
          rfl
  · have htab : TabAt w' := Lib.tabBelow_of_tabIs ht w' ((hb.2.mono hb.1).trans (hb'.mono (Nat.le_trans hb.1 hr.wf.base)))
    refine (Tryd.strconv_Itoa n (by omega) (by omega) w' htab).mono fun e w'' ⟨h1, k, os, h2⟩ => ?_
    subst h2
    exact ⟨h1, Lib.below_grow _ _ (Nat.le_refl _) k os⟩
  · exact Lib.itoa_length_le n (by omega) (by omega)
  · obtain ⟨k1, k2, k3, k4⟩ := hkb' (List.getElem_mem hi)
    have h1 := keyG_len (gv l) (fun s => vals_bound l s k3 k4) (names.take i) (fun s hs => k2 s (List.mem_of_mem_take hs))
    have h2 := vals_bound l names[i] k3 k4
    have h3 := k2 _ (List.getElem_mem hi)
    rw [List.length_take] at h1
    omega
  · rcases hkb with rfl | ⟨k1, _⟩
    · simp
    · omega
def KeyOk (L : FuncId → List V → V → Prop) : Prop := ∀ {x y : V} {names : List Bs} {l : List Fld} {h : Heap}, ListV 1 x (strs names) → ListV 2 y (flds l) → (names = [] ∨ KeyB names l) → Cf F L i_vary_Key [x, y] h (Pu h (.str (keyS names l)))
theorem keyOk {L : FuncId → List V → V → Prop} (hL : ∀ f a v, LKey f a v → L f a v) : KeyOk L :=
  fun hx hy hk => wlib (hL _ _ _ ⟨rfl, _, _, _, _, hx, hy, hk, rfl, rfl⟩) ⟨rfl, [], by simp⟩
end Go.Proofs.YtfihnnebffkbfaaDoor.Vh
end
section
set_option linter.unusedVariables false
set_option linter.unusedSimpArgs false
namespace Go.Proofs.YtfihnnebffkbfaaDoor.Vh
open Go.Vm Go.Vt
theorem dec_step {n : Nat} (h : 10 ≤ n) : Go.Lib.decDigits n = Go.Lib.decDigits (n / 10) ++ [UInt8.ofNat (48 + n % 10)] := by
  rw [Go.Lib.decDigits, dif_neg (by omega)]
theorem itoa_nat (n : Nat) : Go.Lib.itoa (n : Int) = Go.Lib.decDigits n := by
  unfold Go.Lib.itoa
  rw [if_neg (by omega)]; rfl
end Go.Proofs.YtfihnnebffkbfaaDoor.Vh
end
section
set_option linter.unusedVariables false
set_option linter.unusedSimpArgs false
namespace Go.Proofs.YtfihnnebffkbfaaDoor.Vh
open Go.Vm Go.Vt
attribute [local congr] wi_congr wg_congr wgd_congr wb_congr wl_congr cf_congr
variable {L : FuncId → List V → V → Prop} {h : Heap}
theorem vtexts_par {x : V} (v : VPar [.sl [.s]] x) : ∃ l : List Bs, ListV 1 x (strs l) ∧ l.length ≤ 140737488351232 ∧ ∀ f ∈ l, f.length ≤ 140737488351232 := by
  rcases v with rfl | ⟨es, rfl, hl, hes⟩
  · exact ⟨[], .inl ⟨rfl, rfl⟩, by decide, by simp⟩
  · obtain ⟨l, rfl, hl2⟩ : ∃ l : List Bs, es = strs l ∧ ∀ f ∈ l, f.length ≤ 140737488351232 := by
      clear hl
      induction es with
      | nil => exact ⟨[], rfl, by simp⟩
      | cons a es ih =>
        obtain ⟨l, rfl, hl⟩ := ih fun e he => hes e (by simp [he])
        obtain ⟨h1, h2, _⟩ := hes a (by simp)
        rw [h2 rfl] at h1
        obtain ⟨s, rfl, hs⟩ := h1.1
        exact ⟨s :: l, rfl, by intro f hf; rcases List.mem_cons.1 hf with rfl | hf; exact hs; exact hl f hf⟩
    exact ⟨l, .inr ⟨_, rfl⟩, by simpa [strs, reachBytes] using hl, hl2⟩
theorem vstrs_at {l : List Bs} {i : Nat} (hi : i < l.length) : (strs l).getD i (.tup []) = .str (l.getD i []) := by
  unfold strs
  rw [List.getD_eq_getElem?_getD, List.getD_eq_getElem?_getD, List.getElem?_map, List.getElem?_eq_getElem hi]; rfl
def sumN (l : List Bs) : Nat := (l.map List.length).sum
theorem sumN_take {l : List Bs} {i : Nat} (hi : i < l.length) : sumN (l.take (i + 1)) = sumN (l.take i) + (l.getD i []).length := by
  have e : l.getD i [] = l[i] := by rw [List.getD_eq_getElem?_getD, List.getElem?_eq_getElem hi, Option.getD_some]
  unfold sumN
  rw [List.take_add_one, List.getElem?_eq_getElem hi, e]
  simp only [List.map_append, List.sum_append, Option.toList_some, List.map_cons, List.map_nil, List.sum_cons, List.sum_nil, Nat.add_zero]
theorem sumN_le (l : List Bs) (i : Nat) : sumN (l.take i) ≤ sumN l := by
  conv => rhs; rw [← List.take_append_drop i l]
  unfold sumN
  rw [List.map_append, List.sum_append]
  omega
theorem sumN_mem {l : List Bs} {s : Bs} (hs : s ∈ l) : s.length ≤ sumN l := by
  unfold sumN
  induction l with
  | nil => cases hs
  | cons a r ih =>
    rw [List.map_cons, List.sum_cons]
    rcases List.mem_cons.1 hs with rfl | hs
    · omega
    · have := ih hs; omega
theorem few11_ok {x : V} {l : List Fld} (hx : ListV 2 x (flds l)) (hl : l.length ≤ 140737488351232) (hz : ∀ f ∈ l, f.1.length ≤ 140737488351232 ∧ f.2.length ≤ 140737488351232) :
    Cf F L i_gatepostlaw11_few [x] h (Pu h (.bool (decide (20 * l.length + sumF l < 3000)))) := by
  refine run_gatepostlaw11_few ?_
  simp only [p_gatepostlaw11_few]
  have l1 := fun {K : V → Heap → Prop} {h : Heap} => hx.len (F := F) (L := L) (e := E0) (K := K) (h := h)
  simp only [flds_len] at l1
  have w20 := wrap64 (x := 20 * (l.length : Int)) (by omega) (by omega)
  simp (maxSteps := 4000000) only [vm, vl, Arg.get, cells, stor, boundO, resultsV, resV, partK, loadV, Vm.part, fillC, splice, reduceIte, reduceCtorEq, Nat.reduceEqDiff, Nat.reduceAdd, Nat.reduceSub, Nat.reduceMul, Nat.reduceLeDiff, ne_eq, not_false_eq_true, Int.reduceEq, Int.reduceLT, Int.reduceLE, Int.reduceNeg, Int.reduceToNat, Int.reduceGT, Int.reduceGE, Nat.reduceLT, Nat.lt_add_one, Nat.zero_lt_succ, Nat.succ_pos, Nat.zero_le, beq_self_eq_true, k_gatepostlaw11_few_0, k_gatepostlaw11_few_2, k_gatepostlaw11_few_1, l1, w20]
  refine l_gatepostlaw11_few_0 (fun n e h' => ∃ i, n = l.length - i ∧ i ≤ l.length ∧ e 0 = x ∧ e 3 = .int .i64 ((20 * l.length + sumF (l.take i) : Nat)) ∧ e 4 = .int .i64 i ∧ ∃ t, h' = h ++ t) ?_ (n := l.length) ⟨0, by simp, by simp, rfl, by simp [upd, sumF], rfl, [], by simp⟩
  rintro n e h' ⟨i, rfl, hi, e0, e3, e4, t, rfl⟩
  simp only [b_gatepostlaw11_few_0]
  generalize hS : 20 * l.length + sumF (l.take i) = S at *
  have hmono := sumF_le l i
  rcases list_at ([], []) hi with ⟨hn, rfl, hd⟩ | ⟨hl1, hl2, hd, htk⟩
  · rw [List.take_of_length_le (Nat.le_refl _)] at hS
    have d : decide ((S : Int) < 3000) = decide (20 * l.length + sumF l < 3000) := by rw [hS]; exact decide_eq_decide.2 (by omega)
    simp (maxSteps := 4000000) only [vm, vl, Arg.get, cells, stor, boundO, resultsV, resV, partK, loadV, Vm.part, fillC, splice, reduceIte, reduceCtorEq, Nat.reduceEqDiff, Nat.reduceAdd, Nat.reduceSub, Nat.reduceMul, Nat.reduceLeDiff, ne_eq, not_false_eq_true, Int.reduceEq, Int.reduceLT, Int.reduceLE, Int.reduceNeg, Int.reduceToNat, Int.reduceGT, Int.reduceGE, Nat.reduceLT, Nat.lt_add_one, Nat.zero_lt_succ, Nat.succ_pos, Nat.zero_le, beq_self_eq_true, k_gatepostlaw11_few_0, k_gatepostlaw11_few_2, k_gatepostlaw11_few_1, e0, e3, e4, hn, l1, d]
  · by_cases hs : (S : Int) < 3000
    · have w := wrap64 (x := (i : Int) + 1) (by omega) (by omega)
      have i1 := fun {K : V → Heap → Prop} {h : Heap} => hx.at (F := F) (L := L) (e := E0) (K := K) (h := h) (i := i) (by rw [flds_len]; exact hl2)
      have a1 := flds_at hl2
      have hmem : l.getD i ([], []) ∈ l := by
        rw [List.getD_eq_getElem?_getD, List.getElem?_eq_getElem hl2]; exact List.getElem_mem _
      have hst := sumF_take hl2
      have hzf := hz _ hmem
      generalize hf : l.getD i ([], []) = f at *
      have w1 := wrap64 (x := (S : Int) + f.1.length) (by omega) (by omega)
      have w2 := wrap64 (x := (S : Int) + f.1.length + f.2.length) (by omega) (by omega)
      simp (maxSteps := 4000000) only [vm, vl, Arg.get, cells, stor, boundO, resultsV, resV, partK, loadV, Vm.part, fillC, splice, reduceIte, reduceCtorEq, Nat.reduceEqDiff, Nat.reduceAdd, Nat.reduceSub, Nat.reduceMul, Nat.reduceLeDiff, ne_eq, not_false_eq_true, Int.reduceEq, Int.reduceLT, Int.reduceLE, Int.reduceNeg, Int.reduceToNat, Int.reduceGT, Int.reduceGE, Nat.reduceLT, Nat.lt_add_one, Nat.zero_lt_succ, Nat.succ_pos, Nat.zero_le, beq_self_eq_true, k_gatepostlaw11_few_0, k_gatepostlaw11_few_2, k_gatepostlaw11_few_1, e0, e3, e4, l1, hl1, hs, i1, a1, fldV, w, w1, w2]
      exact ⟨l.length - (i + 1), by omega, i + 1, rfl, hl2, by rw [hst]; congr 1; omega, rfl, t, rfl⟩
    · have d : decide ((S : Int) < 3000) = false := by simpa using hs
      have d2 : decide (20 * l.length + sumF l < 3000) = false := by simp; omega
      simp (maxSteps := 4000000) only [vm, vl, Arg.get, cells, stor, boundO, resultsV, resV, partK, loadV, Vm.part, fillC, splice, reduceIte, reduceCtorEq, Nat.reduceEqDiff, Nat.reduceAdd, Nat.reduceSub, Nat.reduceMul, Nat.reduceLeDiff, ne_eq, not_false_eq_true, Int.reduceEq, Int.reduceLT, Int.reduceLE, Int.reduceNeg, Int.reduceToNat, Int.reduceGT, Int.reduceGE, Nat.reduceLT, Nat.lt_add_one, Nat.zero_lt_succ, Nat.succ_pos, Nat.zero_le, beq_self_eq_true, k_gatepostlaw11_few_0, k_gatepostlaw11_few_2, k_gatepostlaw11_few_1, e0, e3, e4, hl1, hs, l1, d, d2]
theorem short11_ok {x : V} {l : List Bs} (hx : ListV 1 x (strs l)) (hl : l.length ≤ 140737488351232) (hz : ∀ f ∈ l, f.length ≤ 140737488351232) :
    Cf F L i_gatepostlaw11_short [x] h (Pu h (.bool (decide (5 * l.length + sumN l < 300)))) := by
  refine run_gatepostlaw11_short ?_
  simp only [p_gatepostlaw11_short]
  have l1 := fun {K : V → Heap → Prop} {h : Heap} => hx.len (F := F) (L := L) (e := E0) (K := K) (h := h)
  simp only [strs_len] at l1
  refine l_gatepostlaw11_short_0 (fun n e h' => ∃ i, n = l.length - i ∧ i ≤ l.length ∧ e 0 = x ∧ e 3 = .int .i64 ((5 * i + sumN (l.take i) : Nat)) ∧ e 4 = .int .i64 i ∧ ∃ t, h' = h ++ t) ?_ (n := l.length) ⟨0, by simp, by simp, rfl, by simp [upd, sumN], rfl, [], by simp⟩
  rintro n e h' ⟨i, rfl, hi, e0, e3, e4, t, rfl⟩
  simp only [b_gatepostlaw11_short_0]
  generalize hS : 5 * i + sumN (l.take i) = S at *
  have hmono := sumN_le l i
  rcases list_at [] hi with ⟨hn, rfl, hd⟩ | ⟨hl1, hl2, hd, htk⟩
  · rw [List.take_of_length_le (Nat.le_refl _)] at hS
    have d : decide ((S : Int) < 300) = decide (5 * l.length + sumN l < 300) := by rw [hS]; exact decide_eq_decide.2 (by omega)
    simp (maxSteps := 4000000) only [vm, vl, Arg.get, cells, stor, boundO, resultsV, resV, partK, loadV, Vm.part, fillC, splice, reduceIte, reduceCtorEq, Nat.reduceEqDiff, Nat.reduceAdd, Nat.reduceSub, Nat.reduceMul, Nat.reduceLeDiff, ne_eq, not_false_eq_true, Int.reduceEq, Int.reduceLT, Int.reduceLE, Int.reduceNeg, Int.reduceToNat, Int.reduceGT, Int.reduceGE, Nat.reduceLT, Nat.lt_add_one, Nat.zero_lt_succ, Nat.succ_pos, Nat.zero_le, beq_self_eq_true, k_gatepostlaw11_short_0, k_gatepostlaw11_short_2, k_gatepostlaw11_short_1, e0, e3, e4, hn, l1, d]
  · by_cases hs : (S : Int) < 300
    · have w := wrap64 (x := (i : Int) + 1) (by omega) (by omega)
      have i1 := fun {K : V → Heap → Prop} {h : Heap} => hx.at (F := F) (L := L) (e := E0) (K := K) (h := h) (i := i) (by rw [strs_len]; exact hl2)
      have a1 := vstrs_at hl2
      have hmem : l.getD i [] ∈ l := getD_mem hl2
      have hst := sumN_take hl2
      have hzf := hz _ hmem
      generalize hf : l.getD i [] = f at *
      have w1 := wrap64 (x := (S : Int) + 5) (by omega) (by omega)
      have w2 := wrap64 (x := (S : Int) + 5 + f.length) (by omega) (by omega)
      simp (maxSteps := 4000000) only [vm, vl, Arg.get, cells, stor, boundO, resultsV, resV, partK, loadV, Vm.part, fillC, splice, reduceIte, reduceCtorEq, Nat.reduceEqDiff, Nat.reduceAdd, Nat.reduceSub, Nat.reduceMul, Nat.reduceLeDiff, ne_eq, not_false_eq_true, Int.reduceEq, Int.reduceLT, Int.reduceLE, Int.reduceNeg, Int.reduceToNat, Int.reduceGT, Int.reduceGE, Nat.reduceLT, Nat.lt_add_one, Nat.zero_lt_succ, Nat.succ_pos, Nat.zero_le, beq_self_eq_true, k_gatepostlaw11_short_0, k_gatepostlaw11_short_2, k_gatepostlaw11_short_1, e0, e3, e4, l1, hl1, hs, i1, a1, w, w1, w2]
      exact ⟨l.length - (i + 1), by omega, i + 1, rfl, hl2, by rw [hst]; congr 1; omega, rfl, t, rfl⟩
    · have d : decide ((S : Int) < 300) = false := by simpa using hs
      have d2 : decide (5 * l.length + sumN l < 300) = false := by simp; omega
      simp (maxSteps := 4000000) only [vm, vl, Arg.get, cells, stor, boundO, resultsV, resV, partK, loadV, Vm.part, fillC, splice, reduceIte, reduceCtorEq, Nat.reduceEqDiff, Nat.reduceAdd, Nat.reduceSub, Nat.reduceMul, Nat.reduceLeDiff, ne_eq, not_false_eq_true, Int.reduceEq, Int.reduceLT, Int.reduceLE, Int.reduceNeg, Int.reduceToNat, Int.reduceGT, Int.reduceGE, Nat.reduceLT, Nat.lt_add_one, Nat.zero_lt_succ, Nat.succ_pos, Nat.zero_le, beq_self_eq_true, k_gatepostlaw11_short_0, k_gatepostlaw11_short_2, k_gatepostlaw11_short_1, e0, e3, e4, hl1, hs, l1, d, d2]
theorem Same11_ok (HK : KeyOk L) {x y z : V} {names : List Bs} {a b : List Fld} (hx : ListV 1 x (strs names)) (hy : ListV 2 y (flds a)) (hz : ListV 2 z (flds b)) (ha : names = [] ∨ KeyB names a) (hb : names = [] ∨ KeyB names b) :
    Cf F L i_vary_Same [x, y, z] h (Pu h (.bool (keyS names a == keyS names b))) := by
  refine run_vary_Same ?_
  simp only [p_vary_Same]
  refine Cf.pu (HK hx hy ha) fun t1 => ?_
  simp (maxSteps := 4000000) only [vm, vl, Arg.get, cells, stor, boundO, resultsV, resV, partK, loadV, Vm.part, fillC, splice, reduceIte, reduceCtorEq, Nat.reduceEqDiff, Nat.reduceAdd, Nat.reduceSub, Nat.reduceMul, Nat.reduceLeDiff, ne_eq, not_false_eq_true, Int.reduceEq, Int.reduceLT, Int.reduceLE, Int.reduceNeg, Int.reduceToNat, Int.reduceGT, Int.reduceGE, Nat.reduceLT, Nat.lt_add_one, Nat.zero_lt_succ, Nat.succ_pos, Nat.zero_le, beq_self_eq_true]
  refine Cf.pu (HK hx hz hb) fun t2 => ?_
  simp (maxSteps := 4000000) only [vm, vl, Arg.get, cells, stor, boundO, resultsV, resV, partK, loadV, Vm.part, fillC, splice, reduceIte, reduceCtorEq, Nat.reduceEqDiff, Nat.reduceAdd, Nat.reduceSub, Nat.reduceMul, Nat.reduceLeDiff, ne_eq, not_false_eq_true, Int.reduceEq, Int.reduceLT, Int.reduceLE, Int.reduceNeg, Int.reduceToNat, Int.reduceGT, Int.reduceGE, Nat.reduceLT, Nat.lt_add_one, Nat.zero_lt_succ, Nat.succ_pos, Nat.zero_le, beq_self_eq_true]
end Go.Proofs.YtfihnnebffkbfaaDoor.Vh
end
section
set_option linter.unusedVariables false
set_option linter.unusedSimpArgs false
namespace Go.Proofs.YtfihnnebffkbfaaDoor.Vh
open Go.Vm Go.Vt
attribute [local congr] wi_congr wg_congr wgd_congr wb_congr wl_congr cf_congr
variable {L : FuncId → List V → V → Prop} {h : Heap}
theorem flat_strs (out : List Bs) : flat (out.map V.str) = out.map V.str := by
  induction out with
  | nil => rfl
  | cons a r ih => simp only [List.map_cons, flat, List.flatMap_cons, cells]; exact congrArg _ ih
theorem app_new {h : Heap} {x : Bs} : appV h 1 16 false .nsl (.sl 1 .full [.str x]) = some (.sl 1 (.tip h.length) [.str x], h ++ [.tip 1]) := rfl
theorem app_tip {h : Heap} {k : Nat} {out : List Bs} {x : Bs} (hb : h[k]? = some (.tip out.length)) (hr : out.length < 8000000000) :
    appV h 1 16 false (.sl 1 (.tip k) (out.map .str)) (.sl 1 .full [.str x]) = some (.sl 1 (.tip k) ((out ++ [x]).map .str), h.set k (.tip (out.length + 1))) := by
  have e1 : (out.map V.str ++ [V.str x]) = (out ++ [x]).map V.str := by simp
  have r : room ((out.map V.str).length + [V.str x].length) 16 = true := by simp [room]; omega
  have i : isTip h k (flat (out.map V.str)).length = true := by rw [flat_strs]; simp [isTip, hb]
  rw [flat_strs] at i
  simp only [appV, srcElems, if_true, Option.bind_some, r, i, Bool.and_self, e1, flat_strs]
  simp
/-- What stands on the heap while Split runs: the text, the list, the place; rows behind. -/
def SplitH (h h' : Heap) (s : Bs) (out : List Bs) (at_ : Int) : Prop :=
  ∃ lv t, h' = h ++ (O.box [.str s] :: .box [lv] :: .box [.int .i64 at_] :: t) ∧ ((out = [] ∧ lv = .nsl) ∨ (out ≠ [] ∧ ∃ j, lv = .sl 1 (.tip (h.length + (j + 3))) (out.map .str) ∧ t[j]? = some (.tip out.length)))
theorem end_ok {s own : Bs} {out : List Bs} {from_ to : Int} {h h' : Heap} (hs : s.length ≤ 8000000000) (h0 : 0 ≤ from_) (h1 : from_ ≤ to) (h2 : to ≤ s.length) (ho : out.length ≤ from_) (ho2 : out.length < 8000000000) (hown : (s.take to.toNat).drop from_.toNat = own)
    (H : SplitH h h' s out from_) {K : V → Heap → Prop} (hK : ∀ h'', SplitH h h'' s (flush out own) (to + 1) → K (.tup []) h'') :
    Cf F L i_token_Split_1 [.int .i64 to, .ptr h.length 0, .ptr (h.length + 2) 0, .ptr (h.length + 1) 0] h' K := by
  obtain ⟨lv, t, rfl, hl⟩ := H
  refine run_token_Split_1 ?_
  simp only [p_token_Split_1]
  have w := wrap64 (x := to + 1) (by omega) (by omega)
  have g1 : 0 ≤ from_ := h0
  have g2 : 0 ≤ to := by omega
  have g3 : from_.toNat ≤ to.toNat := by omega
  have g4 : to.toNat ≤ s.length := by omega
  have g5 : own.length < 9223372036854775807 := by rw [← hown]; simp; omega
  simp (maxSteps := 4000000) only [vm, vl, Arg.get, cells, stor, boundO, resultsV, resV, partK, loadV, Vm.part, fillC, splice, reduceIte, reduceCtorEq, Nat.reduceEqDiff, Nat.reduceAdd, Nat.reduceSub, Nat.reduceMul, Nat.reduceLeDiff, ne_eq, not_false_eq_true, Int.reduceEq, Int.reduceLT, Int.reduceLE, Int.reduceNeg, Int.reduceToNat, Int.reduceGT, Int.reduceGE, Nat.reduceLT, Nat.lt_add_one, Nat.zero_lt_succ, Nat.succ_pos, Nat.zero_le, beq_self_eq_true, k_token_Split_1_0, g1, g2, g3, g4, hown, w]
  refine Cf.pu (Trim_ok g5) fun t' => ?_
  by_cases he : trim own = []
  · have q : (trim own == []) = true := by rw [he]; rfl
    have ef : flush out own = out := by simp [flush, he]
    rw [ef] at hK
    simp (maxSteps := 4000000) only [vm, vl, Arg.get, cells, stor, boundO, resultsV, resV, partK, loadV, Vm.part, fillC, splice, reduceIte, reduceCtorEq, Nat.reduceEqDiff, Nat.reduceAdd, Nat.reduceSub, Nat.reduceMul, Nat.reduceLeDiff, ne_eq, not_false_eq_true, Int.reduceEq, Int.reduceLT, Int.reduceLE, Int.reduceNeg, Int.reduceToNat, Int.reduceGT, Int.reduceGE, Nat.reduceLT, Nat.lt_add_one, Nat.zero_lt_succ, Nat.succ_pos, Nat.zero_le, beq_self_eq_true, k_token_Split_1_0, q, w]
    refine hK _ ⟨lv, t ++ t', by simp, hl.imp_right fun ⟨hne, j, e1, e2⟩ => ⟨hne, j, e1, get_old e2⟩⟩
  · have q : (trim own == []) = false := by simpa using he
    have ef : flush out own = out ++ [trim own] := by simp [flush, he]
    rw [ef] at hK
    rcases hl with ⟨rfl, rfl⟩ | ⟨hne, j, rfl, hj⟩
    · simp (maxSteps := 4000000) only [vm, vl, Arg.get, cells, stor, boundO, resultsV, resV, partK, loadV, Vm.part, fillC, splice, reduceIte, reduceCtorEq, Nat.reduceEqDiff, Nat.reduceAdd, Nat.reduceSub, Nat.reduceMul, Nat.reduceLeDiff, ne_eq, not_false_eq_true, Int.reduceEq, Int.reduceLT, Int.reduceLE, Int.reduceNeg, Int.reduceToNat, Int.reduceGT, Int.reduceGE, Nat.reduceLT, Nat.lt_add_one, Nat.zero_lt_succ, Nat.succ_pos, Nat.zero_le, beq_self_eq_true, k_token_Split_1_0, q, w, app_new]
      refine hK _ ⟨_, t ++ (t' ++ [.tip 1]), rfl, .inr ⟨by simp, t.length + t'.length, ?_, ?_⟩⟩
      · simp [Nat.add_assoc]
      · rw [← List.append_assoc, List.getElem?_append_right (by simp)]
        simp
    · have hj' : (h ++ (O.box [.str s] :: .box [V.sl 1 (.tip (h.length + (j + 3))) (out.map V.str)] :: .box [.int .i64 from_] :: (t ++ t')))[h.length + (j + 3)]? = some (.tip out.length) := by
        rw [get_new]
        simp only [List.getElem?_cons_succ]
        exact get_old hj
      have ha := app_tip (x := trim own) hj' ho2
      simp (maxSteps := 4000000) only [vm, vl, Arg.get, cells, stor, boundO, resultsV, resV, partK, loadV, Vm.part, fillC, splice, reduceIte, reduceCtorEq, Nat.reduceEqDiff, Nat.reduceAdd, Nat.reduceSub, Nat.reduceMul, Nat.reduceLeDiff, ne_eq, not_false_eq_true, Int.reduceEq, Int.reduceLT, Int.reduceLE, Int.reduceNeg, Int.reduceToNat, Int.reduceGT, Int.reduceGE, Nat.reduceLT, Nat.lt_add_one, Nat.zero_lt_succ, Nat.succ_pos, Nat.zero_le, beq_self_eq_true, k_token_Split_1_0, q, w, ha]
      refine hK _ ⟨_, _, rfl, .inr ⟨by simp, j, rfl, ?_⟩⟩
      have hjl : j < (t ++ t').length := by
        have := (List.getElem?_eq_some_iff.1 hj).1
        simp; omega
      rw [List.getElem?_set_self hjl]
      simp
theorem flush_nil (out : List Bs) : flush out [] = out := by simp [flush, trim, trimR, trimL]
theorem splitG_step (c : UInt8) (r own : Bs) (q : Bool) (out : List Bs) : splitG (c :: r) own q out =
    if c = 34 then splitG r (own ++ [c]) (!q) out
    else if (q && c == 92) = true then (match r with | [] => none | d :: r' => splitG r' (own ++ [c, d]) q out)
    else if (!q && c == 44) = true then splitG r [] q (flush out own)
    else splitG r (own ++ [c]) q out := by
  cases r with
  | cons d r => rw [splitG]
  | nil =>
    by_cases h1 : c = 34
    · subst h1; cases q <;> simp [splitG]
    · cases q
      · by_cases h2 : c = 44 <;> simp [splitG, h1, h2, flush_nil]
      · by_cases h2 : c = 92 <;> simp [splitG, h1, h2]
theorem flush_len (out : List Bs) (own : Bs) : (flush out own).length ≤ out.length + 1 := by
  unfold flush; split <;> simp
theorem own_next {s : Bs} {i f : Nat} {c : UInt8} (hf : f ≤ i) (hl : i < s.length) (hd : s.drop i = c :: s.drop (i + 1)) : (s.take (i + 1)).drop f = (s.take i).drop f ++ [c] := by
  rw [take_succ hl hd, List.drop_append_of_le_length (by simp; omega)]
theorem own_none (s : Bs) (i : Nat) : (s.take i).drop i = [] := List.drop_eq_nil_of_le (by simp [List.length_take]; omega)
def fullV (out : List Bs) : V := if out = [] then .nsl else .sl 1 .full (out.map .str)
def splitV : Option (List Bs) → V
  | none => .tup [.nsl, .bool false]
  | some out => .tup [fullV out, .bool true]
theorem slsl_full {out : List Bs} (hne : out ≠ []) {o : Own} : slslV 1 (.sl 1 o (out.map V.str)) 0 (some out.length) (some out.length) = some (.sl 1 .full (out.map V.str)) := by
  have : List.take out.length (out.map V.str) = out.map V.str := List.take_of_length_le (by simp)
  simp [slslV, this]
theorem u34 {c : UInt8} : ((c.toNat : Int) = 34) = (c = 34) := propext ⟨fun h => by
  have : c.toNat = 34 := by omega
  exact UInt8.toNat_inj.1 (by simpa using this), fun h => by subst h; rfl⟩
theorem u92 {c : UInt8} : ((c.toNat : Int) = 92) = (c = 92) := propext ⟨fun h => by
  have : c.toNat = 92 := by omega
  exact UInt8.toNat_inj.1 (by simpa using this), fun h => by subst h; rfl⟩
theorem u44 {c : UInt8} : ((c.toNat : Int) = 44) = (c = 44) := propext ⟨fun h => by
  have : c.toNat = 44 := by omega
  exact UInt8.toNat_inj.1 (by simpa using this), fun h => by subst h; rfl⟩
def SplitI (h : Heap) (s : Bs) (n : Nat) (e : Env) (h' : Heap) : Prop :=
  ∃ (i f : Nat) (q : Bool) (out : List Bs), n = s.length + 1 - i ∧ f ≤ i ∧ f ≤ s.length ∧ out.length ≤ f ∧ SplitH h h' s out f ∧
    e 1 = .ptr h.length 0 ∧ e 4 = .ptr (h.length + 1) 0 ∧ e 6 = .fn i_token_Split_1 [.ptr h.length 0, .ptr (h.length + 2) 0, .ptr (h.length + 1) 0] ∧ e 7 = .bool q ∧ e 8 = .int .i64 i ∧
    ((i ≤ s.length ∧ split s = splitG (s.drop i) ((s.take i).drop f) q out) ∨ (i = s.length + 1 ∧ q = true ∧ split s = none))
theorem Split_ok {s : Bs} (hs : s.length < 8000000000) : Cf F L i_token_Split [.str s] h (Pu h (splitV (split s))) := by
  refine run_token_Split ?_
  simp only [p_token_Split]
  simp (maxSteps := 4000000) only [vm, vl, Arg.get, cells, stor, boundO, resultsV, resV, partK, loadV, Vm.part, fillC, splice, reduceIte, reduceCtorEq, Nat.reduceEqDiff, Nat.reduceAdd, Nat.reduceSub, Nat.reduceMul, Nat.reduceLeDiff, ne_eq, not_false_eq_true, Int.reduceEq, Int.reduceLT, Int.reduceLE, Int.reduceNeg, Int.reduceToNat, Int.reduceGT, Int.reduceGE, Nat.reduceLT, Nat.lt_add_one, Nat.zero_lt_succ, Nat.succ_pos, Nat.zero_le, beq_self_eq_true, k_token_Split_1, k_token_Split_0, k_token_Split_3, k_token_Split_2]
  refine l_token_Split_0 (SplitI h s) ?_ (n := s.length + 1) ⟨0, 0, false, [], by simp, by simp, by simp, by simp, ⟨_, _, rfl, .inl ⟨rfl, rfl⟩⟩, rfl, rfl, rfl, rfl, rfl, .inl ⟨by simp, by simp [split]⟩⟩
  rintro n e h' ⟨i, f, q, out, rfl, hf, hfs, hol, H, e1, e4, e6, e7, e8, hst⟩
  simp only [b_token_Split_0]
  have hb1 : h'[h.length]? = some (.box [.str s]) := by
    obtain ⟨lv, t, rfl, _⟩ := H
    rw [get_new0]; rfl
  rcases hst with ⟨hi, hsp⟩ | ⟨rfl, rfl, hsp⟩
  · rcases str_at hi with ⟨hn, rfl, hd⟩ | ⟨c, hl, hl', hc, hd⟩
    · cases q with
      | true =>
        have : split s = none := by rw [hsp, hd]; rfl
        simp (maxSteps := 4000000) only [vm, vl, Arg.get, cells, stor, boundO, resultsV, resV, partK, loadV, Vm.part, fillC, splice, reduceIte, reduceCtorEq, Nat.reduceEqDiff, Nat.reduceAdd, Nat.reduceSub, Nat.reduceMul, Nat.reduceLeDiff, ne_eq, not_false_eq_true, Int.reduceEq, Int.reduceLT, Int.reduceLE, Int.reduceNeg, Int.reduceToNat, Int.reduceGT, Int.reduceGE, Nat.reduceLT, Nat.lt_add_one, Nat.zero_lt_succ, Nat.succ_pos, Nat.zero_le, beq_self_eq_true, k_token_Split_1, k_token_Split_0, k_token_Split_3, k_token_Split_2, e1, e4, e6, e7, e8, hb1, hn]
        rw [this]; exact ⟨rfl, by obtain ⟨lv, t, rfl, _⟩ := H; exact ⟨_, rfl⟩⟩
      | false =>
        have hres : split s = some (flush out ((s.take s.length).drop f)) := by rw [hsp, hd]; rfl
        simp (maxSteps := 4000000) only [vm, vl, Arg.get, cells, stor, boundO, resultsV, resV, partK, loadV, Vm.part, fillC, splice, reduceIte, reduceCtorEq, Nat.reduceEqDiff, Nat.reduceAdd, Nat.reduceSub, Nat.reduceMul, Nat.reduceLeDiff, ne_eq, not_false_eq_true, Int.reduceEq, Int.reduceLT, Int.reduceLE, Int.reduceNeg, Int.reduceToNat, Int.reduceGT, Int.reduceGE, Nat.reduceLT, Nat.lt_add_one, Nat.zero_lt_succ, Nat.succ_pos, Nat.zero_le, beq_self_eq_true, k_token_Split_1, k_token_Split_0, k_token_Split_3, k_token_Split_2, e1, e4, e6, e7, e8, hb1, hn]
        refine end_ok (own := (s.take s.length).drop f) (from_ := f) (by omega) (by omega) (by omega) (by omega) (by omega) (by omega) (by simp) H fun h'' H'' => ?_
        rw [hres]
        generalize flush out ((s.take s.length).drop f) = fo at *
        obtain ⟨lv, t, rfl, hlv⟩ := H''
        rcases hlv with ⟨rfl, rfl⟩ | ⟨hne, j, rfl, hj⟩
        · have e0 : slslV 1 V.nsl 0 (some 0) (some 0) = some .nsl := rfl
          simp (maxSteps := 4000000) only [vm, vl, Arg.get, cells, stor, boundO, resultsV, resV, partK, loadV, Vm.part, fillC, splice, reduceIte, reduceCtorEq, Nat.reduceEqDiff, Nat.reduceAdd, Nat.reduceSub, Nat.reduceMul, Nat.reduceLeDiff, ne_eq, not_false_eq_true, Int.reduceEq, Int.reduceLT, Int.reduceLE, Int.reduceNeg, Int.reduceToNat, Int.reduceGT, Int.reduceGE, Nat.reduceLT, Nat.lt_add_one, Nat.zero_lt_succ, Nat.succ_pos, Nat.zero_le, beq_self_eq_true, k_token_Split_1, k_token_Split_0, k_token_Split_3, k_token_Split_2, e0]
          rfl
        · have e0 := slsl_full hne (o := .tip (h.length + (j + 3)))
          simp (maxSteps := 4000000) only [vm, vl, Arg.get, cells, stor, boundO, resultsV, resV, partK, loadV, Vm.part, fillC, splice, reduceIte, reduceCtorEq, Nat.reduceEqDiff, Nat.reduceAdd, Nat.reduceSub, Nat.reduceMul, Nat.reduceLeDiff, ne_eq, not_false_eq_true, Int.reduceEq, Int.reduceLT, Int.reduceLE, Int.reduceNeg, Int.reduceToNat, Int.reduceGT, Int.reduceGE, Nat.reduceLT, Nat.lt_add_one, Nat.zero_lt_succ, Nat.succ_pos, Nat.zero_le, beq_self_eq_true, k_token_Split_1, k_token_Split_0, k_token_Split_3, k_token_Split_2, e0]
          simp [splitV, fullV, hne]
    · have w := wrap64 (x := (i : Int) + 1) (by omega) (by omega)
      rw [hd, splitG_step] at hsp
      have own1 := own_next hf hl' hd
      have k1 : ¬ (92 : UInt8) = 34 := by decide
      have k2 : ¬ (44 : UInt8) = 34 := by decide
      by_cases c1 : c = 34
      · simp (maxSteps := 4000000) only [vm, vl, Arg.get, cells, stor, boundO, resultsV, resV, partK, loadV, Vm.part, fillC, splice, reduceIte, reduceCtorEq, Nat.reduceEqDiff, Nat.reduceAdd, Nat.reduceSub, Nat.reduceMul, Nat.reduceLeDiff, ne_eq, not_false_eq_true, Int.reduceEq, Int.reduceLT, Int.reduceLE, Int.reduceNeg, Int.reduceToNat, Int.reduceGT, Int.reduceGE, Nat.reduceLT, Nat.lt_add_one, Nat.zero_lt_succ, Nat.succ_pos, Nat.zero_le, beq_self_eq_true, k_token_Split_1, k_token_Split_0, k_token_Split_3, k_token_Split_2, e1, e4, e6, e7, e8, hb1, hl, hl', hc, u34, u92, u44, w, c1]
        refine ⟨s.length + 1 - (i + 1), by omega, i + 1, f, !q, out, rfl, by omega, hfs, hol, H, by simp [upd, e1], by simp [upd, e4], by simp [upd, e6], by simp [upd], by simp [upd], .inl ⟨hl', ?_⟩⟩
        rw [hsp, if_pos c1, own1]
      rw [if_neg c1] at hsp
      cases q with
      | true =>
        by_cases c2 : c = 92
        · have w2 := wrap64 (x := (i : Int) + 1 + 1) (by omega) (by omega)
          simp (maxSteps := 4000000) only [vm, vl, Arg.get, cells, stor, boundO, resultsV, resV, partK, loadV, Vm.part, fillC, splice, reduceIte, reduceCtorEq, Nat.reduceEqDiff, Nat.reduceAdd, Nat.reduceSub, Nat.reduceMul, Nat.reduceLeDiff, ne_eq, not_false_eq_true, Int.reduceEq, Int.reduceLT, Int.reduceLE, Int.reduceNeg, Int.reduceToNat, Int.reduceGT, Int.reduceGE, Nat.reduceLT, Nat.lt_add_one, Nat.zero_lt_succ, Nat.succ_pos, Nat.zero_le, beq_self_eq_true, k_token_Split_1, k_token_Split_0, k_token_Split_3, k_token_Split_2, e1, e4, e6, e7, e8, hb1, hl, hl', hc, u34, u92, u44, w, c1, c2, w2, k1]
          rw [if_pos (by simp [c2])] at hsp
          refine ⟨s.length + 1 - (i + 2), by omega, i + 2, f, true, out, rfl, by omega, hfs, hol, H, by simp [upd, e1], by simp [upd, e4], by simp [upd, e6], by simp [upd, e7], by simp [upd]; omega, ?_⟩
          rcases str_at (s := s) (i := i + 1) (by omega) with ⟨_, hn, hd1⟩ | ⟨d, _, hl1, _, hd1⟩
          · rw [hd1] at hsp
            exact .inr ⟨by omega, rfl, hsp⟩
          · rw [hd1] at hsp
            refine .inl ⟨by omega, ?_⟩
            rw [hsp, own_next (by omega) hl1 hd1, own1]
            simp
        · simp (maxSteps := 4000000) only [vm, vl, Arg.get, cells, stor, boundO, resultsV, resV, partK, loadV, Vm.part, fillC, splice, reduceIte, reduceCtorEq, Nat.reduceEqDiff, Nat.reduceAdd, Nat.reduceSub, Nat.reduceMul, Nat.reduceLeDiff, ne_eq, not_false_eq_true, Int.reduceEq, Int.reduceLT, Int.reduceLE, Int.reduceNeg, Int.reduceToNat, Int.reduceGT, Int.reduceGE, Nat.reduceLT, Nat.lt_add_one, Nat.zero_lt_succ, Nat.succ_pos, Nat.zero_le, beq_self_eq_true, k_token_Split_1, k_token_Split_0, k_token_Split_3, k_token_Split_2, e1, e4, e6, e7, e8, hb1, hl, hl', hc, u34, u92, u44, w, c1, c2]
          rw [if_neg (by simp [c2]), if_neg (by simp)] at hsp
          refine ⟨s.length + 1 - (i + 1), by omega, i + 1, f, true, out, rfl, by omega, hfs, hol, H, by simp [upd, e1], by simp [upd, e4], by simp [upd, e6], by simp [upd, e7], by simp [upd], .inl ⟨hl', ?_⟩⟩
          rw [hsp, own1]
      | false =>
        rw [if_neg (by simp)] at hsp
        by_cases c2 : c = 44
        · rw [if_pos (by simp [c2])] at hsp
          simp (maxSteps := 4000000) only [vm, vl, Arg.get, cells, stor, boundO, resultsV, resV, partK, loadV, Vm.part, fillC, splice, reduceIte, reduceCtorEq, Nat.reduceEqDiff, Nat.reduceAdd, Nat.reduceSub, Nat.reduceMul, Nat.reduceLeDiff, ne_eq, not_false_eq_true, Int.reduceEq, Int.reduceLT, Int.reduceLE, Int.reduceNeg, Int.reduceToNat, Int.reduceGT, Int.reduceGE, Nat.reduceLT, Nat.lt_add_one, Nat.zero_lt_succ, Nat.succ_pos, Nat.zero_le, beq_self_eq_true, k_token_Split_1, k_token_Split_0, k_token_Split_3, k_token_Split_2, e1, e4, e6, e7, e8, hb1, hl, hl', hc, u34, u92, u44, w, c1, c2, k2]
          refine end_ok (own := (s.take i).drop f) (from_ := f) (to := (i : Int)) (by omega) (by omega) (by omega) (by omega) (by omega) (by omega) (by simp) H fun h'' H'' => ?_
          refine ⟨s.length + 1 - (i + 1), by omega, i + 1, i + 1, false, flush out ((s.take i).drop f), rfl, by omega, hl', ?_, by simpa using H'', by simp [upd, e1], by simp [upd, e4], by simp [upd, e6], by simp [upd, e7], by simp [upd], .inl ⟨hl', ?_⟩⟩
          · have := flush_len out ((s.take i).drop f); omega
          · rw [hsp, own_none]
        · rw [if_neg (by simp [c2])] at hsp
          simp (maxSteps := 4000000) only [vm, vl, Arg.get, cells, stor, boundO, resultsV, resV, partK, loadV, Vm.part, fillC, splice, reduceIte, reduceCtorEq, Nat.reduceEqDiff, Nat.reduceAdd, Nat.reduceSub, Nat.reduceMul, Nat.reduceLeDiff, ne_eq, not_false_eq_true, Int.reduceEq, Int.reduceLT, Int.reduceLE, Int.reduceNeg, Int.reduceToNat, Int.reduceGT, Int.reduceGE, Nat.reduceLT, Nat.lt_add_one, Nat.zero_lt_succ, Nat.succ_pos, Nat.zero_le, beq_self_eq_true, k_token_Split_1, k_token_Split_0, k_token_Split_3, k_token_Split_2, e1, e4, e6, e7, e8, hb1, hl, hl', hc, u34, u92, u44, w, c1, c2]
          refine ⟨s.length + 1 - (i + 1), by omega, i + 1, f, false, out, rfl, by omega, hfs, hol, H, by simp [upd, e1], by simp [upd, e4], by simp [upd, e6], by simp [upd, e7], by simp [upd], .inl ⟨hl', ?_⟩⟩
          rw [hsp, own1]
  · have hn : ¬ ((s.length + 1 : Nat) : Int) < s.length := by omega
    simp (maxSteps := 4000000) only [vm, vl, Arg.get, cells, stor, boundO, resultsV, resV, partK, loadV, Vm.part, fillC, splice, reduceIte, reduceCtorEq, Nat.reduceEqDiff, Nat.reduceAdd, Nat.reduceSub, Nat.reduceMul, Nat.reduceLeDiff, ne_eq, not_false_eq_true, Int.reduceEq, Int.reduceLT, Int.reduceLE, Int.reduceNeg, Int.reduceToNat, Int.reduceGT, Int.reduceGE, Nat.reduceLT, Nat.lt_add_one, Nat.zero_lt_succ, Nat.succ_pos, Nat.zero_le, beq_self_eq_true, k_token_Split_1, k_token_Split_0, k_token_Split_3, k_token_Split_2, e1, e4, e6, e7, e8, hb1, hn, hsp]
    exact ⟨rfl, by obtain ⟨lv, t, rfl, _⟩ := H; exact ⟨_, rfl⟩⟩
end Go.Proofs.YtfihnnebffkbfaaDoor.Vh
end
section
set_option linter.unusedVariables false
set_option linter.unusedSimpArgs false
namespace Go.Proofs.YtfihnnebffkbfaaDoor.Vh
open Go.Vm Go.Vt
attribute [local congr] wi_congr wg_congr wgd_congr wb_congr wl_congr cf_congr
variable {L : FuncId → List V → V → Prop} {h : Heap}
theorem full_list (out : List Bs) : ListV 1 (fullV out) (strs out) := by
  unfold fullV ListV
  by_cases h : out = []
  · simp [h, strs]
  · simp [h, strs]
theorem splitG_none {s own : Bs} {q : Bool} {out : List Bs} (h : s = []) : splitG s own q out = if q then none else some (flush out own) := by subst h; rfl
def RSplitI (h : Heap) (s : Bs) (n : Nat) (e : Env) (h' : Heap) : Prop :=
  ∃ (i : Nat) (own : Bs) (q : Bool) (out : List Bs), n = s.length - i ∧ i ≤ s.length ∧ own.length ≤ i ∧ out.length ≤ i ∧ Grow 1 h h' (e 4) (strs out) ∧
    e 0 = .str s ∧ e 5 = .str own ∧ e 6 = .bool q ∧ e 7 = .int .i64 i ∧ split s = splitG (s.drop i) own q out
/-- What Split comes to: a list, or none. -/
def SplitP (h : Heap) (o : Option (List Bs)) (v : V) (h' : Heap) : Prop := (∃ t, h' = h ++ t) ∧ ((o = none ∧ v = .tup [.nsl, .bool false]) ∨ ∃ out x, o = some out ∧ v = .tup [x, .bool true] ∧ ListV 1 x (strs out))
theorem SplitP.no {h h' : Heap} (hh : ∃ t, h' = h ++ t) : SplitP h none (.tup [.nsl, .bool false]) h' := ⟨hh, .inl ⟨rfl, rfl⟩⟩
theorem SplitP.yes {h h' : Heap} {x : V} {out : List Bs} (hh : ∃ t, h' = h ++ t) (hl : ListV 1 x (strs out)) : SplitP h (some out) (.tup [x, .bool true]) h' := ⟨hh, .inr ⟨out, x, rfl, rfl, hl⟩⟩
theorem rSplit_ok {s : Bs} (hs : s.length < 1000000000) : Cf F L i_gatepostref01_Split [.str s] h (SplitP h (split s)) := by
  refine run_gatepostref01_Split ?_
  simp only [p_gatepostref01_Split]
  refine l_gatepostref01_Split_0 (RSplitI h s) ?_ (n := s.length) ⟨0, [], false, [], by simp, by simp, by simp, by simp, .nil0, rfl, rfl, rfl, rfl, by simp [split]⟩
  rintro n e h' ⟨i, own, q, out, rfl, hi, how, hol, G, e0, e5, e6, e7, hst⟩
  simp only [b_gatepostref01_Split_0]
  generalize e4 : e 4 = x4 at *
  have hown : own.length < 9223372036854775807 := by omega
  have hfl := flush_len out own
  rcases str_at hi with ⟨hn, rfl, hd⟩ | ⟨c, hl, hl', hc, hd⟩
  · rw [hd] at hst
    simp (maxSteps := 4000000) only [vm, vl, Arg.get, cells, stor, boundO, resultsV, resV, partK, loadV, Vm.part, fillC, splice, reduceIte, reduceCtorEq, Nat.reduceEqDiff, Nat.reduceAdd, Nat.reduceSub, Nat.reduceMul, Nat.reduceLeDiff, ne_eq, not_false_eq_true, Int.reduceEq, Int.reduceLT, Int.reduceLE, Int.reduceNeg, Int.reduceToNat, Int.reduceGT, Int.reduceGE, Nat.reduceLT, Nat.lt_add_one, Nat.zero_lt_succ, Nat.succ_pos, Nat.zero_le, beq_self_eq_true, k_gatepostref01_Split_2, k_gatepostref01_Split_1, k_gatepostref01_Split_0, k_gatepostref01_Split_4, k_gatepostref01_Split_6, k_gatepostref01_Split_5, k_gatepostref01_Split_7, k_gatepostref01_Split_3, e0, e4, e5, e6, e7, hn]
    refine Cf.pu (rTrim_ok hown) fun t => ?_
    have G' := G.more (t := t)
    rw [hst]
    cases q with
    | true =>
      simp (maxSteps := 4000000) only [vm, vl, Arg.get, cells, stor, boundO, resultsV, resV, partK, loadV, Vm.part, fillC, splice, reduceIte, reduceCtorEq, Nat.reduceEqDiff, Nat.reduceAdd, Nat.reduceSub, Nat.reduceMul, Nat.reduceLeDiff, ne_eq, not_false_eq_true, Int.reduceEq, Int.reduceLT, Int.reduceLE, Int.reduceNeg, Int.reduceToNat, Int.reduceGT, Int.reduceGE, Nat.reduceLT, Nat.lt_add_one, Nat.zero_lt_succ, Nat.succ_pos, Nat.zero_le, beq_self_eq_true, k_gatepostref01_Split_2, k_gatepostref01_Split_1, k_gatepostref01_Split_0, k_gatepostref01_Split_4, k_gatepostref01_Split_6, k_gatepostref01_Split_5, k_gatepostref01_Split_7, k_gatepostref01_Split_3]
      exact .no G'.1
    | false =>
      show _
      have ef2 : splitG [] own false out = some (flush out own) := rfl
      rw [ef2]
      by_cases he : trim own = []
      · have q : (trim own == []) = true := by rw [he]; rfl
        have ef : flush out own = out := by simp [flush, he]
        rw [ef]
        simp (maxSteps := 4000000) only [vm, vl, Arg.get, cells, stor, boundO, resultsV, resV, partK, loadV, Vm.part, fillC, splice, reduceIte, reduceCtorEq, Nat.reduceEqDiff, Nat.reduceAdd, Nat.reduceSub, Nat.reduceMul, Nat.reduceLeDiff, ne_eq, not_false_eq_true, Int.reduceEq, Int.reduceLT, Int.reduceLE, Int.reduceNeg, Int.reduceToNat, Int.reduceGT, Int.reduceGE, Nat.reduceLT, Nat.lt_add_one, Nat.zero_lt_succ, Nat.succ_pos, Nat.zero_le, beq_self_eq_true, k_gatepostref01_Split_2, k_gatepostref01_Split_1, k_gatepostref01_Split_0, k_gatepostref01_Split_4, k_gatepostref01_Split_6, k_gatepostref01_Split_5, k_gatepostref01_Split_7, k_gatepostref01_Split_3, q]
        exact .yes G'.1 G'.list
      · have q : (trim own == []) = false := by simpa using he
        have ef : flush out own = out ++ [trim own] := by simp [flush, he]
        rw [ef]
        obtain ⟨x', h'', ha, G''⟩ := G'.app (bytes := 16) (y := .str (trim own)) (by rw [strs_len]; omega)
        rw [strs_app] at G''
        simp (maxSteps := 4000000) only [vm, vl, Arg.get, cells, stor, boundO, resultsV, resV, partK, loadV, Vm.part, fillC, splice, reduceIte, reduceCtorEq, Nat.reduceEqDiff, Nat.reduceAdd, Nat.reduceSub, Nat.reduceMul, Nat.reduceLeDiff, ne_eq, not_false_eq_true, Int.reduceEq, Int.reduceLT, Int.reduceLE, Int.reduceNeg, Int.reduceToNat, Int.reduceGT, Int.reduceGE, Nat.reduceLT, Nat.lt_add_one, Nat.zero_lt_succ, Nat.succ_pos, Nat.zero_le, beq_self_eq_true, k_gatepostref01_Split_2, k_gatepostref01_Split_1, k_gatepostref01_Split_0, k_gatepostref01_Split_4, k_gatepostref01_Split_6, k_gatepostref01_Split_5, k_gatepostref01_Split_7, k_gatepostref01_Split_3, q, ha]
        exact .yes G''.1 G''.list
  · have w := wrap64 (x := (i : Int) + 1) (by omega) (by omega)
    rw [hd, splitG_step] at hst
    have k0 : i ≤ i + 1 := by omega
    have ec : List.drop i (List.take (i + 1) s) = [c] := by
      rw [take_succ hl' hd, List.drop_append]
      simp [Nat.min_eq_left (Nat.le_of_lt hl'), List.drop_eq_nil_of_le]
    have hadd : binV .add (.str own) (.str [c]) = some (.str (own ++ [c])) := bin_sadd (by simp; omega)
    by_cases c44 : q = false ∧ c = 44
    · obtain ⟨rfl, rfl⟩ := c44
      have k1 : ¬ (44 : UInt8) = 34 := by decide
      rw [if_neg k1, if_neg (by simp), if_pos (by simp)] at hst
      simp (maxSteps := 4000000) only [vm, vl, Arg.get, cells, stor, boundO, resultsV, resV, partK, loadV, Vm.part, fillC, splice, reduceIte, reduceCtorEq, Nat.reduceEqDiff, Nat.reduceAdd, Nat.reduceSub, Nat.reduceMul, Nat.reduceLeDiff, ne_eq, not_false_eq_true, Int.reduceEq, Int.reduceLT, Int.reduceLE, Int.reduceNeg, Int.reduceToNat, Int.reduceGT, Int.reduceGE, Nat.reduceLT, Nat.lt_add_one, Nat.zero_lt_succ, Nat.succ_pos, Nat.zero_le, beq_self_eq_true, k_gatepostref01_Split_2, k_gatepostref01_Split_1, k_gatepostref01_Split_0, k_gatepostref01_Split_4, k_gatepostref01_Split_6, k_gatepostref01_Split_5, k_gatepostref01_Split_7, k_gatepostref01_Split_3, e0, e4, e5, e6, e7, hl, hl', hc, u44]
      refine Cf.pu (rTrim_ok hown) fun t => ?_
      have G' := G.more (t := t)
      by_cases he : trim own = []
      · have q : (trim own == []) = true := by rw [he]; rfl
        have ef : flush out own = out := by simp [flush, he]
        rw [ef] at hst
        simp (maxSteps := 4000000) only [vm, vl, Arg.get, cells, stor, boundO, resultsV, resV, partK, loadV, Vm.part, fillC, splice, reduceIte, reduceCtorEq, Nat.reduceEqDiff, Nat.reduceAdd, Nat.reduceSub, Nat.reduceMul, Nat.reduceLeDiff, ne_eq, not_false_eq_true, Int.reduceEq, Int.reduceLT, Int.reduceLE, Int.reduceNeg, Int.reduceToNat, Int.reduceGT, Int.reduceGE, Nat.reduceLT, Nat.lt_add_one, Nat.zero_lt_succ, Nat.succ_pos, Nat.zero_le, beq_self_eq_true, k_gatepostref01_Split_2, k_gatepostref01_Split_1, k_gatepostref01_Split_0, k_gatepostref01_Split_4, k_gatepostref01_Split_6, k_gatepostref01_Split_5, k_gatepostref01_Split_7, k_gatepostref01_Split_3, q, w]
        exact ⟨s.length - (i + 1), by omega, i + 1, [], false, out, rfl, hl', by simp, by omega, by simpa [upd, e4] using G', by simp [upd, e0], by simp [upd], by simp [upd, e6], by simp [upd], hst⟩
      · have q : (trim own == []) = false := by simpa using he
        have ef : flush out own = out ++ [trim own] := by simp [flush, he]
        rw [ef] at hst
        obtain ⟨x', h'', ha, G''⟩ := G'.app (bytes := 16) (y := .str (trim own)) (by rw [strs_len]; omega)
        rw [strs_app] at G''
        simp (maxSteps := 4000000) only [vm, vl, Arg.get, cells, stor, boundO, resultsV, resV, partK, loadV, Vm.part, fillC, splice, reduceIte, reduceCtorEq, Nat.reduceEqDiff, Nat.reduceAdd, Nat.reduceSub, Nat.reduceMul, Nat.reduceLeDiff, ne_eq, not_false_eq_true, Int.reduceEq, Int.reduceLT, Int.reduceLE, Int.reduceNeg, Int.reduceToNat, Int.reduceGT, Int.reduceGE, Nat.reduceLT, Nat.lt_add_one, Nat.zero_lt_succ, Nat.succ_pos, Nat.zero_le, beq_self_eq_true, k_gatepostref01_Split_2, k_gatepostref01_Split_1, k_gatepostref01_Split_0, k_gatepostref01_Split_4, k_gatepostref01_Split_6, k_gatepostref01_Split_5, k_gatepostref01_Split_7, k_gatepostref01_Split_3, q, ha, w]
        exact ⟨s.length - (i + 1), by omega, i + 1, [], false, out ++ [trim own], rfl, hl', by simp, by simp; omega, by simpa [upd] using G'', by simp [upd, e0], by simp [upd], by simp [upd, e6], by simp [upd], hst⟩
    · by_cases c34 : c = 34
      · subst c34
        have k1 : ¬ (34 : UInt8) = 44 := by decide
        have k2 : ¬ (34 : UInt8) = 92 := by decide
        rw [if_pos rfl] at hst
        have g := take_succ hl' hd
        cases q <;> simp (maxSteps := 4000000) only [vm, vl, Arg.get, cells, stor, boundO, resultsV, resV, partK, loadV, Vm.part, fillC, splice, reduceIte, reduceCtorEq, Nat.reduceEqDiff, Nat.reduceAdd, Nat.reduceSub, Nat.reduceMul, Nat.reduceLeDiff, ne_eq, not_false_eq_true, Int.reduceEq, Int.reduceLT, Int.reduceLE, Int.reduceNeg, Int.reduceToNat, Int.reduceGT, Int.reduceGE, Nat.reduceLT, Nat.lt_add_one, Nat.zero_lt_succ, Nat.succ_pos, Nat.zero_le, beq_self_eq_true, k_gatepostref01_Split_2, k_gatepostref01_Split_1, k_gatepostref01_Split_0, k_gatepostref01_Split_4, k_gatepostref01_Split_6, k_gatepostref01_Split_5, k_gatepostref01_Split_7, k_gatepostref01_Split_3, e0, e4, e5, e6, e7, hl, hl', hc, u44, u34, u92, k0, k1, k2, w, ec, hadd]
        · exact ⟨hl', s.length - (i + 1), by omega, i + 1, own ++ [34], true, out, rfl, hl', by simp; omega, by omega, by simpa [upd, e4] using G, by simp [upd, e0], by simp [upd], by simp [upd], by simp [upd], hst⟩
        · exact ⟨hl', s.length - (i + 1), by omega, i + 1, own ++ [34], false, out, rfl, hl', by simp; omega, by omega, by simpa [upd, e4] using G, by simp [upd, e0], by simp [upd], by simp [upd], by simp [upd], hst⟩
      · rw [if_neg c34] at hst
        cases q with
        | false =>
          have k1 : ¬ c = 44 := fun h => c44 ⟨rfl, h⟩
          rw [if_neg (by simp), if_neg (by simp [k1])] at hst
          simp (maxSteps := 4000000) only [vm, vl, Arg.get, cells, stor, boundO, resultsV, resV, partK, loadV, Vm.part, fillC, splice, reduceIte, reduceCtorEq, Nat.reduceEqDiff, Nat.reduceAdd, Nat.reduceSub, Nat.reduceMul, Nat.reduceLeDiff, ne_eq, not_false_eq_true, Int.reduceEq, Int.reduceLT, Int.reduceLE, Int.reduceNeg, Int.reduceToNat, Int.reduceGT, Int.reduceGE, Nat.reduceLT, Nat.lt_add_one, Nat.zero_lt_succ, Nat.succ_pos, Nat.zero_le, beq_self_eq_true, k_gatepostref01_Split_2, k_gatepostref01_Split_1, k_gatepostref01_Split_0, k_gatepostref01_Split_4, k_gatepostref01_Split_6, k_gatepostref01_Split_5, k_gatepostref01_Split_7, k_gatepostref01_Split_3, e0, e4, e5, e6, e7, hl, hl', hc, u44, u34, u92, k0, k1, c34, w, ec, hadd]
          exact ⟨hl', s.length - (i + 1), by omega, i + 1, own ++ [c], false, out, rfl, hl', by simp; omega, by omega, by simpa [upd, e4] using G, by simp [upd, e0], by simp [upd], by simp [upd, e6], by simp [upd], hst⟩
        | true =>
          by_cases c92 : c = 92
          · subst c92
            have k1 : ¬ (92 : UInt8) = 34 := by decide
            rw [if_pos (by simp)] at hst
            rcases str_at (s := s) (i := i + 1) (by omega) with ⟨hn1, hn2, hd1⟩ | ⟨d, hl2, hl1, _, hd1⟩
            · rw [hd1] at hst
              have hn3 : ¬ (i : Int) + 1 < s.length := by omega
              simp (maxSteps := 4000000) only [vm, vl, Arg.get, cells, stor, boundO, resultsV, resV, partK, loadV, Vm.part, fillC, splice, reduceIte, reduceCtorEq, Nat.reduceEqDiff, Nat.reduceAdd, Nat.reduceSub, Nat.reduceMul, Nat.reduceLeDiff, ne_eq, not_false_eq_true, Int.reduceEq, Int.reduceLT, Int.reduceLE, Int.reduceNeg, Int.reduceToNat, Int.reduceGT, Int.reduceGE, Nat.reduceLT, Nat.lt_add_one, Nat.zero_lt_succ, Nat.succ_pos, Nat.zero_le, beq_self_eq_true, k_gatepostref01_Split_2, k_gatepostref01_Split_1, k_gatepostref01_Split_0, k_gatepostref01_Split_4, k_gatepostref01_Split_6, k_gatepostref01_Split_5, k_gatepostref01_Split_7, k_gatepostref01_Split_3, e0, e4, e5, e6, e7, hl, hl', hc, u44, u34, u92, k0, k1, w, ec, hadd, hn3]
              have hd0 : splitG (s.drop (i + 1)) (own ++ [92]) true out = none := by rw [hd1]; rfl
              exact ⟨hl', s.length - (i + 1), by omega, i + 1, own ++ [92], true, out, rfl, hl', by simp; omega, by omega, by simpa [upd, e4] using G, by simp [upd, e0], by simp [upd], by simp [upd, e6], by simp [upd], by rw [hst, hd0]⟩
            · rw [hd1] at hst
              have hl3 : (i : Int) + 1 < s.length := by omega
              have w2 := wrap64 (x := (i : Int) + 1 + 1) (by omega) (by omega)
              have t1 : ((i : Int) + 1 + 1).toNat = i + 2 := by omega
              have t2 : 0 ≤ (i : Int) + 1 + 1 := by omega
              have k3 : i + 1 ≤ i + 2 := by omega
              have k4 : i + 2 ≤ s.length := by omega
              have ec2 : List.drop (i + 1) (List.take (i + 2) s) = [d] := by
                rw [show i + 2 = (i + 1) + 1 by rfl, take_succ hl1 hd1, List.drop_append]
                simp [Nat.min_eq_left (Nat.le_of_lt hl1), List.drop_eq_nil_of_le]
              have hadd2 : binV .add (.str (own ++ [92])) (.str [d]) = some (.str (own ++ [92, d])) := by
                rw [bin_sadd (by simp; omega)]; simp
              simp (maxSteps := 4000000) only [vm, vl, Arg.get, cells, stor, boundO, resultsV, resV, partK, loadV, Vm.part, fillC, splice, reduceIte, reduceCtorEq, Nat.reduceEqDiff, Nat.reduceAdd, Nat.reduceSub, Nat.reduceMul, Nat.reduceLeDiff, ne_eq, not_false_eq_true, Int.reduceEq, Int.reduceLT, Int.reduceLE, Int.reduceNeg, Int.reduceToNat, Int.reduceGT, Int.reduceGE, Nat.reduceLT, Nat.lt_add_one, Nat.zero_lt_succ, Nat.succ_pos, Nat.zero_le, beq_self_eq_true, k_gatepostref01_Split_2, k_gatepostref01_Split_1, k_gatepostref01_Split_0, k_gatepostref01_Split_4, k_gatepostref01_Split_6, k_gatepostref01_Split_5, k_gatepostref01_Split_7, k_gatepostref01_Split_3, e0, e4, e5, e6, e7, hl, hl', hc, u44, u34, u92, k0, k1, w, ec, hadd, hl3, w2, t1, t2, k3, k4, ec2, hadd2]
              exact ⟨hl', s.length - (i + 2), by omega, i + 2, own ++ [92, d], true, out, rfl, by omega, by simp; omega, by omega, by simpa [upd, e4] using G, by simp [upd, e0], by simp [upd], by simp [upd, e6], by simp [upd]; omega, hst⟩
          · rw [if_neg (by simp [c92]), if_neg (by simp)] at hst
            simp (maxSteps := 4000000) only [vm, vl, Arg.get, cells, stor, boundO, resultsV, resV, partK, loadV, Vm.part, fillC, splice, reduceIte, reduceCtorEq, Nat.reduceEqDiff, Nat.reduceAdd, Nat.reduceSub, Nat.reduceMul, Nat.reduceLeDiff, ne_eq, not_false_eq_true, Int.reduceEq, Int.reduceLT, Int.reduceLE, Int.reduceNeg, Int.reduceToNat, Int.reduceGT, Int.reduceGE, Nat.reduceLT, Nat.lt_add_one, Nat.zero_lt_succ, Nat.succ_pos, Nat.zero_le, beq_self_eq_true, k_gatepostref01_Split_2, k_gatepostref01_Split_1, k_gatepostref01_Split_0, k_gatepostref01_Split_4, k_gatepostref01_Split_6, k_gatepostref01_Split_5, k_gatepostref01_Split_7, k_gatepostref01_Split_3, e0, e4, e5, e6, e7, hl, hl', hc, u44, u34, u92, k0, c34, c92, w, ec, hadd]
            exact ⟨hl', s.length - (i + 1), by omega, i + 1, own ++ [c], true, out, rfl, hl', by simp; omega, by omega, by simpa [upd, e4] using G, by simp [upd, e0], by simp [upd], by simp [upd, e6], by simp [upd], hst⟩
end Go.Proofs.YtfihnnebffkbfaaDoor.Vh
end
section
set_option linter.unusedVariables false
set_option linter.unusedSimpArgs false
namespace Go.Proofs.YtfihnnebffkbfaaDoor.Vh
open Go.Vm Go.Vt
theorem trimL_len (s : Bs) : (trimL s).length ≤ s.length := (List.dropWhile_sublist _).length_le
theorem trimR_len : ∀ s : Bs, (trimR s).length ≤ s.length
  | [] => by simp [trimR]
  | c :: r => by
    have := trimR_len r
    unfold trimR
    split
    · split
      · simp
      · simp
    · rename_i h
      simp only [List.length_cons]; omega
theorem trim_len (s : Bs) : (trim s).length ≤ s.length := Nat.le_trans (trimL_len _) (trimR_len _)
theorem flush_mem {out : List Bs} {own x : Bs} (h : x ∈ flush out own) : x ∈ out ∨ x.length ≤ own.length := by
  unfold flush at h
  split at h
  · exact .inl h
  · rcases List.mem_append.1 h with h | h
    · exact .inl h
    · right; rw [List.mem_singleton.1 h]; exact trim_len _
theorem splitG_mem : ∀ {n : Nat} {s own : Bs} {q : Bool} {out l : List Bs}, s.length ≤ n → splitG s own q out = some l → ∀ x ∈ l, x ∈ out ∨ x.length ≤ own.length + s.length
  | n, [], own, q, out, l, hn, h, x, hx => by
    have e : splitG [] own q out = if q then none else some (flush out own) := rfl
    rw [e] at h
    split at h
    · cases h
    · injection h with h; subst h
      exact (flush_mem hx).imp_right fun h => by simpa using h
  | 0, c :: r, own, q, out, l, hn, h, x, hx => by simp at hn
  | n + 1, c :: r, own, q, out, l, hn, h, x, hx => by
    simp at hn
    rw [splitG_step] at h
    split at h
    · refine (splitG_mem hn h x hx).imp_right fun this => ?_; simp only [List.length_append, List.length_cons, List.length_nil] at this ⊢; omega
    split at h
    · cases r with
      | nil => cases h
      | cons d r =>
        refine (splitG_mem (n := n) (by simp at hn; omega) h x hx).imp_right fun this => ?_; simp only [List.length_append, List.length_cons, List.length_nil] at this ⊢; omega
    split at h
    · rcases splitG_mem hn h x hx with h1 | h1
      · refine (flush_mem h1).imp_right fun this => ?_; simp only [List.length_cons]; omega
      · right; simp only [List.length_cons, List.length_nil] at h1 ⊢; omega
    · refine (splitG_mem hn h x hx).imp_right fun this => ?_; simp only [List.length_append, List.length_cons, List.length_nil] at this ⊢; omega
theorem split_mem {s : Bs} {l : List Bs} (h : split s = some l) : ∀ x ∈ l, x.length ≤ s.length := by
  intro x hx
  have := splitG_mem (Nat.le_refl _) h x hx
  simpa using this
theorem splitG_len : ∀ {n : Nat} {s own : Bs} {q : Bool} {out l : List Bs}, s.length ≤ n → splitG s own q out = some l → l.length ≤ out.length + s.length + 1
  | 0, s, own, q, out, l, hn, h => by
    obtain rfl : s = [] := List.eq_nil_of_length_eq_zero (by omega)
    rw [splitG_none rfl] at h
    split at h
    · cases h
    · injection h with h; subst h
      have := flush_len out own; simp; omega
  | n + 1, [], own, q, out, l, hn, h => splitG_len (n := n) (by simp) h
  | n + 1, c :: r, own, q, out, l, hn, h => by
    simp at hn
    rw [splitG_step] at h
    split at h
    · have := splitG_len hn h; simp; omega
    split at h
    · cases r with
      | nil => cases h
      | cons d r =>
        have := splitG_len (n := n) (by simp at hn; omega) h; simp; omega
    split at h
    · have := splitG_len hn h
      have := flush_len out own; simp; omega
    · have := splitG_len hn h; simp; omega
end Go.Proofs.YtfihnnebffkbfaaDoor.Vh
end
section
set_option linter.unusedVariables false
set_option linter.unusedSimpArgs false
namespace Go.Proofs.YtfihnnebffkbfaaDoor.Vh
open Go.Vm Go.Vt
attribute [local congr] wi_congr wg_congr wgd_congr wb_congr wl_congr cf_congr
variable {L : FuncId → List V → V → Prop} {h : Heap}
theorem strs_at {l : List Bs} {i : Nat} (hi : i < l.length) : (strs l).getD i (.tup []) = .str (l.getD i []) := by
  unfold strs
  rw [List.getD_eq_getElem?_getD, List.getD_eq_getElem?_getD, List.getElem?_map, List.getElem?_eq_getElem hi]; rfl
/-- What Names come to. -/
def namesO (s : Bs) : Option (List Bs) := match split s with
  | some a => if a.all isTok then some (a.map low) else none
  | none => none
def NamesP (h : Heap) (o : Option (List Bs)) (v : V) (h' : Heap) : Prop := (o = none ∧ v = .tup [.nsl, .bool false] ∧ ∃ t, h' = h ++ t) ∨ ∃ out x, o = some out ∧ v = .tup [x, .bool true] ∧ Grow 1 h h' x (strs out)
theorem mem_split_len {s : Bs} {a : List Bs} (hs : split s = some a) : a.length ≤ s.length + 1 := by
  have := splitG_len (Nat.le_refl _) hs
  simp at this; omega
theorem Names_ok (HJ : JoinOk L) {x : V} {l : List Fld} {name : Bs} (hx : ListV 2 x (flds l)) (hl : l.length < 100000) (hln : ∀ f ∈ l, f.1.length ≤ 140737488355328) (hn : name.length ≤ 140737488355328) (hj : (joinS (valsOf l name)).length ≤ 100000) :
    Cf F L i_field_Names [x, .str name] h (NamesP h (namesO (joinS (valsOf l name)))) := by
  refine run_field_Names ?_
  simp only [p_field_Names]
  simp (maxSteps := 4000000) only [vm, vl, Arg.get, cells, stor, boundO, resultsV, resV, partK, loadV, Vm.part, fillC, splice, reduceIte, reduceCtorEq, Nat.reduceEqDiff, Nat.reduceAdd, Nat.reduceSub, Nat.reduceMul, Nat.reduceLeDiff, ne_eq, not_false_eq_true, Int.reduceEq, Int.reduceLT, Int.reduceLE, Int.reduceNeg, Int.reduceToNat, Int.reduceGT, Int.reduceGE, Nat.reduceLT, Nat.lt_add_one, Nat.zero_lt_succ, Nat.succ_pos, Nat.zero_le, beq_self_eq_true, k_field_Names_1, k_field_Names_0, k_field_Names_3, k_field_Names_2]
  refine Cf.pu (Get_ok HJ hx (by omega) hln hn (by omega)) fun t => ?_
  simp only [getV]
  simp (maxSteps := 4000000) only [vm, vl, Arg.get, cells, stor, boundO, resultsV, resV, partK, loadV, Vm.part, fillC, splice, reduceIte, reduceCtorEq, Nat.reduceEqDiff, Nat.reduceAdd, Nat.reduceSub, Nat.reduceMul, Nat.reduceLeDiff, ne_eq, not_false_eq_true, Int.reduceEq, Int.reduceLT, Int.reduceLE, Int.reduceNeg, Int.reduceToNat, Int.reduceGT, Int.reduceGE, Nat.reduceLT, Nat.lt_add_one, Nat.zero_lt_succ, Nat.succ_pos, Nat.zero_le, beq_self_eq_true, k_field_Names_1, k_field_Names_0, k_field_Names_3, k_field_Names_2]
  refine Cf.pu (Split_ok (by omega)) fun t1 => ?_
  generalize joinS (valsOf l name) = s at *
  cases q : split s with
  | none =>
    simp only [splitV]
    simp (maxSteps := 4000000) only [vm, vl, Arg.get, cells, stor, boundO, resultsV, resV, partK, loadV, Vm.part, fillC, splice, reduceIte, reduceCtorEq, Nat.reduceEqDiff, Nat.reduceAdd, Nat.reduceSub, Nat.reduceMul, Nat.reduceLeDiff, ne_eq, not_false_eq_true, Int.reduceEq, Int.reduceLT, Int.reduceLE, Int.reduceNeg, Int.reduceToNat, Int.reduceGT, Int.reduceGE, Nat.reduceLT, Nat.lt_add_one, Nat.zero_lt_succ, Nat.succ_pos, Nat.zero_le, beq_self_eq_true, k_field_Names_1, k_field_Names_0, k_field_Names_3, k_field_Names_2]
    refine l_field_Names_0 (fun n e h' => e 9 = .bool false ∧ e 10 = .nsl ∧ e 25 = .int .i64 0 ∧ e 26 = .int .i64 0 ∧ ∃ t, h' = h ++ t) ?_ (n := 0) ⟨rfl, rfl, rfl, rfl, _, rfl⟩
    rintro n e h' ⟨e9, e10, e25, e26, t, rfl⟩
    simp only [b_field_Names_0]
    simp (maxSteps := 4000000) only [vm, vl, Arg.get, cells, stor, boundO, resultsV, resV, partK, loadV, Vm.part, fillC, splice, reduceIte, reduceCtorEq, Nat.reduceEqDiff, Nat.reduceAdd, Nat.reduceSub, Nat.reduceMul, Nat.reduceLeDiff, ne_eq, not_false_eq_true, Int.reduceEq, Int.reduceLT, Int.reduceLE, Int.reduceNeg, Int.reduceToNat, Int.reduceGT, Int.reduceGE, Nat.reduceLT, Nat.lt_add_one, Nat.zero_lt_succ, Nat.succ_pos, Nat.zero_le, beq_self_eq_true, k_field_Names_1, k_field_Names_0, k_field_Names_3, k_field_Names_2, e9, e10, e25, e26, decide_false, Bool.not_false]
    exact .inl ⟨by simp [namesO, q], rfl, _, rfl⟩
  | some a =>
    simp only [splitV]
    have hal := mem_split_len q
    have hfl := full_list a
    generalize fullV a = fa at *
    have l1 := fun {K : V → Heap → Prop} {h : Heap} => hfl.len (F := F) (L := L) (e := E0) (K := K) (h := h)
    simp only [strs_len] at l1
    have main : ∀ (e : Env) (h' : Heap), e 9 = .bool true → e 10 = .nsl → e 24 = fa → e 25 = .int .i64 a.length → e 26 = .int .i64 0 → (∃ t, h' = h ++ t) → Wl F L lc_field_Names_0 (q_field_Names_0 L (NamesP h (namesO s))) e h' := by
      rintro e h' e9 e10 e24 e25 e26 ⟨t, rfl⟩
      refine l_field_Names_0 (fun n e h' => ∃ i, n = a.length - i ∧ i ≤ a.length ∧ e 9 = .bool ((a.take i).all isTok) ∧ Grow 1 h h' (e 10) (strs ((a.take i).map low)) ∧ e 24 = fa ∧ e 25 = .int .i64 a.length ∧ e 26 = .int .i64 i) ?_ (n := a.length) ⟨0, by simp, by simp, e9, by rw [e10]; exact Grow.nil, e24, e25, e26⟩
      clear e9 e10 e24 e25 e26
      rintro n e h' ⟨i, rfl, hi, e9, G, e24, e25, e26⟩
      simp only [b_field_Names_0]
      generalize e10 : e 10 = x10 at *
      rcases list_at [] hi with ⟨hn', rfl, hd⟩ | ⟨hl1, hl2, hd, htk⟩
      · rw [List.take_of_length_le (Nat.le_refl _)] at G e9
        cases qa : a.all isTok with
        | true =>
          rw [qa] at e9
          simp (maxSteps := 4000000) only [vm, vl, Arg.get, cells, stor, boundO, resultsV, resV, partK, loadV, Vm.part, fillC, splice, reduceIte, reduceCtorEq, Nat.reduceEqDiff, Nat.reduceAdd, Nat.reduceSub, Nat.reduceMul, Nat.reduceLeDiff, ne_eq, not_false_eq_true, Int.reduceEq, Int.reduceLT, Int.reduceLE, Int.reduceNeg, Int.reduceToNat, Int.reduceGT, Int.reduceGE, Nat.reduceLT, Nat.lt_add_one, Nat.zero_lt_succ, Nat.succ_pos, Nat.zero_le, beq_self_eq_true, k_field_Names_1, k_field_Names_0, k_field_Names_3, k_field_Names_2, e9, e10, e24, e25, e26, hn', Bool.not_true]
          exact .inr ⟨a.map low, x10, by simp only [namesO, q, qa, if_true], rfl, G⟩
        | false =>
          rw [qa] at e9
          simp (maxSteps := 4000000) only [vm, vl, Arg.get, cells, stor, boundO, resultsV, resV, partK, loadV, Vm.part, fillC, splice, reduceIte, reduceCtorEq, Nat.reduceEqDiff, Nat.reduceAdd, Nat.reduceSub, Nat.reduceMul, Nat.reduceLeDiff, ne_eq, not_false_eq_true, Int.reduceEq, Int.reduceLT, Int.reduceLE, Int.reduceNeg, Int.reduceToNat, Int.reduceGT, Int.reduceGE, Nat.reduceLT, Nat.lt_add_one, Nat.zero_lt_succ, Nat.succ_pos, Nat.zero_le, beq_self_eq_true, k_field_Names_1, k_field_Names_0, k_field_Names_3, k_field_Names_2, e9, e10, e24, e25, e26, hn', Bool.not_false]
          exact .inl ⟨by simp [namesO, q, qa], rfl, G.1⟩
      · have w := wrap64 (x := (i : Int) + 1) (by omega) (by omega)
        have i1 := fun {K : V → Heap → Prop} {h : Heap} => hfl.at (F := F) (L := L) (e := E0) (K := K) (h := h) (i := i) (by rw [strs_len]; exact hl2)
        have a1 := strs_at hl2
        have hmem : a.getD i [] ∈ a := getD_mem hl2
        have hml := split_mem q _ hmem
        generalize hf : a.getD i [] = f at *
        obtain ⟨⟨t0, rfl⟩, _⟩ := id G
        have fin : ∀ t2, ∃ x' h'', appV (h ++ (t0 ++ t2)) 1 16 false x10 (.sl 1 .full [.str (low f)]) = some (x', h'') ∧ Grow 1 h h'' x' (strs ((a.take (i + 1)).map low)) := by
          intro t2
          obtain ⟨x', h'', ha, G3⟩ := (G.more (t := t2)).app (bytes := 16) (y := .str (low f)) (by rw [strs_len, List.length_map, List.length_take]; omega)
          rw [strs_app] at G3
          rw [List.append_assoc] at ha
          exact ⟨x', h'', ha, by rw [htk, List.map_append]; exact G3⟩
        cases qi : (a.take i).all isTok with
        | true =>
          rw [qi] at e9
          simp (maxSteps := 4000000) only [vm, vl, Arg.get, cells, stor, boundO, resultsV, resV, partK, loadV, Vm.part, fillC, splice, reduceIte, reduceCtorEq, Nat.reduceEqDiff, Nat.reduceAdd, Nat.reduceSub, Nat.reduceMul, Nat.reduceLeDiff, ne_eq, not_false_eq_true, Int.reduceEq, Int.reduceLT, Int.reduceLE, Int.reduceNeg, Int.reduceToNat, Int.reduceGT, Int.reduceGE, Nat.reduceLT, Nat.lt_add_one, Nat.zero_lt_succ, Nat.succ_pos, Nat.zero_le, beq_self_eq_true, k_field_Names_1, k_field_Names_0, k_field_Names_3, k_field_Names_2, e9, e10, e24, e25, e26, hl1, i1, a1, cells, w]
          refine Cf.pu (Is_ok (by omega)) fun t2 => ?_
          simp (maxSteps := 4000000) only [vm, vl, Arg.get, cells, stor, boundO, resultsV, resV, partK, loadV, Vm.part, fillC, splice, reduceIte, reduceCtorEq, Nat.reduceEqDiff, Nat.reduceAdd, Nat.reduceSub, Nat.reduceMul, Nat.reduceLeDiff, ne_eq, not_false_eq_true, Int.reduceEq, Int.reduceLT, Int.reduceLE, Int.reduceNeg, Int.reduceToNat, Int.reduceGT, Int.reduceGE, Nat.reduceLT, Nat.lt_add_one, Nat.zero_lt_succ, Nat.succ_pos, Nat.zero_le, beq_self_eq_true, k_field_Names_1, k_field_Names_0, k_field_Names_3, k_field_Names_2]
          refine Cf.pu (Lower_ok (by omega)) fun t3 => ?_
          obtain ⟨x', h'', ha, G3⟩ := fin (t2 ++ t3)
          simp only [List.append_assoc] at ha ⊢
          simp (maxSteps := 4000000) only [vm, vl, Arg.get, cells, stor, boundO, resultsV, resV, partK, loadV, Vm.part, fillC, splice, reduceIte, reduceCtorEq, Nat.reduceEqDiff, Nat.reduceAdd, Nat.reduceSub, Nat.reduceMul, Nat.reduceLeDiff, ne_eq, not_false_eq_true, Int.reduceEq, Int.reduceLT, Int.reduceLE, Int.reduceNeg, Int.reduceToNat, Int.reduceGT, Int.reduceGE, Nat.reduceLT, Nat.lt_add_one, Nat.zero_lt_succ, Nat.succ_pos, Nat.zero_le, beq_self_eq_true, k_field_Names_1, k_field_Names_0, k_field_Names_3, k_field_Names_2, ha, w]
          refine ⟨a.length - (i + 1), by omega, i + 1, rfl, hl2, ?_, G3, rfl⟩
          rw [htk, List.all_append, qi]; simp
        | false =>
          rw [qi] at e9
          simp (maxSteps := 4000000) only [vm, vl, Arg.get, cells, stor, boundO, resultsV, resV, partK, loadV, Vm.part, fillC, splice, reduceIte, reduceCtorEq, Nat.reduceEqDiff, Nat.reduceAdd, Nat.reduceSub, Nat.reduceMul, Nat.reduceLeDiff, ne_eq, not_false_eq_true, Int.reduceEq, Int.reduceLT, Int.reduceLE, Int.reduceNeg, Int.reduceToNat, Int.reduceGT, Int.reduceGE, Nat.reduceLT, Nat.lt_add_one, Nat.zero_lt_succ, Nat.succ_pos, Nat.zero_le, beq_self_eq_true, k_field_Names_1, k_field_Names_0, k_field_Names_3, k_field_Names_2, e9, e10, e24, e25, e26, hl1, i1, a1, cells, w]
          refine Cf.pu (Lower_ok (by omega)) fun t3 => ?_
          obtain ⟨x', h'', ha, G3⟩ := fin t3
          simp only [List.append_assoc] at ha ⊢
          simp (maxSteps := 4000000) only [vm, vl, Arg.get, cells, stor, boundO, resultsV, resV, partK, loadV, Vm.part, fillC, splice, reduceIte, reduceCtorEq, Nat.reduceEqDiff, Nat.reduceAdd, Nat.reduceSub, Nat.reduceMul, Nat.reduceLeDiff, ne_eq, not_false_eq_true, Int.reduceEq, Int.reduceLT, Int.reduceLE, Int.reduceNeg, Int.reduceToNat, Int.reduceGT, Int.reduceGE, Nat.reduceLT, Nat.lt_add_one, Nat.zero_lt_succ, Nat.succ_pos, Nat.zero_le, beq_self_eq_true, k_field_Names_1, k_field_Names_0, k_field_Names_3, k_field_Names_2, ha, w]
          refine ⟨a.length - (i + 1), by omega, i + 1, rfl, hl2, ?_, G3, rfl⟩
          rw [htk, List.all_append, qi]; simp
    rcases id hfl with ⟨he, rfl⟩ | ⟨o, rfl⟩
    · have ha : a = [] := by simpa [strs] using he
      subst ha
      
      simp (maxSteps := 4000000) only [vm, vl, Arg.get, cells, stor, boundO, resultsV, resV, partK, loadV, Vm.part, fillC, splice, reduceIte, reduceCtorEq, Nat.reduceEqDiff, Nat.reduceAdd, Nat.reduceSub, Nat.reduceMul, Nat.reduceLeDiff, ne_eq, not_false_eq_true, Int.reduceEq, Int.reduceLT, Int.reduceLE, Int.reduceNeg, Int.reduceToNat, Int.reduceGT, Int.reduceGE, Nat.reduceLT, Nat.lt_add_one, Nat.zero_lt_succ, Nat.succ_pos, Nat.zero_le, beq_self_eq_true]
      exact main _ _ rfl rfl rfl rfl rfl ⟨_, rfl⟩
    · simp (maxSteps := 4000000) only [vm, vl, Arg.get, cells, stor, boundO, resultsV, resV, partK, loadV, Vm.part, fillC, splice, reduceIte, reduceCtorEq, Nat.reduceEqDiff, Nat.reduceAdd, Nat.reduceSub, Nat.reduceMul, Nat.reduceLeDiff, ne_eq, not_false_eq_true, Int.reduceEq, Int.reduceLT, Int.reduceLE, Int.reduceNeg, Int.reduceToNat, Int.reduceGT, Int.reduceGE, Nat.reduceLT, Nat.lt_add_one, Nat.zero_lt_succ, Nat.succ_pos, Nat.zero_le, beq_self_eq_true, strs_len]
      exact main _ _ rfl rfl rfl rfl rfl ⟨_, rfl⟩
theorem rNames_ok {x : V} {l : List Fld} {name : Bs} (hx : ListV 2 x (flds l)) (hl : l.length < 100000) (hln : ∀ f ∈ l, f.1.length ≤ 140737488355328) (hn : name.length ≤ 140737488355328) (hsm : sumF l < 100000) (hj : (joinS (valsOf l name)).length ≤ 100000) :
    Cf F L i_gatepostref04_Names [x, .str name] h (NamesP h (namesO (joinS (valsOf l name)))) := by
  refine run_gatepostref04_Names ?_
  simp only [p_gatepostref04_Names]
  simp (maxSteps := 4000000) only [vm, vl, Arg.get, cells, stor, boundO, resultsV, resV, partK, loadV, Vm.part, fillC, splice, reduceIte, reduceCtorEq, Nat.reduceEqDiff, Nat.reduceAdd, Nat.reduceSub, Nat.reduceMul, Nat.reduceLeDiff, ne_eq, not_false_eq_true, Int.reduceEq, Int.reduceLT, Int.reduceLE, Int.reduceNeg, Int.reduceToNat, Int.reduceGT, Int.reduceGE, Nat.reduceLT, Nat.lt_add_one, Nat.zero_lt_succ, Nat.succ_pos, Nat.zero_le, beq_self_eq_true, k_gatepostref04_Names_1, k_gatepostref04_Names_3, k_gatepostref04_Names_4, k_gatepostref04_Names_2, k_gatepostref04_Names_0]
  refine Cf.pu (rGet_ok hx hl hln hn hsm) fun t => ?_
  simp only [getV]
  simp (maxSteps := 4000000) only [vm, vl, Arg.get, cells, stor, boundO, resultsV, resV, partK, loadV, Vm.part, fillC, splice, reduceIte, reduceCtorEq, Nat.reduceEqDiff, Nat.reduceAdd, Nat.reduceSub, Nat.reduceMul, Nat.reduceLeDiff, ne_eq, not_false_eq_true, Int.reduceEq, Int.reduceLT, Int.reduceLE, Int.reduceNeg, Int.reduceToNat, Int.reduceGT, Int.reduceGE, Nat.reduceLT, Nat.lt_add_one, Nat.zero_lt_succ, Nat.succ_pos, Nat.zero_le, beq_self_eq_true, k_gatepostref04_Names_1, k_gatepostref04_Names_3, k_gatepostref04_Names_4, k_gatepostref04_Names_2, k_gatepostref04_Names_0]
  refine (rSplit_ok (by omega)).mono fun v h' hp => ?_
  obtain ⟨⟨t1, rfl⟩, hv⟩ := hp
  generalize joinS (valsOf l name) = s at *
  rcases hv with ⟨q, rfl⟩ | ⟨a, y, q, rfl, hy⟩
  · simp (maxSteps := 4000000) only [vm, vl, Arg.get, cells, stor, boundO, resultsV, resV, partK, loadV, Vm.part, fillC, splice, reduceIte, reduceCtorEq, Nat.reduceEqDiff, Nat.reduceAdd, Nat.reduceSub, Nat.reduceMul, Nat.reduceLeDiff, ne_eq, not_false_eq_true, Int.reduceEq, Int.reduceLT, Int.reduceLE, Int.reduceNeg, Int.reduceToNat, Int.reduceGT, Int.reduceGE, Nat.reduceLT, Nat.lt_add_one, Nat.zero_lt_succ, Nat.succ_pos, Nat.zero_le, beq_self_eq_true, k_gatepostref04_Names_1, k_gatepostref04_Names_3, k_gatepostref04_Names_4, k_gatepostref04_Names_2, k_gatepostref04_Names_0, Bool.not_false]
    exact .inl ⟨by simp [namesO, q], rfl, _, rfl⟩
  · have hal := mem_split_len q
    have l1 := fun {K : V → Heap → Prop} {h : Heap} => hy.len (F := F) (L := L) (e := E0) (K := K) (h := h)
    simp only [strs_len] at l1
    simp (maxSteps := 4000000) only [vm, vl, Arg.get, cells, stor, boundO, resultsV, resV, partK, loadV, Vm.part, fillC, splice, reduceIte, reduceCtorEq, Nat.reduceEqDiff, Nat.reduceAdd, Nat.reduceSub, Nat.reduceMul, Nat.reduceLeDiff, ne_eq, not_false_eq_true, Int.reduceEq, Int.reduceLT, Int.reduceLE, Int.reduceNeg, Int.reduceToNat, Int.reduceGT, Int.reduceGE, Nat.reduceLT, Nat.lt_add_one, Nat.zero_lt_succ, Nat.succ_pos, Nat.zero_le, beq_self_eq_true, k_gatepostref04_Names_1, k_gatepostref04_Names_3, k_gatepostref04_Names_4, k_gatepostref04_Names_2, k_gatepostref04_Names_0, Bool.not_true]
    refine l_gatepostref04_Names_0 (fun n e h' => ∃ i, n = a.length - i ∧ i ≤ a.length ∧ (a.take i).all isTok = true ∧ e 8 = y ∧ Grow 1 h h' (e 10) (strs ((a.take i).map low)) ∧ e 11 = .int .i64 i) ?_ (n := a.length) ⟨0, by simp, by simp, by simp, rfl, by exact Grow.nil, rfl⟩
    rintro n e h' ⟨i, rfl, hi, hall, e8, G, e11⟩
    simp only [b_gatepostref04_Names_0]
    generalize e10 : e 10 = x10 at *
    rcases list_at [] hi with ⟨hn', rfl, hd⟩ | ⟨hl1, hl2, hd, htk⟩
    · rw [List.take_of_length_le (Nat.le_refl _)] at G hall
      simp (maxSteps := 4000000) only [vm, vl, Arg.get, cells, stor, boundO, resultsV, resV, partK, loadV, Vm.part, fillC, splice, reduceIte, reduceCtorEq, Nat.reduceEqDiff, Nat.reduceAdd, Nat.reduceSub, Nat.reduceMul, Nat.reduceLeDiff, ne_eq, not_false_eq_true, Int.reduceEq, Int.reduceLT, Int.reduceLE, Int.reduceNeg, Int.reduceToNat, Int.reduceGT, Int.reduceGE, Nat.reduceLT, Nat.lt_add_one, Nat.zero_lt_succ, Nat.succ_pos, Nat.zero_le, beq_self_eq_true, k_gatepostref04_Names_1, k_gatepostref04_Names_3, k_gatepostref04_Names_4, k_gatepostref04_Names_2, k_gatepostref04_Names_0, e8, e10, e11, l1, hn']
      exact .inr ⟨a.map low, x10, by simp only [namesO, q, hall, if_true], rfl, G⟩
    · have w := wrap64 (x := (i : Int) + 1) (by omega) (by omega)
      have i1 := fun {K : V → Heap → Prop} {h : Heap} => hy.at (F := F) (L := L) (e := E0) (K := K) (h := h) (i := i) (by rw [strs_len]; exact hl2)
      have a1 := strs_at hl2
      have hmem : a.getD i [] ∈ a := getD_mem hl2
      have hml := split_mem q _ hmem
      generalize hf : a.getD i [] = f at *
      simp (maxSteps := 4000000) only [vm, vl, Arg.get, cells, stor, boundO, resultsV, resV, partK, loadV, Vm.part, fillC, splice, reduceIte, reduceCtorEq, Nat.reduceEqDiff, Nat.reduceAdd, Nat.reduceSub, Nat.reduceMul, Nat.reduceLeDiff, ne_eq, not_false_eq_true, Int.reduceEq, Int.reduceLT, Int.reduceLE, Int.reduceNeg, Int.reduceToNat, Int.reduceGT, Int.reduceGE, Nat.reduceLT, Nat.lt_add_one, Nat.zero_lt_succ, Nat.succ_pos, Nat.zero_le, beq_self_eq_true, k_gatepostref04_Names_1, k_gatepostref04_Names_3, k_gatepostref04_Names_4, k_gatepostref04_Names_2, k_gatepostref04_Names_0, e8, e10, e11, l1, hl1, i1, a1, cells]
      refine Cf.pu (rIs_ok (by omega)) fun t2 => ?_
      cases qf : isTok f with
      | false =>
        simp (maxSteps := 4000000) only [vm, vl, Arg.get, cells, stor, boundO, resultsV, resV, partK, loadV, Vm.part, fillC, splice, reduceIte, reduceCtorEq, Nat.reduceEqDiff, Nat.reduceAdd, Nat.reduceSub, Nat.reduceMul, Nat.reduceLeDiff, ne_eq, not_false_eq_true, Int.reduceEq, Int.reduceLT, Int.reduceLE, Int.reduceNeg, Int.reduceToNat, Int.reduceGT, Int.reduceGE, Nat.reduceLT, Nat.lt_add_one, Nat.zero_lt_succ, Nat.succ_pos, Nat.zero_le, beq_self_eq_true, k_gatepostref04_Names_1, k_gatepostref04_Names_3, k_gatepostref04_Names_4, k_gatepostref04_Names_2, k_gatepostref04_Names_0, Bool.not_false]
        refine .inl ⟨?_, rfl, ?_⟩
        · have : a.all isTok = false := by
            rw [List.all_eq_false]; exact ⟨f, hmem, by rw [qf]; simp⟩
          simp [namesO, q, this]
        · obtain ⟨⟨t0, rfl⟩, _⟩ := G
          exact ⟨_, by rw [List.append_assoc]⟩
      | true =>
        simp (maxSteps := 4000000) only [vm, vl, Arg.get, cells, stor, boundO, resultsV, resV, partK, loadV, Vm.part, fillC, splice, reduceIte, reduceCtorEq, Nat.reduceEqDiff, Nat.reduceAdd, Nat.reduceSub, Nat.reduceMul, Nat.reduceLeDiff, ne_eq, not_false_eq_true, Int.reduceEq, Int.reduceLT, Int.reduceLE, Int.reduceNeg, Int.reduceToNat, Int.reduceGT, Int.reduceGE, Nat.reduceLT, Nat.lt_add_one, Nat.zero_lt_succ, Nat.succ_pos, Nat.zero_le, beq_self_eq_true, k_gatepostref04_Names_1, k_gatepostref04_Names_3, k_gatepostref04_Names_4, k_gatepostref04_Names_2, k_gatepostref04_Names_0, Bool.not_true, i1, a1, cells]
        refine Cf.pu (rLower_ok (by omega)) fun t3 => ?_
        obtain ⟨x', h'', ha, G3⟩ := (G.more (t := t2)).more (t := t3) |>.app (bytes := 16) (y := .str (low f)) (by rw [strs_len, List.length_map, List.length_take]; omega)
        rw [strs_app] at G3
        try simp only [List.append_assoc] at ha
        simp (maxSteps := 4000000) only [vm, vl, Arg.get, cells, stor, boundO, resultsV, resV, partK, loadV, Vm.part, fillC, splice, reduceIte, reduceCtorEq, Nat.reduceEqDiff, Nat.reduceAdd, Nat.reduceSub, Nat.reduceMul, Nat.reduceLeDiff, ne_eq, not_false_eq_true, Int.reduceEq, Int.reduceLT, Int.reduceLE, Int.reduceNeg, Int.reduceToNat, Int.reduceGT, Int.reduceGE, Nat.reduceLT, Nat.lt_add_one, Nat.zero_lt_succ, Nat.succ_pos, Nat.zero_le, beq_self_eq_true, k_gatepostref04_Names_1, k_gatepostref04_Names_3, k_gatepostref04_Names_4, k_gatepostref04_Names_2, k_gatepostref04_Names_0, ha, w]
        refine ⟨a.length - (i + 1), by omega, i + 1, rfl, hl2, ?_, ?_, rfl⟩
        · rw [htk, List.all_append, hall]; simp [qf]
        · rw [htk, List.map_append]; exact G3
end Go.Proofs.YtfihnnebffkbfaaDoor.Vh
end
section
set_option linter.unusedVariables false
set_option linter.unusedSimpArgs false
namespace Go.Proofs.YtfihnnebffkbfaaDoor.Vh
open Go.Vm Go.Sort
def LSort : FuncId → List V → V → Prop := fun f args v => f = i_slices_Sort___string_string_ ∧ v = .tup [] ∧ (args = sortTag ∨ args = [.nsl])
theorem sort_at0 (w0 : World) : LibAt Tryd.prog w0 LSort := by
  rintro f args v ⟨rfl, rfl, rfl | rfl⟩
  · refine ⟨by kernel_rfl, fun h B G w vs hr hb hv => ?_⟩
    obtain ⟨a, rfl, ha⟩ := rvs_one hv
    cases ha with
    | agg _ h1 _ => exact (h1 _ (List.mem_singleton.2 rfl)).elim
  · refine ⟨by kernel_rfl, good_below fun B G h w vs hr hb hv => ?_⟩
    obtain ⟨a, rfl, ha⟩ := rvs_one hv
    cases ha
    refine (Tryd.slices_Sort_string_none none 0 w).mono fun e w' ⟨h1, h2⟩ => ?_
    subst h2
    exact ⟨_, h1, .tup (vs := []) rfl (by intro k x v hx; simp at hx), Go.RowKit.Below.refl ..⟩
theorem strsV_get (ss : List (List UInt8)) (k : Nat) (hk : k < ss.length) : (strsV ss)[k]? = some (.str ss[k]) := by
  unfold strsV
  rw [List.getElem?_map, List.getElem?_eq_getElem hk]; rfl
theorem sortS_len (ss : List (List UInt8)) : (sortS ss).length = ss.length := by unfold sortS; exact List.length_mergeSort ..
theorem sort_at (w0 : World) : SortAt Tryd.prog w0 LSort := by
  rintro f ⟨rfl, _, _⟩
  refine ⟨by kernel_rfl, fun id ss h hh hn B G w vs hr hb hv => ?_⟩
  obtain ⟨a, rfl, ha⟩ := rvs_one hv
  cases ha with
  | @hsl _ _ _ b n cap hg hl hcn =>
    obtain ⟨arr, T, fz, hb0, hsz, hfz, hle, ho, hcs⟩ := (hr.obj id _ hh b n hg).out
    have hlen : (strsV ss).length = ss.length := by simp [strsV]
    rw [hlen] at hle
    have hblk : b < w.heap.size := (hr.wf.blk id _ hg).2.1
    have hcell : ∀ j, j < ss.length → arr[j]? = some (encStr ss[j]!) := by
      intro j hj
      obtain ⟨v, h1, h2⟩ := hcs j _ (strsV_get ss j hj)
      cases h2
      rw [h1, getElem!_pos ss j hj]
    have hH : Holds encStr w b 0 ss.toArray := by
      intro j hj
      have hj' : j < ss.length := by simpa using hj
      refine ⟨?_, ?_⟩
      · unfold World.cell?
        rw [hb0]
        simp only [Nat.zero_add, Option.isSome_none, Bool.false_eq_true, if_false]
        rw [hcell j hj']
        simp
      · unfold World.frozen?
        rw [hb0]
        simp only [Nat.zero_add]
        obtain ⟨lo, hi⟩ := fz
        simp only at hfz
        simp only [Bool.and_eq_false_iff, decide_eq_false_iff_not]
        omega
    refine (Tryd.slices_Sort_string b 0 cap ss w hH hblk hn).mono ?_
    rintro e w' ⟨rfl, k, os, rfl⟩
    have hss : (ss.mergeSort fun x y => decide (x ≤ y)) = sortS ss := rfl
    rw [hss]
    have hsl := sortS_len ss
    generalize sortS ss = zs at *
    have sm : Sm w (putRow encStr (Sort.ahead w k) b 0 zs.toArray) := ⟨rfl, rfl, rfl⟩
    have hhp : (putRow encStr (Sort.ahead w k) b 0 zs.toArray).heap = w.heap.modify b (onCells (putCells encStr 0 zs.toArray)) := rfl
    have hs2 : (putRow encStr (Sort.ahead w k) b 0 zs.toArray).heap.size = w.heap.size := by rw [hhp]; simp
    have hoth : ∀ c, c ≠ b → (putRow encStr (Sort.ahead w k) b 0 zs.toArray).heap[c]? = w.heap[c]? := by
      intro c hc
      rw [hhp, Array.getElem?_modify, if_neg (fun h => hc h.symm)]
    have hnew : (putRow encStr (Sort.ahead w k) b 0 zs.toArray).heap[b]? = some (.cells (putCells encStr 0 zs.toArray arr) T fz) := by
      rw [hhp, Array.getElem?_modify, if_pos rfl, hb0]; rfl
    generalize putRow encStr (Sort.ahead w k) b 0 zs.toArray = w1 at *
    have hal : alive h id := .inl ⟨_, hh⟩
    obtain ⟨hr1, he1⟩ := set_blk (o := .box (strsV zs)) hr sm hg hal hs2 hoth fun hle' b' n' e => by
      rw [hg] at e
      injection e with e
      injection e with e1 e2
      subst e1; subst e2
      refine ⟨⟨_, T, fz, hnew, by simp [putCells, hsz], hfz, by simp [strsV]; omega, ?_, ?_⟩⟩
      · intro c hc
        obtain ⟨s, _, rfl⟩ := List.mem_map.1 hc
        trivial
      · intro j x hx
        have hj : j < zs.length := by
          have := (List.getElem?_eq_some_iff.1 hx).1
          simpa [strsV] using this
        rw [strsV_get zs j hj] at hx
        injection hx with hx
        subst hx
        refine ⟨encStr zs[j], ?_, .str _⟩
        have hj2 : j < arr.size := by omega
        simp only [putCells, Array.getElem?_mapIdx, Array.getElem?_eq_getElem hj2, Option.map_some, List.size_toArray, Nat.zero_le, true_and, Nat.zero_add, hj, if_true, Nat.sub_zero]
        congr 2
        simp [hj]
    have hbl : RowKit.Below w1.heap.size w1 (grow w1 os) :=
      ⟨rfl, rfl, rfl, by show w1.heap.size ≤ (w1.heap ++ os).size; rw [Array.size_append]; omega, fun i hi => by
        show (w1.heap ++ os)[i]? = _
        rw [Array.getElem?_append_left hi]⟩
    obtain ⟨hr2, he2⟩ := hr1.below hbl
    exact ⟨G, _, rfl, .tup (vs := []) rfl (by intro k x v hx; simp at hx), hr2, he1.trans he2⟩
end Go.Proofs.YtfihnnebffkbfaaDoor.Vh
end
section
set_option linter.unusedVariables false
set_option linter.unusedSimpArgs false
namespace Go.Proofs.YtfihnnebffkbfaaDoor.Vh
open Go.Vm Go.Vt
attribute [local congr] wi_congr wg_congr wgd_congr wb_congr wl_congr cf_congr
variable {L : FuncId → List V → V → Prop} {h : Heap}
def varyU : Bs := [86, 97, 114, 121]
def dedS (all : List Bs) : List Bs := all.foldl insK []
/-- The names on which a response hangs. -/
def vnO (s : Bs) : Option (List Bs) := match namesO s with
  | some all => if [42] ∈ all then none else some (sortS (dedS all))
  | none => none
/-- A list of texts in a box of its own. -/
def HslV (h' : Heap) (x : V) (out : List Bs) : Prop := (out = [] ∧ x = .nsl) ∨ ∃ id, x = .hsl 1 id out.length ∧ h'[id]? = some (.box (strsV out))
def VNamesP (h : Heap) (o : Option (List Bs)) (v : V) (h' : Heap) : Prop := (∃ t, h' = h ++ t) ∧ ((o = none ∧ v = .tup [.nsl, .bool false]) ∨ ∃ x out, o = some out ∧ v = .tup [x, .bool true] ∧ HslV h' x out)
structure NamS (h : Heap) (m : Nat) (D : List Bs) (x : V) (h' : Heap) : Prop where
  grow : ∃ t, h' = h ++ t
  map : h'[m]? = some (.map (mapK D))
  new : h.length ≤ m
  out : (D = [] ∧ x = .nsl) ∨ ∃ id, h.length ≤ id ∧ id ≠ m ∧ x = .hsl 1 id D.length ∧ h'[id]? = some (.box (strsV D))
theorem set_grow {h h' : Heap} {i : Nat} {o : O} (hg : ∃ t, h' = h ++ t) (hi : h.length ≤ i) : ∃ t, h'.set i o = h ++ t := by
  obtain ⟨t, rfl⟩ := hg
  exact ⟨_, List.set_append_right _ _ hi⟩
theorem app_grow {h h' t2 : Heap} (hg : ∃ t, h' = h ++ t) : ∃ t, h' ++ t2 = h ++ t := by
  obtain ⟨t, rfl⟩ := hg
  exact ⟨_, List.append_assoc ..⟩
theorem NamS.app {h h' : Heap} {m : Nat} {D : List Bs} {x : V} {k : Bs} (s : NamS h m D x h') (hk : k ∉ D) (hl : D.length < 1000000) :
    ∃ x' h'', appV (h'.set m (.map (mapK (insK D k)))) 1 16 true x (.sl 1 .full [.str k]) = some (x', h'') ∧ NamS h m (insK D k) x' h'' := by
  obtain ⟨hg, hm, hn, ho⟩ := s
  have e : insK D k = D ++ [k] := by unfold insK; rw [if_neg hk]
  rw [e]
  have hlt : m < h'.length := (List.getElem?_eq_some_iff.1 hm).1
  generalize hM : O.map (mapK (D ++ [k])) = M
  have hg2 := set_grow (o := M) hg hn
  have r1 : room 1 16 = true := by decide
  rcases ho with ⟨rfl, rfl⟩ | ⟨id, i1, i2, rfl, i4⟩
  · refine ⟨_, _, by simp only [appV, srcElems, if_true, Option.bind_some, List.isEmpty_cons, Bool.false_eq_true, if_false, List.length_singleton, r1, newRowV]; rfl, app_grow hg2, ?_, hn, .inr ⟨_, ?_, ?_, rfl, ?_⟩⟩
    · rw [List.getElem?_append_left (by simpa using hlt), List.getElem?_set_self hlt, hM]
    · rw [List.length_set]; omega
    · rw [List.length_set]; omega
    · rw [List.getElem?_append_right (Nat.le_refl _)]; simp [strsV, flat, cells]
  · have hil : id < h'.length := (List.getElem?_eq_some_iff.1 i4).1
    have r2 : room (D.length + 1) 16 = true := by unfold room; simp; omega
    have g1 : (h'.set m M)[id]? = some (.box (strsV D)) := by rw [List.getElem?_set_ne (Ne.symm i2)]; exact i4
    have g2 : D.length ≤ (strsV D).length := by simp [strsV]
    refine ⟨_, _, by simp only [appV, srcElems, if_true, Option.bind_some, List.length_singleton, r2, true_and, g1, g2]; rfl, app_grow (set_grow hg2 i1), ?_, hn, .inr ⟨_, ?_, ?_, by rw [List.length_append]; rfl, ?_⟩⟩
    · rw [List.getElem?_append_left (by simpa using hlt), List.getElem?_set_ne i2, List.getElem?_set_self hlt, hM]
    · rw [List.length_set]; omega
    · rw [List.length_set]; omega
    · have ht : (strsV D).take D.length = strsV D := List.take_of_length_le (by simp [strsV])
      rw [List.getElem?_append_right (by simp), ht]
      simp [strsV, flat, cells]
theorem foldl_ins (all : List Bs) (i : Nat) (hi : i < all.length) : dedS (all.take (i + 1)) = insK (dedS (all.take i)) (all.getD i []) := by
  have e : all.getD i [] = all[i] := by rw [List.getD_eq_getElem?_getD, List.getElem?_eq_getElem hi, Option.getD_some]
  unfold dedS
  rw [List.take_add_one, List.getElem?_eq_getElem hi, e, List.foldl_append]
  rfl
theorem ded_len : ∀ (all ks : List Bs), (all.foldl insK ks).length ≤ ks.length + all.length
  | [], ks => by simp
  | a :: r, ks => by
    rw [List.foldl_cons, List.length_cons]
    have h1 := ded_len r (insK ks a)
    have h2 : (insK ks a).length ≤ ks.length + 1 := by unfold insK; split <;> simp
    omega
theorem mem_ded_aux {x : Bs} : ∀ {all ks : List Bs}, x ∈ all.foldl insK ks ↔ x ∈ ks ∨ x ∈ all
  | [], ks => by simp
  | a :: r, ks => by
    rw [List.foldl_cons, mem_ded_aux (all := r), mem_ins]
    simp [or_assoc]
theorem mem_ded {x : Bs} {all : List Bs} : x ∈ dedS all ↔ x ∈ all := by unfold dedS; rw [mem_ded_aux]; simp
def SortOk (L : FuncId → List V → V → Prop) : Prop := L i_slices_Sort___string_string_ sortTag (.tup []) ∧ L i_slices_Sort___string_string_ [.nsl] (.tup [])
theorem wi_clear_map {m : Nat} {es : List (V × V)} {e : Env} {h : Heap} {K : V → Heap → Prop} (hm : h[m]? = some (.map es)) : wi F L (.clear (.c (.map m))) e h K = K (.tup []) (h.set m (.map [])) := by
  have hs : stepI (.clear (.c (.map m))) e h = some (.tup [], h.set m (.map [])) := by simp only [stepI, Arg.get, hm]
  rw [wi_clear, hs]
theorem VNames1_ok (HS : SortOk L) {b : Bool} {D : List Bs} {m : Nat} {x : V} {h h' : Heap} {o : Option (List Bs)} (hs : NamS h m D x h') (hl : D.length < 1000000) (ho : o = if b = true then (if [42] ∈ D then none else some (sortS D)) else none) :
    k_vary_Names_0 L (VNamesP h o) (.bool b) (.map m) x h' := by
  
  obtain ⟨hg, hm, hn, hout⟩ := hs
  unfold k_vary_Names_0
  have hclr := fun {K : V → Heap → Prop} => wi_clear_map (L := L) (e := E0) (K := K) hm
  obtain ⟨r, h1, h2⟩ := find_mapK (k := [42]) (ks := D) (n := 0)
  cases b with
  | false =>
    have hp : VNamesP h o (.tup [.nsl, .bool false]) (h'.set m (.map [])) := ⟨set_grow hg hn, .inl ⟨ho, rfl⟩⟩
    simp (maxSteps := 4000000) only [vm, vl, Arg.get, cells, stor, boundO, resultsV, resV, partK, loadV, Vm.part, fillC, splice, reduceIte, reduceCtorEq, Nat.reduceEqDiff, Nat.reduceAdd, Nat.reduceSub, Nat.reduceMul, Nat.reduceLeDiff, ne_eq, not_false_eq_true, Int.reduceEq, Int.reduceLT, Int.reduceLE, Int.reduceNeg, Int.reduceToNat, Int.reduceGT, Int.reduceGE, Nat.reduceLT, Nat.lt_add_one, Nat.zero_lt_succ, Nat.succ_pos, Nat.zero_le, beq_self_eq_true, hm, hclr]
    exact hp
  | true =>
    rw [if_pos rfl] at ho
    rcases h2 with ⟨h3, i, rfl, h5⟩ | ⟨h3, rfl⟩
    · rw [if_pos h3] at ho
      have hp : VNamesP h o (.tup [.nsl, .bool false]) (h'.set m (.map [])) := ⟨set_grow hg hn, .inl ⟨ho, rfl⟩⟩
      simp (maxSteps := 4000000) only [vm, vl, Arg.get, cells, stor, boundO, resultsV, resV, partK, loadV, Vm.part, fillC, splice, reduceIte, reduceCtorEq, Nat.reduceEqDiff, Nat.reduceAdd, Nat.reduceSub, Nat.reduceMul, Nat.reduceLeDiff, ne_eq, not_false_eq_true, Int.reduceEq, Int.reduceLT, Int.reduceLE, Int.reduceNeg, Int.reduceToNat, Int.reduceGT, Int.reduceGE, Nat.reduceLT, Nat.lt_add_one, Nat.zero_lt_succ, Nat.succ_pos, Nat.zero_le, beq_self_eq_true, hm, h1, hclr]
      exact hp
    · rw [if_neg h3] at ho
      simp (maxSteps := 4000000) only [vm, vl, Arg.get, cells, stor, boundO, resultsV, resV, partK, loadV, Vm.part, fillC, splice, reduceIte, reduceCtorEq, Nat.reduceEqDiff, Nat.reduceAdd, Nat.reduceSub, Nat.reduceMul, Nat.reduceLeDiff, ne_eq, not_false_eq_true, Int.reduceEq, Int.reduceLT, Int.reduceLE, Int.reduceNeg, Int.reduceToNat, Int.reduceGT, Int.reduceGE, Nat.reduceLT, Nat.lt_add_one, Nat.zero_lt_succ, Nat.succ_pos, Nat.zero_le, beq_self_eq_true, hm, h1, k_vary_Names_1]
      rcases hout with ⟨rfl, rfl⟩ | ⟨id, i1, i2, rfl, i4⟩
      · refine wlib HS.2 ?_
        have hp : VNamesP h o (.tup [.nsl, .bool true]) h' := ⟨hg, .inr ⟨_, _, ho, rfl, .inl ⟨by simp [sortS], rfl⟩⟩⟩
        exact hp
      · refine wlibS HS.1 i4 (by omega) ?_
        have hil : id < h'.length := (List.getElem?_eq_some_iff.1 i4).1
        have hp : VNamesP h o (.tup [.hsl 1 id D.length, .bool true]) (h'.set id (.box (strsV (sortS D)))) := ⟨set_grow hg i1, .inr ⟨_, _, ho, rfl, .inr ⟨id, by rw [sortS_len], by rw [List.getElem?_set_self hil]⟩⟩⟩
        exact hp
theorem VNames_ok (HJ : JoinOk L) (HS : SortOk L) {x : V} {l : List Fld} (hx : ListV 2 x (flds l)) (hl : l.length < 100000) (hln : ∀ f ∈ l, f.1.length ≤ 140737488355328) (hj : (joinS (valsOf l varyU)).length ≤ 100000) :
    Cf F L i_vary_Names [x] h (VNamesP h (vnO (joinS (valsOf l varyU)))) := by
  refine run_vary_Names ?_
  simp only [p_vary_Names]
  
  refine (Names_ok (name := varyU) HJ hx hl hln (by decide) hj).mono fun v h' hp => ?_
  generalize hs : joinS (valsOf l varyU) = s at *
  unfold k_vary_Names_5
  rcases hp with ⟨q, rfl, t, rfl⟩ | ⟨out, y, q, rfl, G⟩
  · simp (maxSteps := 4000000) only [vm, vl, Arg.get, cells, stor, boundO, resultsV, resV, partK, loadV, Vm.part, fillC, splice, reduceIte, reduceCtorEq, Nat.reduceEqDiff, Nat.reduceAdd, Nat.reduceSub, Nat.reduceMul, Nat.reduceLeDiff, ne_eq, not_false_eq_true, Int.reduceEq, Int.reduceLT, Int.reduceLE, Int.reduceNeg, Int.reduceToNat, Int.reduceGT, Int.reduceGE, Nat.reduceLT, Nat.lt_add_one, Nat.zero_lt_succ, Nat.succ_pos, Nat.zero_le, beq_self_eq_true]
    refine l_vary_Names_0 (fun n e h' => e 5 = .bool false ∧ e 17 = .int .i64 0 ∧ e 18 = .int .i64 0 ∧ ∃ m, e 6 = .map m ∧ NamS h m [] (e 7) h') ?_ (n := 0) ⟨rfl, rfl, rfl, _, rfl, ⟨_, rfl⟩, by rw [← List.append_assoc, ← List.length_append, List.getElem?_append_right (Nat.le_refl _)]; simp [mapK], by simp, .inl ⟨rfl, rfl⟩⟩
    rintro n e h' ⟨e5, e17, e18, m, e6, hN⟩
    have hK := VNames1_ok (L := L) (b := false) (o := vnO s) HS hN (by simp) (by unfold vnO; rw [q]; rfl)
    simp only [b_vary_Names_0]
    have c1 : decide ((0 : Int) < 0) = false := by decide
    simp (maxSteps := 4000000) only [vm, vl, Arg.get, cells, stor, boundO, resultsV, resV, partK, loadV, Vm.part, fillC, splice, reduceIte, reduceCtorEq, Nat.reduceEqDiff, Nat.reduceAdd, Nat.reduceSub, Nat.reduceMul, Nat.reduceLeDiff, ne_eq, not_false_eq_true, Int.reduceEq, Int.reduceLT, Int.reduceLE, Int.reduceNeg, Int.reduceToNat, Int.reduceGT, Int.reduceGE, Nat.reduceLT, Nat.lt_add_one, Nat.zero_lt_succ, Nat.succ_pos, Nat.zero_le, beq_self_eq_true, e5, e6, e17, e18, c1]
    exact hK
  · obtain ⟨⟨t, rfl⟩, _⟩ := id G
    have hy := G.list
    have hol : out.length ≤ 100001 := by
      unfold namesO at q
      split at q
      · rename_i a qa
        split at q
        · simp only [Option.some.injEq] at q
          subst q
          rw [List.length_map]
          have := mem_split_len qa
          omega
        · cases q
      · cases q
    have main : ∀ (e : Env) (h' : Heap) (m : Nat), e 5 = .bool true → e 16 = y → e 17 = .int .i64 out.length → e 18 = .int .i64 0 → e 6 = .map m → NamS h m [] (e 7) h' → Wl F L lc_vary_Names_0 (q_vary_Names_0 L (VNamesP h (vnO s))) e h' := by
      intro e h' m f5 f16 f17 f18 f6 fN
      refine l_vary_Names_0 (fun n e h' => ∃ i, n = out.length - i ∧ i ≤ out.length ∧ e 5 = .bool true ∧ e 16 = y ∧ e 17 = .int .i64 out.length ∧ e 18 = .int .i64 i ∧ ∃ m, e 6 = .map m ∧ NamS h m (dedS (out.take i)) (e 7) h') ?_ (n := out.length) ⟨0, by simp, by simp, f5, f16, f17, f18, m, f6, fN⟩
      clear f5 f16 f17 f18 f6 fN
      rintro n e h' ⟨i, rfl, hi, e5, e16, e17, e18, m, e6, hN⟩
      have hdl := ded_len (out.take i) []
      rw [List.length_take] at hdl
      have hdl : (dedS (out.take i)).length ≤ 100001 := by unfold dedS; simp at hdl; omega
      simp only [b_vary_Names_0]
      rcases list_at [] hi with ⟨hn', rfl, hd⟩ | ⟨hl1, hl2, hd, htk⟩
      · rw [List.take_of_length_le (Nat.le_refl _)] at hN hdl
        have hK := VNames1_ok (L := L) (b := true) (o := vnO s) HS hN (by omega) (by
          unfold vnO; rw [q]
          simp only [mem_ded, if_true])
        simp (maxSteps := 4000000) only [vm, vl, Arg.get, cells, stor, boundO, resultsV, resV, partK, loadV, Vm.part, fillC, splice, reduceIte, reduceCtorEq, Nat.reduceEqDiff, Nat.reduceAdd, Nat.reduceSub, Nat.reduceMul, Nat.reduceLeDiff, ne_eq, not_false_eq_true, Int.reduceEq, Int.reduceLT, Int.reduceLE, Int.reduceNeg, Int.reduceToNat, Int.reduceGT, Int.reduceGE, Nat.reduceLT, Nat.lt_add_one, Nat.zero_lt_succ, Nat.succ_pos, Nat.zero_le, beq_self_eq_true, e5, e6, e17, e18, hn', decide_false]
        exact hK
      · have w := wrap64 (x := (i : Int) + 1) (by omega) (by omega)
        have i1 := fun {K : V → Heap → Prop} {h : Heap} => hy.at (F := F) (L := L) (e := E0) (K := K) (h := h) (i := i) (by rw [strs_len]; exact hl2)
        have a1 := strs_at hl2
        have hf := foldl_ins out i hl2
        generalize out.getD i [] = k at *
        generalize dedS (out.take i) = D at *
        generalize hx7 : e 7 = x7 at *
        obtain ⟨r, h1, h2⟩ := find_mapK (k := k) (ks := D) (n := 0)
        have hm := hN.map
        rcases h2 with ⟨h3, j, rfl, h5⟩ | ⟨h3, rfl⟩
        · simp (maxSteps := 4000000) only [vm, vl, Arg.get, cells, stor, boundO, resultsV, resV, partK, loadV, Vm.part, fillC, splice, reduceIte, reduceCtorEq, Nat.reduceEqDiff, Nat.reduceAdd, Nat.reduceSub, Nat.reduceMul, Nat.reduceLeDiff, ne_eq, not_false_eq_true, Int.reduceEq, Int.reduceLT, Int.reduceLE, Int.reduceNeg, Int.reduceToNat, Int.reduceGT, Int.reduceGE, Nat.reduceLT, Nat.lt_add_one, Nat.zero_lt_succ, Nat.succ_pos, Nat.zero_le, beq_self_eq_true, e5, e6, e16, e17, e18, hl1, decide_true, k_vary_Names_2, i1, a1, hm, h1, k_vary_Names_4, k_vary_Names_3, w]
          refine ⟨out.length - (i + 1), by omega, i + 1, rfl, hl2, rfl, m, rfl, ?_⟩
          rw [hf, show insK D k = D from by unfold insK; rw [if_pos h3]]
          simp only [hx7]
          exact hN
        · obtain ⟨x', h'', ha, hN2⟩ := hN.app h3 (by omega)
          have hset := set_mapK (k := k) (ks := D)
          simp (maxSteps := 4000000) only [vm, vl, Arg.get, cells, stor, boundO, resultsV, resV, partK, loadV, Vm.part, fillC, splice, reduceIte, reduceCtorEq, Nat.reduceEqDiff, Nat.reduceAdd, Nat.reduceSub, Nat.reduceMul, Nat.reduceLeDiff, ne_eq, not_false_eq_true, Int.reduceEq, Int.reduceLT, Int.reduceLE, Int.reduceNeg, Int.reduceToNat, Int.reduceGT, Int.reduceGE, Nat.reduceLT, Nat.lt_add_one, Nat.zero_lt_succ, Nat.succ_pos, Nat.zero_le, beq_self_eq_true, e5, e6, e16, e17, e18, hl1, decide_true, k_vary_Names_2, i1, a1, hm, h1, k_vary_Names_4, k_vary_Names_3, hset, ha, w]
          refine ⟨out.length - (i + 1), by omega, i + 1, rfl, hl2, rfl, m, rfl, ?_⟩
          rw [hf]
          exact hN2
    have hN0 : NamS h (h.length + t.length) [] .nsl (h ++ (t ++ [.map []])) := ⟨⟨_, rfl⟩, by rw [← List.append_assoc, ← List.length_append, List.getElem?_append_right (Nat.le_refl _)]; simp [mapK], by simp, .inl ⟨rfl, rfl⟩⟩
    rcases hy with ⟨he, rfl⟩ | ⟨own, rfl⟩
    · have hl0 : out.length = 0 := by rw [← strs_len, he]; rfl
      rw [hl0] at main
      simp (maxSteps := 4000000) only [vm, vl, Arg.get, cells, stor, boundO, resultsV, resV, partK, loadV, Vm.part, fillC, splice, reduceIte, reduceCtorEq, Nat.reduceEqDiff, Nat.reduceAdd, Nat.reduceSub, Nat.reduceMul, Nat.reduceLeDiff, ne_eq, not_false_eq_true, Int.reduceEq, Int.reduceLT, Int.reduceLE, Int.reduceNeg, Int.reduceToNat, Int.reduceGT, Int.reduceGE, Nat.reduceLT, Nat.lt_add_one, Nat.zero_lt_succ, Nat.succ_pos, Nat.zero_le, beq_self_eq_true]
      exact main _ _ _ rfl rfl rfl rfl rfl hN0
    · have hsl := strs_len out
      simp (maxSteps := 4000000) only [vm, vl, Arg.get, cells, stor, boundO, resultsV, resV, partK, loadV, Vm.part, fillC, splice, reduceIte, reduceCtorEq, Nat.reduceEqDiff, Nat.reduceAdd, Nat.reduceSub, Nat.reduceMul, Nat.reduceLeDiff, ne_eq, not_false_eq_true, Int.reduceEq, Int.reduceLT, Int.reduceLE, Int.reduceNeg, Int.reduceToNat, Int.reduceGT, Int.reduceGE, Nat.reduceLT, Nat.lt_add_one, Nat.zero_lt_succ, Nat.succ_pos, Nat.zero_le, beq_self_eq_true, hsl]
      exact main _ _ _ rfl rfl rfl rfl rfl hN0
end Go.Proofs.YtfihnnebffkbfaaDoor.Vh
end
section
set_option linter.unusedVariables false
set_option linter.unusedSimpArgs false
namespace Go.Proofs.YtfihnnebffkbfaaDoor.Vh
open Go.Vm Go.Vt
theorem ins_nodup {ks : List Bs} {k : Bs} (h : ks.Nodup) : (insK ks k).Nodup := by
  unfold insK
  split
  · exact h
  · rename_i hk
    refine List.nodup_append.2 ⟨h, by simp, fun a ha b hb => ?_⟩
    rw [List.mem_singleton.1 hb]
    rintro rfl
    exact hk ha
theorem ded_nodup_aux : ∀ (all ks : List Bs), ks.Nodup → (all.foldl insK ks).Nodup
  | [], ks, h => h
  | a :: r, ks, h => ded_nodup_aux r _ (ins_nodup h)
theorem ded_nodup (all : List Bs) : (dedS all).Nodup := ded_nodup_aux all [] List.nodup_nil
/-- What is sorted, without a text twice, is told by its texts. -/
theorem sort_ded {all want : List Bs} (hs : want.Pairwise fun a b => a ≤ b) (hn : want.Nodup) (hm : ∀ x, x ∈ want ↔ x ∈ all) : sortS (dedS all) = want := by
  have hp : (sortS (dedS all)).Perm want := (List.mergeSort_perm _ _).trans ((List.perm_ext_iff_of_nodup (ded_nodup all) hn).2 fun x => by rw [mem_ded, hm])
  refine List.Perm.eq_of_pairwise (le := fun a b => a ≤ b) (fun a b _ _ h1 h2 => List.le_antisymm h1 h2) ?_ hs hp
  have := List.pairwise_mergeSort (le := fun (x y : Bs) => decide (x ≤ y)) (fun a b c h1 h2 => by
    simp only [decide_eq_true_eq] at *
    exact List.le_trans h1 h2) (fun a b => by
    simp only [Bool.or_eq_true, decide_eq_true_eq]
    exact List.le_total a b) (dedS all)
  unfold sortS
  simpa using this
/-! The law's names. -/
def wN : Nat → Bs
  | 0 => [97, 99, 99, 101, 112, 116]
  | 1 => [98]
  | _ => [120, 45, 121]
theorem splitG_run : ∀ (w r own : Bs) (out : List Bs), (∀ c ∈ w, c ≠ 34 ∧ c ≠ 44) → splitG (w ++ r) own false out = splitG r (own ++ w) false out
  | [], r, own, out, _ => by simp
  | c :: w, r, own, out, h => by
    obtain ⟨h1, h2⟩ := h c (by simp)
    rw [List.cons_append, splitG_step, if_neg h1, if_neg (by simp), if_neg (by simpa using h2), splitG_run w r _ out fun d hd => h d (by simp [hd])]
    simp
theorem splitG_word {w r : Bs} {out : List Bs} (h : ∀ c ∈ w, c ≠ 34 ∧ c ≠ 44) (ht : trim (w ++ [32]) = w) (hw : w ≠ []) : splitG (w ++ 32 :: 44 :: r) [] false out = splitG r [] false (out ++ [w]) := by
  rw [splitG_run w _ _ _ h, splitG_step, if_neg (by decide), if_neg (by simp), if_neg (by decide), splitG_step, if_neg (by decide), if_neg (by simp), if_pos (by decide), List.nil_append]
  unfold flush
  rw [ht, if_neg hw]
def TextI (T : Bs) (ks : List Nat) : Prop := ∃ ws : List Bs, (∀ (out : List Bs) (r : Bs), splitG (T ++ r) [] false out = splitG r [] false (out ++ ws)) ∧ ws.map low = ks.map wN ∧ ws.all isTok = true
theorem TextI.nil : TextI [] [] := ⟨[], fun out r => by simp, rfl, rfl⟩
theorem TextI.add {T w : Bs} {ks : List Nat} {k : Nat} (h : TextI T ks) (h1 : ∀ c ∈ w, c ≠ 34 ∧ c ≠ 44) (h2 : trim (w ++ [32]) = w) (h3 : w ≠ []) (h4 : low w = wN k) (h5 : isTok w = true) : TextI (T ++ w ++ [32, 44]) (ks ++ [k]) := by
  obtain ⟨ws, g1, g2, g3⟩ := h
  refine ⟨ws ++ [w], fun out r => ?_, by simp [g2, h4], by simp [g3, h5]⟩
  rw [List.append_assoc, List.append_assoc, g1]
  have := splitG_word (r := r) (out := out ++ ws) h1 h2 h3
  simpa using this
end Go.Proofs.YtfihnnebffkbfaaDoor.Vh
end
section
set_option linter.unusedVariables false
set_option linter.unusedSimpArgs false
namespace Go.Proofs.YtfihnnebffkbfaaDoor.Vh
open Go.Vm Go.Vt
/-- What is taken, and what is left. -/
structure NamI (all cur out : List Bs) : Prop where
  sorted : out.Pairwise fun a b => a < b
  below : ∀ a ∈ out, ∀ b ∈ cur, a ≤ b
  mem : ∀ x, x ∈ all ↔ x ∈ out ∨ x ∈ cur
  star : [42] ∉ out
  len : out.length + cur.length ≤ all.length
theorem NamI.start (all : List Bs) : NamI all all [] := ⟨.nil, by simp, by simp, by simp, by simp⟩
theorem lt_of_ne {a b : Bs} (h : a ≤ b) (hn : a ≠ b) : a < b := Classical.byContradiction fun hh => hn (List.le_antisymm h (List.not_lt.1 hh))
theorem cut_mem {cur : List Bs} {k : Nat} (hk : k < cur.length) (x : Bs) : x ∈ cur ↔ x ∈ cur.take k ++ cur.drop (k + 1) ∨ x = cur.getD k [] := by
  have e : cur.getD k [] = cur[k] := by rw [List.getD_eq_getElem?_getD, List.getElem?_eq_getElem hk, Option.getD_some]
  have h1 : cur = cur.take k ++ cur[k] :: cur.drop (k + 1) := by rw [← List.drop_eq_getElem_cons hk, List.take_append_drop]
  rw [e]
  conv => lhs; rw [h1]
  simp only [List.mem_append, List.mem_cons]
  constructor
  · rintro (h | h | h)
    · exact .inl (.inl h)
    · exact .inr h
    · exact .inl (.inr h)
  · rintro ((h | h) | h)
    · exact .inl h
    · exact .inr (.inr h)
    · exact .inr (.inl h)
theorem cut_len {cur : List Bs} {k : Nat} (hk : k < cur.length) : (cur.take k ++ cur.drop (k + 1)).length + 1 = cur.length := by
  rw [List.length_append, List.length_take, List.length_drop]; omega
theorem NamI.skip {all cur out : List Bs} {k : Nat} (h : NamI all cur out) (hk : k < cur.length) (hm : cur.getD k [] ∈ out) : NamI all (cur.take k ++ cur.drop (k + 1)) out := by
  refine ⟨h.sorted, fun a ha b hb => h.below a ha b ((cut_mem hk b).2 (.inl hb)), fun x => ?_, h.star, by have := cut_len hk; have := h.len; omega⟩
  rw [h.mem, cut_mem hk]
  constructor
  · rintro (h | h | rfl)
    · exact .inl h
    · exact .inr h
    · exact .inl hm
  · rintro (h | h)
    · exact .inl h
    · exact .inr (.inl h)
theorem NamI.take {all cur out : List Bs} {k : Nat} (h : NamI all cur out) (hk : k < cur.length) (hmin : ∀ b ∈ cur, cur.getD k [] ≤ b) (hs : cur.getD k [] ≠ [42]) (hl : out = [] ∨ out.getD (out.length - 1) [] ≠ cur.getD k []) : NamI all (cur.take k ++ cur.drop (k + 1)) (out ++ [cur.getD k []]) := by
  have hin : cur.getD k [] ∈ cur := (cut_mem hk _).2 (.inr rfl)
  generalize hnm : cur.getD k [] = nm at *
  refine ⟨?_, ?_, ?_, ?_, by have := cut_len hk; have := h.len; simp only [List.length_append, List.length_singleton] at *; omega⟩
  · refine List.pairwise_append.2 ⟨h.sorted, List.pairwise_singleton .., fun a ha b hb => ?_⟩
    rw [List.mem_singleton.1 hb]
    have hle := h.below a ha nm hin
    rcases hl with rfl | hl
    · cases ha
    · refine lt_of_ne hle fun e => ?_
      subst e
      rcases List.eq_nil_or_concat out with rfl | ⟨ini, last, rfl⟩
      · cases ha
      · rw [List.concat_eq_append] at *
        have hg : (ini ++ [last]).getD ((ini ++ [last]).length - 1) [] = last := by simp
        rw [hg] at hl
        rcases List.mem_append.1 ha with h1 | h1
        · have h2 := (List.pairwise_append.1 h.sorted).2.2 a h1 last (by simp)
          have h3 := h.below last (by simp) a hin
          exact List.not_lt.2 h3 h2
        · exact hl (List.mem_singleton.1 h1).symm
  · intro a ha b hb
    have hb' := (cut_mem hk b).2 (.inl hb)
    rcases List.mem_append.1 ha with ha | ha
    · exact h.below a ha b hb'
    · rw [List.mem_singleton.1 ha]; exact hmin b hb'
  · intro x
    rw [h.mem, cut_mem hk, hnm]
    constructor
    · rintro (h | h | h)
      · exact .inl (List.mem_append.2 (.inl h))
      · exact .inr h
      · exact .inl (List.mem_append.2 (.inr (List.mem_singleton.2 h)))
    · rintro (h | h)
      · rcases List.mem_append.1 h with h | h
        · exact .inl h
        · exact .inr (.inr (List.mem_singleton.1 h))
      · exact .inr (.inl h)
  · intro hm
    rcases List.mem_append.1 hm with hm | hm
    · exact h.star hm
    · exact hs (List.mem_singleton.1 hm).symm
theorem NamI.none {all cur out : List Bs} {s : Bs} (h : NamI all cur out) (hn : namesO s = some all) (hm : [42] ∈ cur) : vnO s = none := by
  unfold vnO
  rw [hn]
  simp only
  rw [if_pos ((h.mem _).2 (.inr hm))]
theorem NamI.done {all out : List Bs} {s : Bs} (h : NamI all [] out) (hn : namesO s = some all) : vnO s = some out := by
  have hm : ∀ x, x ∈ out ↔ x ∈ all := fun x => by rw [h.mem]; simp
  unfold vnO
  rw [hn]
  simp only
  rw [if_neg (fun hh => h.star ((hm _).2 hh)), sort_ded (want := out) (h.sorted.imp fun hab => List.not_lt.1 fun hba => List.lt_irrefl _ (List.lt_trans hab hba)) (h.sorted.imp fun hab e => by subst e; exact List.lt_irrefl _ hab) hm]
end Go.Proofs.YtfihnnebffkbfaaDoor.Vh
end
section
set_option linter.unusedVariables false
set_option linter.unusedSimpArgs false
namespace Go.Proofs.YtfihnnebffkbfaaDoor.Vh
open Go.Vm Go.Vt
attribute [local congr] wi_congr wg_congr wgd_congr wb_congr wl_congr cf_congr
variable {L : FuncId → List V → V → Prop} {h : Heap}
theorem slsl_head {o : Own} {cur : List Bs} {k : Nat} (hk : k ≤ cur.length) : slslV 1 (.sl 1 o (strs cur)) 0 (some k) none = some (.sl 1 .no (strs (cur.take k))) := by
  have e : (strs cur).take k = strs (cur.take k) := by simp [strs]
  have e2 : k ≤ (strs cur).length := by rw [strs_len]; exact hk
  simp [slslV, e, e2]
theorem slsl_tail {o : Own} {cur : List Bs} {k : Nat} (hk : k + 1 ≤ cur.length) : slslV 1 (.sl 1 o (strs cur)) (k + 1) none none = some (.sl 1 .no (strs (cur.drop (k + 1)))) := by
  have e : (strs cur).drop (k + 1) = strs (cur.drop (k + 1)) := by simp [strs]
  have e2 : k + 1 ≤ (strs cur).length := by rw [strs_len]; exact hk
  simp [slslV, e, e2]
theorem rvn_cut {K : V → Heap → Prop} {N0 : Env → Heap → Prop} {e : Env} {o : Own} {cur : List Bs} {k : Nat} (hk : k < cur.length) (hl : cur.length ≤ 1000000) (hN : ∀ (x' : V) (t : Heap) (e' : Env), ListV 1 x' (strs (cur.take k ++ cur.drop (k + 1))) → e' 4 = x' → e' 6 = e 6 → N0 e' (h ++ t)) :
    k_gatepostref11_Names_5 L K N0 e (.sl 1 o (strs cur)) (.int .i64 k) h := by
  
  unfold k_gatepostref11_Names_5
  have w := wrap64 (x := (k : Int) + 1) (by omega) (by omega)
  have s1 := slsl_head (o := o) (cur := cur) (k := k) (by omega)
  have s2 := slsl_tail (o := o) (cur := cur) (k := k) (by omega)
  have G0 : Ow 1 h h (.sl 1 .full []) [] := ⟨⟨[], by simp⟩, .inr (.inl rfl)⟩
  obtain ⟨x1, h1, ha1, O1⟩ := G0.app (bytes := 16) (y := .sl 1 .no (strs (cur.take k))) (ys := strs (cur.take k)) (.inr ⟨_, rfl⟩) (by simp [strs_len]; omega)
  obtain ⟨⟨t1, rfl⟩, _⟩ := id O1
  obtain ⟨x2, h2, ha2, O2⟩ := O1.app (bytes := 16) (y := .sl 1 .no (strs (cur.drop (k + 1)))) (ys := strs (cur.drop (k + 1))) (.inr ⟨_, rfl⟩) (by simp [strs_len]; omega)
  obtain ⟨⟨t2, rfl⟩, _⟩ := id O2
  have hL := O2.list
  have e1 : [] ++ strs (cur.take k) ++ strs (cur.drop (k + 1)) = strs (cur.take k ++ cur.drop (k + 1)) := by simp [strs]
  rw [e1] at hL
  have fin := fun (e' : Env) => hN x2 t2 e' hL
  simp (maxSteps := 4000000) only [vm, vl, Arg.get, cells, stor, boundO, resultsV, resV, partK, loadV, Vm.part, fillC, splice, reduceIte, reduceCtorEq, Nat.reduceEqDiff, Nat.reduceAdd, Nat.reduceSub, Nat.reduceMul, Nat.reduceLeDiff, ne_eq, not_false_eq_true, Int.reduceEq, Int.reduceLT, Int.reduceLE, Int.reduceNeg, Int.reduceToNat, Int.reduceGT, Int.reduceGE, Nat.reduceLT, Nat.lt_add_one, Nat.zero_lt_succ, Nat.succ_pos, Nat.zero_le, beq_self_eq_true, s1, ha1, w, s2, ha2]
  refine fin _ ?_ ?_ <;> rfl
theorem rvn_round {N0 : Env → Heap → Prop} {e : Env} {o : Own} {x6 : V} {all cur out s : List Bs} {t : Bs} {k : Nat} {h' : Heap} (hs : namesO t = some all) (hi : NamI all cur out) (hal : all.length ≤ 200000) (hk : k < cur.length) (hmin : ∀ b ∈ cur, cur.getD k [] ≤ b) (G : Grow 1 h h' x6 (strs out)) (e6 : e 6 = x6)
    (hN : ∀ (x' x6' : V) (h'' : Heap) (e' : Env) (cur' out' : List Bs), NamI all cur' out' → cur'.length < cur.length → ListV 1 x' (strs cur') → Grow 1 h h'' x6' (strs out') → e' 4 = x' → e' 6 = x6' → N0 e' h'') :
    k_gatepostref11_Names_3 L (SplitP h (vnO t)) N0 e (.sl 1 o (strs cur)) x6 (.int .i64 k) h' := by
  
  unfold k_gatepostref11_Names_3
  have hsl := strs_len cur
  have i0 : (0 : Int) ≤ (k : Int) := by omega
  have a1 := strs_at hk
  have hin : cur.getD k [] ∈ cur := (cut_mem hk _).2 (.inr rfl)
  have hlen := hi.len
  have hcl := cut_len hk
  obtain ⟨⟨t0, rfl⟩, hx6⟩ := id G
  by_cases hst : cur.getD k [] = [42]
  · rw [hst] at a1 hin
    have hv := hi.none hs hin
    rw [hv]
    simp (maxSteps := 4000000) only [vm, vl, Arg.get, cells, stor, boundO, resultsV, resV, partK, loadV, Vm.part, fillC, splice, reduceIte, reduceCtorEq, Nat.reduceEqDiff, Nat.reduceAdd, Nat.reduceSub, Nat.reduceMul, Nat.reduceLeDiff, ne_eq, not_false_eq_true, Int.reduceEq, Int.reduceLT, Int.reduceLE, Int.reduceNeg, Int.reduceToNat, Int.reduceGT, Int.reduceGE, Nat.reduceLT, Nat.lt_add_one, Nat.zero_lt_succ, Nat.succ_pos, Nat.zero_le, beq_self_eq_true, hsl, i0, hk, a1, Int.toNat_natCast, beq_self_eq_true]
    exact .no ⟨_, rfl⟩
  have bst : (cur.getD k [] == [42]) = false := by simpa using hst
  have sk := fun hm => hi.skip hk hm
  have tk := fun hl => hi.take hk hmin hst hl
  have cutN := fun (e' : Env) (out' : List Bs) (hi' : NamI all (cur.take k ++ cur.drop (k + 1)) out') (h1 : Heap) (x6' : V) (G' : Grow 1 h h1 x6' (strs out')) (f6 : e' 6 = x6') =>
    rvn_cut (L := L) (K := SplitP h (vnO t)) (N0 := N0) (e := e') (o := o) (h := h1) hk (by omega) fun x' t' e'' hl' f4 f6' => hN x' x6' (h1 ++ t') e'' _ out' hi' (by omega) hl' G'.more f4 (f6'.trans f6)
  generalize hnm : cur.getD k [] = nm at *
  clear hmin hN hi
  obtain ⟨x', h2, ha, G2⟩ := G.app (bytes := 16) (y := .str nm) (by rw [strs_len]; omega)
  rw [strs_app] at G2
  rcases hx6 with ⟨he, rfl⟩ | ⟨hne, kk, rfl, hkk, hbt⟩
  · have hout : out = [] := by simpa [strs] using he
    have tk := tk (.inl hout)
    have fin := fun (e' : Env) => cutN e' _ tk _ _ G2
    simp (maxSteps := 4000000) only [vm, vl, Arg.get, cells, stor, boundO, resultsV, resV, partK, loadV, Vm.part, fillC, splice, reduceIte, reduceCtorEq, Nat.reduceEqDiff, Nat.reduceAdd, Nat.reduceSub, Nat.reduceMul, Nat.reduceLeDiff, ne_eq, not_false_eq_true, Int.reduceEq, Int.reduceLT, Int.reduceLE, Int.reduceNeg, Int.reduceToNat, Int.reduceGT, Int.reduceGE, Nat.reduceLT, Nat.lt_add_one, Nat.zero_lt_succ, Nat.succ_pos, Nat.zero_le, beq_self_eq_true, hsl, i0, hk, a1, Int.toNat_natCast, bst, k_gatepostref11_Names_4, decide_true, ha]
    exact fin _ rfl
  · have hol := strs_len out
    have hop : 0 < out.length := by
      rcases Nat.eq_zero_or_pos out.length with h0 | h0
      · exact absurd (by rw [List.length_eq_zero_iff.1 h0]; rfl) hne
      · exact h0
    have c0 : decide (((out.length : Nat) : Int) = 0) = false := decide_eq_false (by omega)
    have ws := wrap64 (x := (out.length : Int) - 1) (by omega) (by omega)
    have j0 : (0 : Int) ≤ (out.length : Int) - 1 := by omega
    have jn : ((out.length : Int) - 1).toNat = out.length - 1 := by omega
    have jl : out.length - 1 < out.length := by omega
    have b1 := strs_at jl
    by_cases hlast : out.getD (out.length - 1) [] = nm
    · have hmem : nm ∈ out := by rw [← hlast]; exact getD_mem jl
      have fin := fun (e' : Env) => cutN e' _ (sk hmem) _ _ G
      rw [hlast] at b1
      simp (maxSteps := 4000000) only [vm, vl, Arg.get, cells, stor, boundO, resultsV, resV, partK, loadV, Vm.part, fillC, splice, reduceIte, reduceCtorEq, Nat.reduceEqDiff, Nat.reduceAdd, Nat.reduceSub, Nat.reduceMul, Nat.reduceLeDiff, ne_eq, not_false_eq_true, Int.reduceEq, Int.reduceLT, Int.reduceLE, Int.reduceNeg, Int.reduceToNat, Int.reduceGT, Int.reduceGE, Nat.reduceLT, Nat.lt_add_one, Nat.zero_lt_succ, Nat.succ_pos, Nat.zero_le, beq_self_eq_true, hsl, i0, hk, a1, Int.toNat_natCast, bst, k_gatepostref11_Names_4, hol, c0, ws, j0, jn, jl, b1, beq_self_eq_true, Bool.not_true]
      exact fin _ (by exact e6)
    · have tk := tk (.inr hlast)
      have fin := fun (e' : Env) => cutN e' _ tk _ _ G2
      have bl : (out.getD (out.length - 1) [] == nm) = false := by simpa using hlast
      generalize out.getD (out.length - 1) [] = lst at *
      simp (maxSteps := 4000000) only [vm, vl, Arg.get, cells, stor, boundO, resultsV, resV, partK, loadV, Vm.part, fillC, splice, reduceIte, reduceCtorEq, Nat.reduceEqDiff, Nat.reduceAdd, Nat.reduceSub, Nat.reduceMul, Nat.reduceLeDiff, ne_eq, not_false_eq_true, Int.reduceEq, Int.reduceLT, Int.reduceLE, Int.reduceNeg, Int.reduceToNat, Int.reduceGT, Int.reduceGE, Nat.reduceLT, Nat.lt_add_one, Nat.zero_lt_succ, Nat.succ_pos, Nat.zero_le, beq_self_eq_true, hsl, i0, hk, a1, Int.toNat_natCast, bst, k_gatepostref11_Names_4, hol, c0, ws, j0, jn, jl, b1, bl, Bool.not_false, ha]
      exact fin _ rfl
end Go.Proofs.YtfihnnebffkbfaaDoor.Vh
end
section
set_option linter.unusedVariables false
set_option linter.unusedSimpArgs false
namespace Go.Proofs.YtfihnnebffkbfaaDoor.Vh
open Go.Vm Go.Vt
attribute [local congr] wi_congr wg_congr wgd_congr wb_congr wl_congr cf_congr
variable {L : FuncId → List V → V → Prop} {h : Heap}
def varyL : Bs := [118, 97, 114, 121]
theorem vals_vary (l : List Fld) : valsOf l varyL = valsOf l varyU := by
  have e : low varyL = low varyU := by decide +kernel
  unfold valsOf; rw [e]
theorem min_all {cur : List Bs} {nm : Bs} (h : ∀ j, j < cur.length → nm ≤ cur.getD j []) : ∀ b ∈ cur, nm ≤ b := by
  intro b hb
  obtain ⟨j, hj, rfl⟩ := List.getElem_of_mem hb
  have := h j hj
  rwa [List.getD_eq_getElem?_getD, List.getElem?_eq_getElem hj, Option.getD_some] at this
theorem rvn_min {N0 : Env → Heap → Prop} {e : Env} {o : Own} {x6 : V} {all cur out s : List Bs} {t : Bs} {h' : Heap} (hs : namesO t = some all) (hi : NamI all cur out) (hal : all.length ≤ 200000) (hc : 0 < cur.length) (G : Grow 1 h h' x6 (strs out)) (e4 : e 4 = .sl 1 o (strs cur)) (e6 : e 6 = x6)
    (hN : ∀ (x' x6' : V) (h'' : Heap) (e' : Env) (cur' out' : List Bs), NamI all cur' out' → cur'.length < cur.length → ListV 1 x' (strs cur') → Grow 1 h h'' x6' (strs out') → e' 4 = x' → e' 6 = x6' → N0 e' h'') :
    k_gatepostref11_Names_2 L (SplitP h (vnO t)) N0 e h' := by
  
  unfold k_gatepostref11_Names_2
  have hsl := strs_len cur
  have hlen := hi.len
  refine l_gatepostref11_Names_1 (fun n e h2 => ∃ i k : Nat, n = cur.length - i ∧ i ≤ cur.length ∧ k < i ∧ e 4 = .sl 1 o (strs cur) ∧ e 6 = x6 ∧ e 7 = .int .i64 k ∧ e 8 = .int .i64 i ∧ (∀ j, j < i → cur.getD k [] ≤ cur.getD j []) ∧ h2 = h') ?_ (n := cur.length - 1) ⟨1, 0, rfl, hc, by omega, e4, e6, rfl, rfl, fun j hj => by
    obtain rfl : j = 0 := by omega
    exact List.le_refl _, rfl⟩
  clear e4 e6
  rintro n e h2 ⟨i, k, rfl, hic, hki, e4, e6, e7, e8, hmin, rfl⟩
  simp only [b_gatepostref11_Names_1, e4, e6, e7, e8]
  rcases list_at [] hic with ⟨hn', hie, hd⟩ | ⟨hl1, hl2, hd, htk⟩
  · have c1 : decide ((i : Int) < (cur.length : Int)) = false := decide_eq_false hn'
    have fin := fun (e' : Env) (f6 : e' 6 = x6) => rvn_round (L := L) (N0 := N0) (e := e') (o := o) (k := k) (s := s) hs hi hal (by omega) (min_all fun j hj => hmin j (by omega)) G f6 hN
    simp (maxSteps := 4000000) only [vm, vl, Arg.get, cells, stor, boundO, resultsV, resV, partK, loadV, Vm.part, fillC, splice, reduceIte, reduceCtorEq, Nat.reduceEqDiff, Nat.reduceAdd, Nat.reduceSub, Nat.reduceMul, Nat.reduceLeDiff, ne_eq, not_false_eq_true, Int.reduceEq, Int.reduceLT, Int.reduceLE, Int.reduceNeg, Int.reduceToNat, Int.reduceGT, Int.reduceGE, Nat.reduceLT, Nat.lt_add_one, Nat.zero_lt_succ, Nat.succ_pos, Nat.zero_le, beq_self_eq_true, hsl, c1]
    exact fin _ (by exact e6)
  · have c1 : decide ((i : Int) < (cur.length : Int)) = true := decide_eq_true hl1
    have i0 : (0 : Int) ≤ (i : Int) := by omega
    have k0 : (0 : Int) ≤ (k : Int) := by omega
    have kl : k < cur.length := by omega
    have a1 := strs_at hl2
    have a2 := strs_at kl
    have w := wrap64 (x := (i : Int) + 1) (by omega) (by omega)
    have hb := bytesLess_eq (cur.getD i []) (cur.getD k [])
    have step1 : cur.getD i [] < cur.getD k [] → ∀ j, j < i + 1 → cur.getD i [] ≤ cur.getD j [] := by
      intro hlt j hj
      by_cases hji : j = i
      · subst hji; exact List.le_refl _
      · exact List.le_trans (List.not_lt.1 fun hh => List.lt_irrefl _ (List.lt_trans hh hlt)) (hmin j (by omega))
    have step2 : ¬ cur.getD i [] < cur.getD k [] → ∀ j, j < i + 1 → cur.getD k [] ≤ cur.getD j [] := by
      intro hlt j hj
      by_cases hji : j = i
      · subst hji; exact List.not_lt.1 hlt
      · exact hmin j (by omega)
    generalize hgi : cur.getD i [] = a at *
    generalize hgk : cur.getD k [] = b at *
    by_cases hlt : a < b
    · rw [decide_eq_true hlt] at hb
      simp (maxSteps := 4000000) only [vm, vl, Arg.get, cells, stor, boundO, resultsV, resV, partK, loadV, Vm.part, fillC, splice, reduceIte, reduceCtorEq, Nat.reduceEqDiff, Nat.reduceAdd, Nat.reduceSub, Nat.reduceMul, Nat.reduceLeDiff, ne_eq, not_false_eq_true, Int.reduceEq, Int.reduceLT, Int.reduceLE, Int.reduceNeg, Int.reduceToNat, Int.reduceGT, Int.reduceGE, Nat.reduceLT, Nat.lt_add_one, Nat.zero_lt_succ, Nat.succ_pos, Nat.zero_le, beq_self_eq_true, hsl, c1, k_gatepostref11_Names_6, i0, hl2, k0, kl, a1, a2, Int.toNat_natCast, hb, k_gatepostref11_Names_7, w]
      exact ⟨cur.length - (i + 1), by omega, i + 1, i, rfl, hl2, by omega, by exact e4, by exact e6, rfl, rfl, by rw [hgi]; exact step1 hlt⟩
    · rw [decide_eq_false hlt] at hb
      simp (maxSteps := 4000000) only [vm, vl, Arg.get, cells, stor, boundO, resultsV, resV, partK, loadV, Vm.part, fillC, splice, reduceIte, reduceCtorEq, Nat.reduceEqDiff, Nat.reduceAdd, Nat.reduceSub, Nat.reduceMul, Nat.reduceLeDiff, ne_eq, not_false_eq_true, Int.reduceEq, Int.reduceLT, Int.reduceLE, Int.reduceNeg, Int.reduceToNat, Int.reduceGT, Int.reduceGE, Nat.reduceLT, Nat.lt_add_one, Nat.zero_lt_succ, Nat.succ_pos, Nat.zero_le, beq_self_eq_true, hsl, c1, k_gatepostref11_Names_6, i0, hl2, k0, kl, a1, a2, Int.toNat_natCast, hb, k_gatepostref11_Names_7, w]
      exact ⟨cur.length - (i + 1), by omega, i + 1, k, rfl, hl2, by omega, by exact e4, by exact e6, by exact e7, rfl, by rw [hgk]; exact step2 hlt⟩
theorem rVNames_ok {x : V} {l : List Fld} (hx : ListV 2 x (flds l)) (hl : l.length < 100000) (hln : ∀ f ∈ l, f.1.length ≤ 140737488355328) (hsm : sumF l < 100000) (hj : (joinS (valsOf l varyU)).length ≤ 100000) :
    Cf F L i_gatepostref11_Names [x] h (SplitP h (vnO (joinS (valsOf l varyU)))) := by
  refine run_gatepostref11_Names ?_
  simp only [p_gatepostref11_Names]
  
  rw [← vals_vary] at *
  refine (rNames_ok (name := varyL) hx hl hln (by decide) hsm hj).mono fun v h' hp => ?_
  generalize joinS (valsOf l varyL) = s at *
  unfold k_gatepostref11_Names_8
  rcases hp with ⟨q, rfl, t, rfl⟩ | ⟨out, y, q, rfl, G⟩
  · have hv : vnO s = none := by unfold vnO; rw [q]
    rw [hv]
    simp (maxSteps := 4000000) only [vm, vl, Arg.get, cells, stor, boundO, resultsV, resV, partK, loadV, Vm.part, fillC, splice, reduceIte, reduceCtorEq, Nat.reduceEqDiff, Nat.reduceAdd, Nat.reduceSub, Nat.reduceMul, Nat.reduceLeDiff, ne_eq, not_false_eq_true, Int.reduceEq, Int.reduceLT, Int.reduceLE, Int.reduceNeg, Int.reduceToNat, Int.reduceGT, Int.reduceGE, Nat.reduceLT, Nat.lt_add_one, Nat.zero_lt_succ, Nat.succ_pos, Nat.zero_le, beq_self_eq_true, Bool.not_false]
    exact .no ⟨_, rfl⟩
  · obtain ⟨⟨t, rfl⟩, _⟩ := id G
    have hy := G.list
    have hol : out.length ≤ 200000 := by
      unfold namesO at q
      split at q
      · rename_i a qa
        split at q
        · simp only [Option.some.injEq] at q
          subst q
          rw [List.length_map]
          have := mem_split_len qa
          omega
        · cases q
      · cases q
    simp (maxSteps := 4000000) only [vm, vl, Arg.get, cells, stor, boundO, resultsV, resV, partK, loadV, Vm.part, fillC, splice, reduceIte, reduceCtorEq, Nat.reduceEqDiff, Nat.reduceAdd, Nat.reduceSub, Nat.reduceMul, Nat.reduceLeDiff, ne_eq, not_false_eq_true, Int.reduceEq, Int.reduceLT, Int.reduceLE, Int.reduceNeg, Int.reduceToNat, Int.reduceGT, Int.reduceGE, Nat.reduceLT, Nat.lt_add_one, Nat.zero_lt_succ, Nat.succ_pos, Nat.zero_le, beq_self_eq_true, Bool.not_true, k_gatepostref11_Names_0]
    refine l_gatepostref11_Names_0 (fun n e h2 => ∃ cur o, n = cur.length ∧ NamI out cur o ∧ ListV 1 (e 4) (strs cur) ∧ Grow 1 h h2 (e 6) (strs o)) ?_ (n := out.length) ⟨out, [], rfl, .start out, hy, Grow.nil⟩
    rintro n e h2 ⟨cur, o, rfl, hi, h4, h6⟩
    simp only [b_gatepostref11_Names_0]
    generalize e4 : e 4 = x4 at *
    generalize e6 : e 6 = x6 at *
    rcases Nat.eq_zero_or_pos cur.length with h0 | h0
    · have hc : cur = [] := List.length_eq_zero_iff.1 h0
      subst hc
      have hv := hi.done q
      rw [hv]
      obtain ⟨⟨t2, rfl⟩, _⟩ := id h6
      have c1 : decide ((0 : Int) > 0) = false := rfl
      rcases h4 with ⟨_, rfl⟩ | ⟨own, rfl⟩
      · simp (maxSteps := 4000000) only [vm, vl, Arg.get, cells, stor, boundO, resultsV, resV, partK, loadV, Vm.part, fillC, splice, reduceIte, reduceCtorEq, Nat.reduceEqDiff, Nat.reduceAdd, Nat.reduceSub, Nat.reduceMul, Nat.reduceLeDiff, ne_eq, not_false_eq_true, Int.reduceEq, Int.reduceLT, Int.reduceLE, Int.reduceNeg, Int.reduceToNat, Int.reduceGT, Int.reduceGE, Nat.reduceLT, Nat.lt_add_one, Nat.zero_lt_succ, Nat.succ_pos, Nat.zero_le, beq_self_eq_true, c1, k_gatepostref11_Names_1]
        exact .yes ⟨_, rfl⟩ h6.list
      · have hsl : (strs []).length = 0 := rfl
        simp (maxSteps := 4000000) only [vm, vl, Arg.get, cells, stor, boundO, resultsV, resV, partK, loadV, Vm.part, fillC, splice, reduceIte, reduceCtorEq, Nat.reduceEqDiff, Nat.reduceAdd, Nat.reduceSub, Nat.reduceMul, Nat.reduceLeDiff, ne_eq, not_false_eq_true, Int.reduceEq, Int.reduceLT, Int.reduceLE, Int.reduceNeg, Int.reduceToNat, Int.reduceGT, Int.reduceGE, Nat.reduceLT, Nat.lt_add_one, Nat.zero_lt_succ, Nat.succ_pos, Nat.zero_le, beq_self_eq_true, hsl, Int.natCast_zero, c1, k_gatepostref11_Names_1]
        exact .yes ⟨_, rfl⟩ h6.list
    · obtain ⟨own, rfl⟩ : ∃ own, x4 = .sl 1 own (strs cur) := by
        rcases h4 with ⟨he, _⟩ | h4
        · have := strs_len cur; rw [he] at this; simp at this; omega
        · exact h4
      have hsl := strs_len cur
      have c1 : decide (((cur.length : Nat) : Int) > 0) = true := decide_eq_true (by omega)
      have fin := fun (e' : Env) (f4 : e' 4 = .sl 1 own (strs cur)) (f6 : e' 6 = x6) => rvn_min (L := L) (N0 := fun e' h' => ∃ m, m < cur.length ∧ ∃ cur o, m = cur.length ∧ NamI out cur o ∧ ListV 1 (e' 4) (strs cur) ∧ Grow 1 h h' (e' 6) (strs o)) (s := out) q hi hol h0 h6 f4 f6
        (fun x' x6' h'' e' cur' out' n1 n2 n3 n4 g4 g6 => ⟨cur'.length, n2, cur', out', rfl, n1, by rw [g4]; exact n3, by rw [g6]; exact n4⟩)
      simp (maxSteps := 4000000) only [vm, vl, Arg.get, cells, stor, boundO, resultsV, resV, partK, loadV, Vm.part, fillC, splice, reduceIte, reduceCtorEq, Nat.reduceEqDiff, Nat.reduceAdd, Nat.reduceSub, Nat.reduceMul, Nat.reduceLeDiff, ne_eq, not_false_eq_true, Int.reduceEq, Int.reduceLT, Int.reduceLE, Int.reduceNeg, Int.reduceToNat, Int.reduceGT, Int.reduceGE, Nat.reduceLT, Nat.lt_add_one, Nat.zero_lt_succ, Nat.succ_pos, Nat.zero_le, beq_self_eq_true, hsl, c1]
      exact fin _ (by exact e4) (by exact e6)
end Go.Proofs.YtfihnnebffkbfaaDoor.Vh
end
section
set_option linter.unusedVariables false
set_option linter.unusedSimpArgs false
namespace Go.Proofs.YtfihnnebffkbfaaDoor.Vh
open Go.Vm Go.Vt
attribute [local congr] wi_congr wg_congr wgd_congr wb_congr wl_congr cf_congr
variable {L : FuncId → List V → V → Prop} {h : Heap}
theorem kdec_len : ∀ (k n : Nat), n < 10 ^ (k + 1) → (Go.Lib.decDigits n).length ≤ k + 1
  | k, n, h => by
    by_cases h1 : n < 10
    · rw [Go.Lib.decDigits_one h1]; simp
    · match k with
      | 0 => simp at h; omega
      | k + 1 =>
        rw [dec_step (by omega), List.length_append, List.length_singleton]
        have := kdec_len k (n / 10) (by rw [Nat.pow_succ] at h; omega)
        omega
theorem kwquo {a b : Int} (h0 : 0 ≤ a) (h1 : a ≤ 9223372036854775807) (hb : 0 < b) : IntKind.i64.wrap (a.tdiv b) = a / b := by
  have e : a.tdiv b = a / b := Int.tdiv_eq_ediv_of_nonneg h0
  have h2 : a / b ≤ a := Int.ediv_le_self b h0
  have h3 : 0 ≤ a / b := Int.ediv_nonneg h0 (by omega)
  rw [e, wrap64 (by omega) (by omega)]
theorem kbin_quo {a : Int} : binV .quo (.int .i64 a) (.int .i64 10) = some (.int .i64 (IntKind.i64.wrap (a.tdiv 10))) := by simp [binV, binI]
theorem kdig_cut : ∀ k, k < 10 → (([48, 49, 50, 51, 52, 53, 54, 55, 56, 57] : Bs).take (k + 1)).drop k = [UInt8.ofNat (48 + k)] := by decide +kernel
theorem Kdig1_ok {n : Nat} (hn : n < 10) : Cf F L i_gatepostref11_digits [.int .i64 n] h (Pu h (.str (Go.Lib.decDigits n))) := by
  refine run_gatepostref11_digits ?_
  simp only [p_gatepostref11_digits]
  
  rw [Go.Lib.decDigits_one hn]
  have c := kdig_cut n hn
  have w1 : IntKind.i64.wrap ((n : Int) + 1) = ((n + 1 : Nat) : Int) := by rw [wrap64 (by omega) (by omega)]; omega
  have l1 : n ≤ n + 1 := by omega
  have l3 : n + 1 ≤ 10 := by omega
  have n10 : (n : Int) < 10 := by omega
  generalize [UInt8.ofNat (48 + n)] = X at *
  have LD : ([48, 49, 50, 51, 52, 53, 54, 55, 56, 57] : Bs).length = 10 := rfl
  generalize ([48, 49, 50, 51, 52, 53, 54, 55, 56, 57] : Bs) = D at *
  simp (maxSteps := 4000000) only [vm, vl, Arg.get, cells, stor, boundO, resultsV, resV, partK, loadV, Vm.part, fillC, splice, reduceIte, reduceCtorEq, Nat.reduceEqDiff, Nat.reduceAdd, Nat.reduceSub, Nat.reduceMul, Nat.reduceLeDiff, ne_eq, not_false_eq_true, Int.reduceEq, Int.reduceLT, Int.reduceLE, Int.reduceNeg, Int.reduceToNat, Int.reduceGT, Int.reduceGE, Nat.reduceLT, Nat.lt_add_one, Nat.zero_lt_succ, Nat.succ_pos, Nat.zero_le, beq_self_eq_true, n10, decide_true, w1, LD, l1, l3, c]
theorem Kdig2_ok {k n : Nat} (hk : k ≤ 6) (hn : n < 100000000) (h1 : ¬ n < 10) (l1 : (Go.Lib.decDigits (n / 10)).length ≤ 7) (ih : ∀ hh, Cf F L i_gatepostref11_digits [.int .i64 ((n / 10 : Nat) : Int)] hh (Pu hh (.str (Go.Lib.decDigits (n / 10))))) : Cf F L i_gatepostref11_digits [.int .i64 n] h (Pu h (.str (Go.Lib.decDigits n))) := by
  refine run_gatepostref11_digits ?_
  simp only [p_gatepostref11_digits]
  have ih2 := fun hh => Kdig1_ok (L := L) (h := hh) (n := n % 10) (by omega)
  have l2 : (Go.Lib.decDigits (n % 10)).length ≤ 1 := kdec_len 0 (n % 10) (by omega)
  rw [Go.Lib.decDigits_one (show n % 10 < 10 by omega)] at ih2 l2
  rw [dec_step (by omega)]
  have n10 : ¬ (n : Int) < 10 := by omega
  have q1 : IntKind.i64.wrap ((n : Int).tdiv 10) = ((n / 10 : Nat) : Int) := by rw [kwquo (by omega) (by omega) (by omega)]; omega
  have q2 : (n : Int).tmod 10 = ((n % 10 : Nat) : Int) := by rw [Int.tmod_eq_emod_of_nonneg (by omega)]; omega
  have br : binV .rem (.int .i64 (n : Int)) (.int .i64 10) = some (.int .i64 ((n : Int).tmod 10)) := by simp [binV, binI]
  have bA : binV .add (.str (Go.Lib.decDigits (n / 10))) (.str [UInt8.ofNat (48 + n % 10)]) = some (.str (Go.Lib.decDigits (n / 10) ++ [UInt8.ofNat (48 + n % 10)])) := bin_sadd (by omega)
  generalize Go.Lib.decDigits (n / 10) = X at *
  generalize [UInt8.ofNat (48 + n % 10)] = Y at *
  simp (maxSteps := 4000000) only [vm, vl, Arg.get, cells, stor, boundO, resultsV, resV, partK, loadV, Vm.part, fillC, splice, reduceIte, reduceCtorEq, Nat.reduceEqDiff, Nat.reduceAdd, Nat.reduceSub, Nat.reduceMul, Nat.reduceLeDiff, ne_eq, not_false_eq_true, Int.reduceEq, Int.reduceLT, Int.reduceLE, Int.reduceNeg, Int.reduceToNat, Int.reduceGT, Int.reduceGE, Nat.reduceLT, Nat.lt_add_one, Nat.zero_lt_succ, Nat.succ_pos, Nat.zero_le, beq_self_eq_true, k_gatepostref11_digits_0, n10, decide_false, q1, kbin_quo, br, q2]
  refine Cf.pu (ih _) fun u1 => ?_
  try simp (maxSteps := 4000000) only [vm, vl, Arg.get, cells, stor, boundO, resultsV, resV, partK, loadV, Vm.part, fillC, splice, reduceIte, reduceCtorEq, Nat.reduceEqDiff, Nat.reduceAdd, Nat.reduceSub, Nat.reduceMul, Nat.reduceLeDiff, ne_eq, not_false_eq_true, Int.reduceEq, Int.reduceLT, Int.reduceLE, Int.reduceNeg, Int.reduceToNat, Int.reduceGT, Int.reduceGE, Nat.reduceLT, Nat.lt_add_one, Nat.zero_lt_succ, Nat.succ_pos, Nat.zero_le, beq_self_eq_true, k_gatepostref11_digits_0, br, q2]
  refine Cf.pu (ih2 _) fun u2 => ?_
  simp (maxSteps := 4000000) only [vm, vl, Arg.get, cells, stor, boundO, resultsV, resV, partK, loadV, Vm.part, fillC, splice, reduceIte, reduceCtorEq, Nat.reduceEqDiff, Nat.reduceAdd, Nat.reduceSub, Nat.reduceMul, Nat.reduceLeDiff, ne_eq, not_false_eq_true, Int.reduceEq, Int.reduceLT, Int.reduceLE, Int.reduceNeg, Int.reduceToNat, Int.reduceGT, Int.reduceGE, Nat.reduceLT, Nat.lt_add_one, Nat.zero_lt_succ, Nat.succ_pos, Nat.zero_le, beq_self_eq_true, k_gatepostref11_digits_0, bA]
theorem Kdig_ok : ∀ (k n : Nat) {h : Heap}, k ≤ 6 → n < 10 ^ (k + 1) → Cf F L i_gatepostref11_digits [.int .i64 n] h (Pu h (.str (Go.Lib.decDigits n)))
  | 0, n, h, hk, hn => Kdig1_ok (by omega)
  | k + 1, n, h, hk, hn => by
    by_cases h1 : n < 10
    · exact Kdig1_ok h1
    have n64 : n < 100000000 := Nat.lt_of_lt_of_le hn (Nat.le_trans (Nat.pow_le_pow_right (by omega) (show k + 1 + 1 ≤ 8 by omega)) (by decide))
    exact Kdig2_ok hk n64 h1 (Nat.le_trans (kdec_len k (n / 10) (by rw [Nat.pow_succ] at hn; omega)) (by omega)) fun hh => Kdig_ok k (n / 10) (by omega) (by rw [Nat.pow_succ] at hn; omega)
theorem rKey_ok {x y : V} {names : List Bs} {l : List Fld} (hx : ListV 1 x (strs names)) (hy : ListV 2 y (flds l)) (hkb : KeyB names l) : Cf F L i_gatepostref11_Key [x, y] h (Pu h (.str (keyS names l))) := by
  obtain ⟨k1, k2, k3, k4⟩ := hkb
  refine run_gatepostref11_Key ?_
  simp only [p_gatepostref11_Key]
  
  have hsl := strs_len names
  refine l_gatepostref11_Key_0 (fun n e h' => ∃ i, n = names.length - i ∧ i ≤ names.length ∧ e 0 = x ∧ e 1 = y ∧ e 5 = .str (keyS (names.take i) l) ∧ e 6 = .int .i64 i ∧ ∃ t, h' = h ++ t) ?_ (n := names.length) ⟨0, by simp, by simp, rfl, rfl, rfl, rfl, [], by simp⟩
  rintro n e h' ⟨i, rfl, hi, e0, e1, e5, e6, t, rfl⟩
  simp only [b_gatepostref11_Key_0, e0, e1, e5, e6]
  rcases list_at [] hi with ⟨hn', hie, hd⟩ | ⟨hl1, hl2, hd, htk⟩
  · have c1 : decide ((i : Int) < (names.length : Int)) = false := decide_eq_false hn'
    rw [show names.take i = names from List.take_of_length_le (by omega)]
    rcases hx with ⟨he, rfl⟩ | ⟨o, rfl⟩
    · have hl0 : names.length = 0 := by rw [← strs_len, he]; rfl
      have c2 : decide ((i : Int) < 0) = false := decide_eq_false (by omega)
      simp (maxSteps := 4000000) only [vm, vl, Arg.get, cells, stor, boundO, resultsV, resV, partK, loadV, Vm.part, fillC, splice, reduceIte, reduceCtorEq, Nat.reduceEqDiff, Nat.reduceAdd, Nat.reduceSub, Nat.reduceMul, Nat.reduceLeDiff, ne_eq, not_false_eq_true, Int.reduceEq, Int.reduceLT, Int.reduceLE, Int.reduceNeg, Int.reduceToNat, Int.reduceGT, Int.reduceGE, Nat.reduceLT, Nat.lt_add_one, Nat.zero_lt_succ, Nat.succ_pos, Nat.zero_le, beq_self_eq_true, c2, k_gatepostref11_Key_0]
    · simp (maxSteps := 4000000) only [vm, vl, Arg.get, cells, stor, boundO, resultsV, resV, partK, loadV, Vm.part, fillC, splice, reduceIte, reduceCtorEq, Nat.reduceEqDiff, Nat.reduceAdd, Nat.reduceSub, Nat.reduceMul, Nat.reduceLeDiff, ne_eq, not_false_eq_true, Int.reduceEq, Int.reduceLT, Int.reduceLE, Int.reduceNeg, Int.reduceToNat, Int.reduceGT, Int.reduceGE, Nat.reduceLT, Nat.lt_add_one, Nat.zero_lt_succ, Nat.succ_pos, Nat.zero_le, beq_self_eq_true, hsl, c1, k_gatepostref11_Key_0]
  obtain ⟨o, rfl⟩ : ∃ o, x = .sl 1 o (strs names) := by
    rcases hx with ⟨he, _⟩ | hx
    · rw [he] at hsl; simp at hsl; omega
    · exact hx
  have c1 : decide ((i : Int) < (names.length : Int)) = true := decide_eq_true hl1
  have i0 : (0 : Int) ≤ (i : Int) := by omega
  have w := wrap64 (x := (i : Int) + 1) (by omega) (by omega)
  have a1 := strs_at hl2
  have hmem : names.getD i [] ∈ names := getD_mem hl2
  have hnl := k2 _ hmem
  have hkl := keyG_len (gv l) (fun s => vals_bound l s k3 k4) (names.take i) (fun s hs => k2 s (List.mem_of_mem_take hs))
  rw [List.length_take] at hkl
  have hvl := vals_bound l (names.getD i []) k3 k4
  have hkey : keyS (names.take (i + 1)) l = keyS (names.take i) l ++ Kq.part (names.getD i []) (gv l (names.getD i [])).1 (gv l (names.getD i [])).2 := by
    unfold keyS
    rw [htk, Kq.keyG_app]
    simp [Kq.keyG]
  have hS : (keyS (names.take i) l).length ≤ 9400 * 300 := Nat.le_trans hkl (by omega)
  generalize keyS (names.take i) l = S at *
  have hg : getV l (names.getD i []) = .tup [.str (gv l (names.getD i [])).1, .int .i64 (gv l (names.getD i [])).2] := rfl
  generalize names.getD i [] = nm at *
  have hget := rGet_ok (L := L) (h := h ++ t) (name := nm) hy (by omega) (fun f hf => by have := sumF_mem hf; omega) (by omega) (by omega)
  rw [hg] at hget
  generalize (gv l nm).1 = v at *
  generalize (gv l nm).2 = c at *
  simp (maxSteps := 4000000) only [vm, vl, Arg.get, cells, stor, boundO, resultsV, resV, partK, loadV, Vm.part, fillC, splice, reduceIte, reduceCtorEq, Nat.reduceEqDiff, Nat.reduceAdd, Nat.reduceSub, Nat.reduceMul, Nat.reduceLeDiff, ne_eq, not_false_eq_true, Int.reduceEq, Int.reduceLT, Int.reduceLE, Int.reduceNeg, Int.reduceToNat, Int.reduceGT, Int.reduceGE, Nat.reduceLT, Nat.lt_add_one, Nat.zero_lt_succ, Nat.succ_pos, Nat.zero_le, beq_self_eq_true, hsl, c1, k_gatepostref11_Key_1, i0, hl2, a1, Int.toNat_natCast]
  refine Cf.pu hget fun t1 => ?_
  unfold k_gatepostref11_Key_4
  by_cases hc : c = 0
  · subst hc
    have cz : decide (((0 : Nat) : Int) = 0) = true := rfl
    have b1 := bin_sadd (s := S) (t := nm) (by omega)
    have b2 := bin_sadd (s := S ++ nm) (t := [58, 45, 44]) (by simp; omega)
    have e5' : S ++ Kq.part nm v 0 = S ++ nm ++ [58, 45, 44] := by simp [Kq.part]
    rw [e5'] at hkey
    generalize S ++ nm ++ [58, 45, 44] = R at *
    simp (maxSteps := 4000000) only [vm, vl, Arg.get, cells, stor, boundO, resultsV, resV, partK, loadV, Vm.part, fillC, splice, reduceIte, reduceCtorEq, Nat.reduceEqDiff, Nat.reduceAdd, Nat.reduceSub, Nat.reduceMul, Nat.reduceLeDiff, ne_eq, not_false_eq_true, Int.reduceEq, Int.reduceLT, Int.reduceLE, Int.reduceNeg, Int.reduceToNat, Int.reduceGT, Int.reduceGE, Nat.reduceLT, Nat.lt_add_one, Nat.zero_lt_succ, Nat.succ_pos, Nat.zero_le, beq_self_eq_true, cz, hsl, i0, hl2, a1, Int.toNat_natCast, b1, b2, k_gatepostref11_Key_2, w]
    exact ⟨names.length - (i + 1), by omega, i + 1, rfl, hl2, by exact e0, by exact e1, by rw [hkey], rfl, _, rfl⟩
  · have cz : decide (((c : Nat) : Int) = 0) = false := decide_eq_false (by omega)
    have hdl := kdec_len 6 v.length (by omega)
    have e5' : S ++ Kq.part nm v c = S ++ nm ++ [58] ++ Go.Lib.decDigits v.length ++ [58] ++ v ++ [44] := by
      unfold Kq.part
      rw [if_neg hc, itoa_nat]
      simp
    rw [e5'] at hkey
    have b1 := bin_sadd (s := S) (t := nm) (by omega)
    have b2 := bin_sadd (s := S ++ nm) (t := [58]) (by simp; omega)
    have b3 := bin_sadd (s := S ++ nm ++ [58]) (t := Go.Lib.decDigits v.length) (by simp; omega)
    have b4 := bin_sadd (s := S ++ nm ++ [58] ++ Go.Lib.decDigits v.length) (t := [58]) (by simp; omega)
    have b5 := bin_sadd (s := S ++ nm ++ [58] ++ Go.Lib.decDigits v.length ++ [58]) (t := v) (by simp; omega)
    have b6 := bin_sadd (s := S ++ nm ++ [58] ++ Go.Lib.decDigits v.length ++ [58] ++ v) (t := [44]) (by simp; omega)
    have D1 := fun hh => Kdig_ok (L := L) (h := hh) 6 v.length (by omega) (by omega)
    clear e5' hkl hS hdl hget hg
    generalize Go.Lib.decDigits v.length = dg at *
    generalize h6 : S ++ nm ++ [58] ++ dg ++ [58] ++ v ++ [44] = s6 at *
    generalize h5 : S ++ nm ++ [58] ++ dg ++ [58] ++ v = s5 at *
    generalize h4 : S ++ nm ++ [58] ++ dg ++ [58] = s4 at *
    generalize h3 : S ++ nm ++ [58] ++ dg = s3 at *
    generalize h2 : S ++ nm ++ [58] = s2 at *
    generalize h1 : S ++ nm = s1 at *
    simp (maxSteps := 4000000) only [vm, vl, Arg.get, cells, stor, boundO, resultsV, resV, partK, loadV, Vm.part, fillC, splice, reduceIte, reduceCtorEq, Nat.reduceEqDiff, Nat.reduceAdd, Nat.reduceSub, Nat.reduceMul, Nat.reduceLeDiff, ne_eq, not_false_eq_true, Int.reduceEq, Int.reduceLT, Int.reduceLE, Int.reduceNeg, Int.reduceToNat, Int.reduceGT, Int.reduceGE, Nat.reduceLT, Nat.lt_add_one, Nat.zero_lt_succ, Nat.succ_pos, Nat.zero_le, beq_self_eq_true, cz, hsl, i0, hl2, a1, Int.toNat_natCast, b1, b2]
    refine Cf.pu (D1 _) fun t2 => ?_
    unfold k_gatepostref11_Key_3
    simp (maxSteps := 4000000) only [vm, vl, Arg.get, cells, stor, boundO, resultsV, resV, partK, loadV, Vm.part, fillC, splice, reduceIte, reduceCtorEq, Nat.reduceEqDiff, Nat.reduceAdd, Nat.reduceSub, Nat.reduceMul, Nat.reduceLeDiff, ne_eq, not_false_eq_true, Int.reduceEq, Int.reduceLT, Int.reduceLE, Int.reduceNeg, Int.reduceToNat, Int.reduceGT, Int.reduceGE, Nat.reduceLT, Nat.lt_add_one, Nat.zero_lt_succ, Nat.succ_pos, Nat.zero_le, beq_self_eq_true, b3, b4, b5, b6, k_gatepostref11_Key_2, w]
    exact ⟨names.length - (i + 1), by omega, i + 1, rfl, hl2, by exact e0, by exact e1, by rw [hkey], rfl, _, rfl⟩
end Go.Proofs.YtfihnnebffkbfaaDoor.Vh
end
section
set_option linter.unusedVariables false
set_option linter.unusedSimpArgs false
namespace Go.Proofs.YtfihnnebffkbfaaDoor.Vh
open Go.Vm Go.Vt
attribute [local congr] wi_congr wg_congr wgd_congr wb_congr wl_congr cf_congr
variable {L : FuncId → List V → V → Prop} {h : Heap}
theorem HslV.more {h t : Heap} {x : V} {out : List Bs} (hx : HslV h x out) : HslV (h ++ t) x out :=
  hx.imp_right fun ⟨id, e, hb⟩ => ⟨id, e, get_old hb⟩
def LV : FuncId → List V → V → Prop := fun f a v => LJoin f a v ∨ LKey f a v ∨ LSort f a v
theorem lv_at {w : World} (ht : TabAt w) : LibAt Tryd.prog w LV := fun f a v h => h.elim (join_at w f a v) fun h => h.elim (key_at ht f a v) (sort_at0 w f a v)
theorem lv_sort (w : World) : SortAt Tryd.prog w LV := by
  rintro f (⟨_, x, l, _, _, _, h, _⟩ | ⟨_, x, y, n, l, _, _, _, h, _⟩ | h)
  · cases h
  · cases h
  · exact sort_at w f h
theorem sortOk : SortOk LV := ⟨.inr (.inr ⟨rfl, rfl, .inl rfl⟩), .inr (.inr ⟨rfl, rfl, .inr rfl⟩)⟩
end Go.Proofs.YtfihnnebffkbfaaDoor.Vh
end
section
set_option linter.unusedVariables false
set_option linter.unusedSimpArgs false
namespace Go.Proofs.YtfihnnebffkbfaaDoor.Vh
open Go.Vm Go.Vt
attribute [local congr] wi_congr wg_congr wgd_congr wb_congr wl_congr cf_congr
variable {L : FuncId → List V → V → Prop} {h : Heap}
theorem key_a : keyS [[97]] [] = [97, 58, 45, 44] := by decide +kernel
theorem tel_last (HK : KeyOk L) {x z : V} {out : List Bs} (hx : HslV h x out) (hz : ListV 1 z (strs out)) {e : Env} (hl : out.length ≤ 1000000) (e7 : e 7 = x) (e9 : e 9 = z) :
    k_gatepostlaw11_VaryTells_1 L (fun v _ => v = .bool true) e h := by
  
  unfold k_gatepostlaw11_VaryTells_1
  refine l_gatepostlaw11_VaryTells_0 (fun n e h' => ∃ i, n = out.length - i ∧ i ≤ out.length ∧ e 7 = x ∧ e 9 = z ∧ e 11 = .int .i64 i ∧ h' = h) ?_ (n := out.length) ⟨0, by simp, by simp, e7, e9, rfl, rfl⟩
  clear e7 e9
  rintro n e h' ⟨i, rfl, hi, e7, e9, e11, rfl⟩
  simp only [b_gatepostlaw11_VaryTells_0, e7, e9, e11]
  have hsl := strs_len out
  have hk := HK (x := .sl 1 .full [.str [97]]) (y := .nsl) (names := [[97]]) (l := []) (h := h') (.inr ⟨_, rfl⟩) (.inl ⟨rfl, rfl⟩) (.inr ⟨by decide, by simp, by decide, by decide⟩)
  rw [key_a] at hk
  have fin : k_gatepostlaw11_VaryTells_2 L (fun v _ => v = .bool true) h' := by
    unfold k_gatepostlaw11_VaryTells_2
    simp (maxSteps := 4000000) only [vm, vl, Arg.get, cells, stor, boundO, resultsV, resV, partK, loadV, Vm.part, fillC, splice, reduceIte, reduceCtorEq, Nat.reduceEqDiff, Nat.reduceAdd, Nat.reduceSub, Nat.reduceMul, Nat.reduceLeDiff, ne_eq, not_false_eq_true, Int.reduceEq, Int.reduceLT, Int.reduceLE, Int.reduceNeg, Int.reduceToNat, Int.reduceGT, Int.reduceGE, Nat.reduceLT, Nat.lt_add_one, Nat.zero_lt_succ, Nat.succ_pos, Nat.zero_le, beq_self_eq_true]
    refine Cf.pu hk fun t => ?_
    simp (maxSteps := 4000000) only [vm, vl, Arg.get, cells, stor, boundO, resultsV, resV, partK, loadV, Vm.part, fillC, splice, reduceIte, reduceCtorEq, Nat.reduceEqDiff, Nat.reduceAdd, Nat.reduceSub, Nat.reduceMul, Nat.reduceLeDiff, ne_eq, not_false_eq_true, Int.reduceEq, Int.reduceLT, Int.reduceLE, Int.reduceNeg, Int.reduceToNat, Int.reduceGT, Int.reduceGE, Nat.reduceLT, Nat.lt_add_one, Nat.zero_lt_succ, Nat.succ_pos, Nat.zero_le, beq_self_eq_true, beq_self_eq_true]
  rcases list_at [] hi with ⟨hn', hie, hd⟩ | ⟨hl1, hl2, hd, htk⟩
  · have c1 : decide ((i : Int) < (out.length : Int)) = false := decide_eq_false hn'
    rcases hz with ⟨he, rfl⟩ | ⟨o, rfl⟩
    · have hl0 : out.length = 0 := by rw [← strs_len, he]; rfl
      have c2 : decide ((i : Int) < 0) = false := decide_eq_false (by omega)
      simp (maxSteps := 4000000) only [vm, vl, Arg.get, cells, stor, boundO, resultsV, resV, partK, loadV, Vm.part, fillC, splice, reduceIte, reduceCtorEq, Nat.reduceEqDiff, Nat.reduceAdd, Nat.reduceSub, Nat.reduceMul, Nat.reduceLeDiff, ne_eq, not_false_eq_true, Int.reduceEq, Int.reduceLT, Int.reduceLE, Int.reduceNeg, Int.reduceToNat, Int.reduceGT, Int.reduceGE, Nat.reduceLT, Nat.lt_add_one, Nat.zero_lt_succ, Nat.succ_pos, Nat.zero_le, beq_self_eq_true, c2]
      exact fin
    · simp (maxSteps := 4000000) only [vm, vl, Arg.get, cells, stor, boundO, resultsV, resV, partK, loadV, Vm.part, fillC, splice, reduceIte, reduceCtorEq, Nat.reduceEqDiff, Nat.reduceAdd, Nat.reduceSub, Nat.reduceMul, Nat.reduceLeDiff, ne_eq, not_false_eq_true, Int.reduceEq, Int.reduceLT, Int.reduceLE, Int.reduceNeg, Int.reduceToNat, Int.reduceGT, Int.reduceGE, Nat.reduceLT, Nat.lt_add_one, Nat.zero_lt_succ, Nat.succ_pos, Nat.zero_le, beq_self_eq_true, hsl, c1]
      exact fin
  · have c1 : decide ((i : Int) < (out.length : Int)) = true := decide_eq_true hl1
    have i0 : (0 : Int) ≤ (i : Int) := by omega
    have w := wrap64 (x := (i : Int) + 1) (by omega) (by omega)
    have a1 := strs_at hl2
    obtain ⟨o, rfl⟩ : ∃ o, z = .sl 1 o (strs out) := by
      rcases hz with ⟨he, _⟩ | hz
      · rw [he] at hsl; simp at hsl; omega
      · exact hz
    obtain ⟨id, rfl, hb⟩ : ∃ id, x = .hsl 1 id out.length ∧ h'[id]? = some (.box (strsV out)) := by
      rcases hx with ⟨he, _⟩ | hx
      · rw [he] at hl2; simp at hl2
      · exact hx
    have hg : (strsV out).getD i (.tup []) = .str (out.getD i []) := strs_at hl2
    have hil : i + 1 ≤ (strsV out).length := by simp [strsV]; omega
    generalize out.getD i [] = s at *
    clear fin hk
    simp (maxSteps := 4000000) only [vm, vl, Arg.get, cells, stor, boundO, resultsV, resV, partK, loadV, Vm.part, fillC, splice, reduceIte, reduceCtorEq, Nat.reduceEqDiff, Nat.reduceAdd, Nat.reduceSub, Nat.reduceMul, Nat.reduceLeDiff, ne_eq, not_false_eq_true, Int.reduceEq, Int.reduceLT, Int.reduceLE, Int.reduceNeg, Int.reduceToNat, Int.reduceGT, Int.reduceGE, Nat.reduceLT, Nat.lt_add_one, Nat.zero_lt_succ, Nat.succ_pos, Nat.zero_le, beq_self_eq_true, hsl, c1, k_gatepostlaw11_VaryTells_3, i0, hl2, a1, hb, hg, hil, Int.toNat_natCast, Nat.mul_one, k_gatepostlaw11_VaryTells_4, w, beq_self_eq_true, Bool.not_true]
    exact ⟨out.length - (i + 1), by omega, i + 1, rfl, hl2, e7, e9, rfl⟩
/-- The keys, behind the names. -/
theorem tel_keys (HK : KeyOk L) {x0 x1 x2 x z v27 : V} {names : List Bs} {a b : List Fld} {out : List Bs} {ok : Bool} (h0 : ListV 2 x0 (flds a)) (h1 : ListV 1 x1 (strs names)) (h2 : ListV 2 x2 (flds b)) (ka : KeyB names a) (kb : KeyB names b) (hx : HslV h x out) (hz : ListV 1 z (strs out)) (hl : out.length ≤ 1000000) {e : Env} :
    k_gatepostlaw11_VaryTells_8 L (fun v _ => v = .bool true) e x0 x1 x2 v27 x (.bool ok) (.tup [z, .bool ok]) h := by
  
  unfold k_gatepostlaw11_VaryTells_8
  have hsl := strs_len out
  have c1 : decide (((out.length : Nat) : Int) = (out.length : Int)) = true := decide_eq_true rfl
  have c2 : decide ((0 : Int) = 0) = true := rfl
  have main : ∀ (e : Env) (v27 v28 v33 v39 v40 v41 v42 v43 : V) (h : Heap), HslV h x out → v28 = x → v33 = z → wi F L (.call i_vary_Key [(.c x1), (.c x0)]) E0 h (fun v48 h => wi F L (.call i_gatepostref11_Key [(.c x1), (.c x0)]) E0 h fun v51 h =>
      k_gatepostlaw11_VaryTells_7 L (fun v _ => v = .bool true) e x0 x1 x2 v27 v28 (.bool ok) (.tup [z, .bool ok]) v33 (.bool ok) (.bool false) v39 v40 v41 v42 v43 (.bool false) x1 x0 v48 x1 x0 v51 h) := by
    clear c1 c2 hsl
    intro e v27 v28 v33 v39 v40 v41 v42 v43 h hx e28 e33
    subst e28 e33
    simp (maxSteps := 4000000) only [vm, vl, Arg.get, cells, stor, boundO, resultsV, resV, partK, loadV, Vm.part, fillC, splice, reduceIte, reduceCtorEq, Nat.reduceEqDiff, Nat.reduceAdd, Nat.reduceSub, Nat.reduceMul, Nat.reduceLeDiff, ne_eq, not_false_eq_true, Int.reduceEq, Int.reduceLT, Int.reduceLE, Int.reduceNeg, Int.reduceToNat, Int.reduceGT, Int.reduceGE, Nat.reduceLT, Nat.lt_add_one, Nat.zero_lt_succ, Nat.succ_pos, Nat.zero_le, beq_self_eq_true]
    refine Cf.pu (HK h1 h0 (.inr ka)) fun t1 => ?_
    try simp (maxSteps := 4000000) only [vm, vl, Arg.get, cells, stor, boundO, resultsV, resV, partK, loadV, Vm.part, fillC, splice, reduceIte, reduceCtorEq, Nat.reduceEqDiff, Nat.reduceAdd, Nat.reduceSub, Nat.reduceMul, Nat.reduceLeDiff, ne_eq, not_false_eq_true, Int.reduceEq, Int.reduceLT, Int.reduceLE, Int.reduceNeg, Int.reduceToNat, Int.reduceGT, Int.reduceGE, Nat.reduceLT, Nat.lt_add_one, Nat.zero_lt_succ, Nat.succ_pos, Nat.zero_le, beq_self_eq_true]
    refine Cf.pu (rKey_ok h1 h0 ka) fun t2 => ?_
    unfold k_gatepostlaw11_VaryTells_7
    simp (maxSteps := 4000000) only [vm, vl, Arg.get, cells, stor, boundO, resultsV, resV, partK, loadV, Vm.part, fillC, splice, reduceIte, reduceCtorEq, Nat.reduceEqDiff, Nat.reduceAdd, Nat.reduceSub, Nat.reduceMul, Nat.reduceLeDiff, ne_eq, not_false_eq_true, Int.reduceEq, Int.reduceLT, Int.reduceLE, Int.reduceNeg, Int.reduceToNat, Int.reduceGT, Int.reduceGE, Nat.reduceLT, Nat.lt_add_one, Nat.zero_lt_succ, Nat.succ_pos, Nat.zero_le, beq_self_eq_true, beq_self_eq_true, Bool.not_true]
    refine Cf.pu (Same11_ok HK h1 h0 h2 (.inr ka) (.inr kb)) fun t3 => ?_
    unfold k_gatepostlaw11_VaryTells_6
    simp (maxSteps := 4000000) only [vm, vl, Arg.get, cells, stor, boundO, resultsV, resV, partK, loadV, Vm.part, fillC, splice, reduceIte, reduceCtorEq, Nat.reduceEqDiff, Nat.reduceAdd, Nat.reduceSub, Nat.reduceMul, Nat.reduceLeDiff, ne_eq, not_false_eq_true, Int.reduceEq, Int.reduceLT, Int.reduceLE, Int.reduceNeg, Int.reduceToNat, Int.reduceGT, Int.reduceGE, Nat.reduceLT, Nat.lt_add_one, Nat.zero_lt_succ, Nat.succ_pos, Nat.zero_le, beq_self_eq_true]
    refine Cf.pu (rKey_ok h1 h0 ka) fun t4 => ?_
    try simp (maxSteps := 4000000) only [vm, vl, Arg.get, cells, stor, boundO, resultsV, resV, partK, loadV, Vm.part, fillC, splice, reduceIte, reduceCtorEq, Nat.reduceEqDiff, Nat.reduceAdd, Nat.reduceSub, Nat.reduceMul, Nat.reduceLeDiff, ne_eq, not_false_eq_true, Int.reduceEq, Int.reduceLT, Int.reduceLE, Int.reduceNeg, Int.reduceToNat, Int.reduceGT, Int.reduceGE, Nat.reduceLT, Nat.lt_add_one, Nat.zero_lt_succ, Nat.succ_pos, Nat.zero_le, beq_self_eq_true]
    refine Cf.pu (rKey_ok h1 h2 kb) fun t5 => ?_
    unfold k_gatepostlaw11_VaryTells_5
    have hxx := hx.more (t := t1 ++ (t2 ++ (t3 ++ (t4 ++ t5))))
    simp (maxSteps := 4000000) only [vm, vl, Arg.get, cells, stor, boundO, resultsV, resV, partK, loadV, Vm.part, fillC, splice, reduceIte, reduceCtorEq, Nat.reduceEqDiff, Nat.reduceAdd, Nat.reduceSub, Nat.reduceMul, Nat.reduceLeDiff, ne_eq, not_false_eq_true, Int.reduceEq, Int.reduceLT, Int.reduceLE, Int.reduceNeg, Int.reduceToNat, Int.reduceGT, Int.reduceGE, Nat.reduceLT, Nat.lt_add_one, Nat.zero_lt_succ, Nat.succ_pos, Nat.zero_le, beq_self_eq_true, beq_self_eq_true, Bool.not_true]
    exact tel_last HK hxx hz hl rfl rfl
  have hok : (ok == ok) = true := beq_self_eq_true ok
  have hx0 := hx
  rcases hx with ⟨he, rfl⟩ | ⟨id, rfl, hb⟩
  · have hl0 : out.length = 0 := by rw [he]; rfl
    rcases hz with ⟨hz0, rfl⟩ | ⟨o, rfl⟩
    · simp (maxSteps := 4000000) only [vm, vl, Arg.get, cells, stor, boundO, resultsV, resV, partK, loadV, Vm.part, fillC, splice, reduceIte, reduceCtorEq, Nat.reduceEqDiff, Nat.reduceAdd, Nat.reduceSub, Nat.reduceMul, Nat.reduceLeDiff, ne_eq, not_false_eq_true, Int.reduceEq, Int.reduceLT, Int.reduceLE, Int.reduceNeg, Int.reduceToNat, Int.reduceGT, Int.reduceGE, Nat.reduceLT, Nat.lt_add_one, Nat.zero_lt_succ, Nat.succ_pos, Nat.zero_le, beq_self_eq_true, hok, Bool.not_true, c2]
      exact main _ _ _ _ _ _ _ _ _ _ hx0 rfl rfl
    · rw [hl0] at hsl
      simp (maxSteps := 4000000) only [vm, vl, Arg.get, cells, stor, boundO, resultsV, resV, partK, loadV, Vm.part, fillC, splice, reduceIte, reduceCtorEq, Nat.reduceEqDiff, Nat.reduceAdd, Nat.reduceSub, Nat.reduceMul, Nat.reduceLeDiff, ne_eq, not_false_eq_true, Int.reduceEq, Int.reduceLT, Int.reduceLE, Int.reduceNeg, Int.reduceToNat, Int.reduceGT, Int.reduceGE, Nat.reduceLT, Nat.lt_add_one, Nat.zero_lt_succ, Nat.succ_pos, Nat.zero_le, beq_self_eq_true, hok, Bool.not_true, c2, hsl, Int.natCast_zero]
      exact main _ _ _ _ _ _ _ _ _ _ hx0 rfl rfl
  · obtain ⟨o, rfl⟩ | hz0 : (∃ o, z = .sl 1 o (strs out)) ∨ (out = [] ∧ z = .nsl) := by
      rcases hz with ⟨he, h2⟩ | hz
      · exact .inr ⟨by simpa [strs] using he, h2⟩
      · exact .inl hz
    · simp (maxSteps := 4000000) only [vm, vl, Arg.get, cells, stor, boundO, resultsV, resV, partK, loadV, Vm.part, fillC, splice, reduceIte, reduceCtorEq, Nat.reduceEqDiff, Nat.reduceAdd, Nat.reduceSub, Nat.reduceMul, Nat.reduceLeDiff, ne_eq, not_false_eq_true, Int.reduceEq, Int.reduceLT, Int.reduceLE, Int.reduceNeg, Int.reduceToNat, Int.reduceGT, Int.reduceGE, Nat.reduceLT, Nat.lt_add_one, Nat.zero_lt_succ, Nat.succ_pos, Nat.zero_le, beq_self_eq_true, hok, Bool.not_true, c1, hsl]
      exact main _ _ _ _ _ _ _ _ _ _ hx0 rfl rfl
    · obtain ⟨h3, rfl⟩ := hz0
      have hl0 : out.length = 0 := by rw [h3]; rfl
      rw [hl0] at main hx0
      rw [hl0]
      simp (maxSteps := 4000000) only [vm, vl, Arg.get, cells, stor, boundO, resultsV, resV, partK, loadV, Vm.part, fillC, splice, reduceIte, reduceCtorEq, Nat.reduceEqDiff, Nat.reduceAdd, Nat.reduceSub, Nat.reduceMul, Nat.reduceLeDiff, ne_eq, not_false_eq_true, Int.reduceEq, Int.reduceLT, Int.reduceLE, Int.reduceNeg, Int.reduceToNat, Int.reduceGT, Int.reduceGE, Nat.reduceLT, Nat.lt_add_one, Nat.zero_lt_succ, Nat.succ_pos, Nat.zero_le, beq_self_eq_true, hok, Bool.not_true, c2, Int.natCast_zero]
      exact main _ _ _ _ _ _ _ _ _ _ hx0 rfl rfl
theorem VaryTells_ok (HJ : JoinOk L) (HS : SortOk L) (HK : KeyOk L) {x y z : V} {names : List Bs} {a b : List Fld} (hx : ListV 1 x (strs names)) (hn : names.length ≤ 140737488351232) (hnz : ∀ f ∈ names, f.length ≤ 140737488351232)
    (hy : ListV 2 y (flds a)) (hya : a.length ≤ 140737488351232) (hyz : ∀ f ∈ a, f.1.length ≤ 140737488351232 ∧ f.2.length ≤ 140737488351232)
    (hz : ListV 2 z (flds b)) (hzb : b.length ≤ 140737488351232) (hzz : ∀ f ∈ b, f.1.length ≤ 140737488351232 ∧ f.2.length ≤ 140737488351232) :
    Cf F L i_gatepostlaw11_VaryTells [y, x, z] h (fun v _ => v = .bool true) := by
  refine run_gatepostlaw11_VaryTells ?_
  simp only [p_gatepostlaw11_VaryTells]
  
  refine Cf.pu (few11_ok hy hya hyz) fun t2 => ?_
  unfold k_gatepostlaw11_VaryTells_10
  by_cases c1 : 20 * a.length + sumF a < 3000
  case neg =>
    simp (maxSteps := 4000000) only [vm, vl, Arg.get, cells, stor, boundO, resultsV, resV, partK, loadV, Vm.part, fillC, splice, reduceIte, reduceCtorEq, Nat.reduceEqDiff, Nat.reduceAdd, Nat.reduceSub, Nat.reduceMul, Nat.reduceLeDiff, ne_eq, not_false_eq_true, Int.reduceEq, Int.reduceLT, Int.reduceLE, Int.reduceNeg, Int.reduceToNat, Int.reduceGT, Int.reduceGE, Nat.reduceLT, Nat.lt_add_one, Nat.zero_lt_succ, Nat.succ_pos, Nat.zero_le, beq_self_eq_true, c1, decide_false, Bool.not_false, k_gatepostlaw11_VaryTells_9]
  simp (maxSteps := 4000000) only [vm, vl, Arg.get, cells, stor, boundO, resultsV, resV, partK, loadV, Vm.part, fillC, splice, reduceIte, reduceCtorEq, Nat.reduceEqDiff, Nat.reduceAdd, Nat.reduceSub, Nat.reduceMul, Nat.reduceLeDiff, ne_eq, not_false_eq_true, Int.reduceEq, Int.reduceLT, Int.reduceLE, Int.reduceNeg, Int.reduceToNat, Int.reduceGT, Int.reduceGE, Nat.reduceLT, Nat.lt_add_one, Nat.zero_lt_succ, Nat.succ_pos, Nat.zero_le, beq_self_eq_true, c1, decide_true, Bool.not_true]
  refine Cf.pu (few11_ok hz hzb hzz) fun t3 => ?_
  by_cases c2 : 20 * b.length + sumF b < 3000
  case neg =>
    simp (maxSteps := 4000000) only [vm, vl, Arg.get, cells, stor, boundO, resultsV, resV, partK, loadV, Vm.part, fillC, splice, reduceIte, reduceCtorEq, Nat.reduceEqDiff, Nat.reduceAdd, Nat.reduceSub, Nat.reduceMul, Nat.reduceLeDiff, ne_eq, not_false_eq_true, Int.reduceEq, Int.reduceLT, Int.reduceLE, Int.reduceNeg, Int.reduceToNat, Int.reduceGT, Int.reduceGE, Nat.reduceLT, Nat.lt_add_one, Nat.zero_lt_succ, Nat.succ_pos, Nat.zero_le, beq_self_eq_true, c2, decide_false, Bool.not_false, k_gatepostlaw11_VaryTells_9]
  simp (maxSteps := 4000000) only [vm, vl, Arg.get, cells, stor, boundO, resultsV, resV, partK, loadV, Vm.part, fillC, splice, reduceIte, reduceCtorEq, Nat.reduceEqDiff, Nat.reduceAdd, Nat.reduceSub, Nat.reduceMul, Nat.reduceLeDiff, ne_eq, not_false_eq_true, Int.reduceEq, Int.reduceLT, Int.reduceLE, Int.reduceNeg, Int.reduceToNat, Int.reduceGT, Int.reduceGE, Nat.reduceLT, Nat.lt_add_one, Nat.zero_lt_succ, Nat.succ_pos, Nat.zero_le, beq_self_eq_true, c2, decide_true, Bool.not_true]
  refine Cf.pu (short11_ok hx hn hnz) fun t4 => ?_
  unfold k_gatepostlaw11_VaryTells_9
  by_cases c3 : 5 * names.length + sumN names < 300
  case neg =>
    simp (maxSteps := 4000000) only [vm, vl, Arg.get, cells, stor, boundO, resultsV, resV, partK, loadV, Vm.part, fillC, splice, reduceIte, reduceCtorEq, Nat.reduceEqDiff, Nat.reduceAdd, Nat.reduceSub, Nat.reduceMul, Nat.reduceLeDiff, ne_eq, not_false_eq_true, Int.reduceEq, Int.reduceLT, Int.reduceLE, Int.reduceNeg, Int.reduceToNat, Int.reduceGT, Int.reduceGE, Nat.reduceLT, Nat.lt_add_one, Nat.zero_lt_succ, Nat.succ_pos, Nat.zero_le, beq_self_eq_true, c3, decide_false, Bool.not_false]
  simp (maxSteps := 4000000) only [vm, vl, Arg.get, cells, stor, boundO, resultsV, resV, partK, loadV, Vm.part, fillC, splice, reduceIte, reduceCtorEq, Nat.reduceEqDiff, Nat.reduceAdd, Nat.reduceSub, Nat.reduceMul, Nat.reduceLeDiff, ne_eq, not_false_eq_true, Int.reduceEq, Int.reduceLT, Int.reduceLE, Int.reduceNeg, Int.reduceToNat, Int.reduceGT, Int.reduceGE, Nat.reduceLT, Nat.lt_add_one, Nat.zero_lt_succ, Nat.succ_pos, Nat.zero_le, beq_self_eq_true, c3, decide_true, Bool.not_true]
  unfold k_gatepostlaw11_VaryTells_0
  have kb : ∀ l : List Fld, 20 * l.length + sumF l < 3000 → KeyB names l := fun l hl => ⟨by omega, fun s hs => by have := sumN_mem hs; omega, by omega, by omega⟩
  have ha := kb a c1
  have hb := kb b c2
  have hf : ∀ f ∈ a, f.1.length ≤ 140737488355328 := fun f hf => by have := sumF_mem hf; omega
  have hj : (joinS (valsOf a varyU)).length ≤ 100000 := by have := vals_join a varyU; omega
  have hbd : ∀ out, vnO (joinS (valsOf a varyU)) = some out → out.length ≤ 1000000 := by
    intro out ho
    unfold vnO at ho
    split at ho
    · rename_i all q
      split at ho
      · cases ho
      · injection ho with ho
        rw [← ho, sortS_len]
        have h1 := ded_len all []
        have h2 : all.length ≤ 200000 := by
          unfold namesO at q
          split at q
          · rename_i a' qa
            split at q
            · simp only [Option.some.injEq] at q
              subst q
              rw [List.length_map]
              have := mem_split_len qa
              omega
            · cases q
          · cases q
        unfold dedS
        simp at h1
        omega
    · cases ho
  simp (maxSteps := 4000000) only [vm, vl, Arg.get, cells, stor, boundO, resultsV, resV, partK, loadV, Vm.part, fillC, splice, reduceIte, reduceCtorEq, Nat.reduceEqDiff, Nat.reduceAdd, Nat.reduceSub, Nat.reduceMul, Nat.reduceLeDiff, ne_eq, not_false_eq_true, Int.reduceEq, Int.reduceLT, Int.reduceLE, Int.reduceNeg, Int.reduceToNat, Int.reduceGT, Int.reduceGE, Nat.reduceLT, Nat.lt_add_one, Nat.zero_lt_succ, Nat.succ_pos, Nat.zero_le, beq_self_eq_true]
  refine (VNames_ok HJ HS hy (by omega) hf hj).mono fun v h1 hp => ?_
  have hR := rVNames_ok (L := L) (h := h1) hy (by omega) hf (by omega) hj
  generalize vnO (joinS (valsOf a varyU)) = vo at *
  obtain ⟨_, hp⟩ := hp
  rcases hp with ⟨rfl, rfl⟩ | ⟨x1, out, rfl, rfl, hv⟩
  · simp (maxSteps := 4000000) only [vm, vl, Arg.get, cells, stor, boundO, resultsV, resV, partK, loadV, Vm.part, fillC, splice, reduceIte, reduceCtorEq, Nat.reduceEqDiff, Nat.reduceAdd, Nat.reduceSub, Nat.reduceMul, Nat.reduceLeDiff, ne_eq, not_false_eq_true, Int.reduceEq, Int.reduceLT, Int.reduceLE, Int.reduceNeg, Int.reduceToNat, Int.reduceGT, Int.reduceGE, Nat.reduceLT, Nat.lt_add_one, Nat.zero_lt_succ, Nat.succ_pos, Nat.zero_le, beq_self_eq_true]
    refine hR.mono fun v2 h2 hp2 => ?_
    obtain ⟨_, hp2⟩ := hp2
    rcases hp2 with ⟨_, rfl⟩ | ⟨out2, x2, h0, _⟩
    · exact tel_keys HK hy hx hz ha hb (.inl ⟨rfl, rfl⟩) (.inl ⟨rfl, rfl⟩) (by simp)
    · cases h0
  · simp (maxSteps := 4000000) only [vm, vl, Arg.get, cells, stor, boundO, resultsV, resV, partK, loadV, Vm.part, fillC, splice, reduceIte, reduceCtorEq, Nat.reduceEqDiff, Nat.reduceAdd, Nat.reduceSub, Nat.reduceMul, Nat.reduceLeDiff, ne_eq, not_false_eq_true, Int.reduceEq, Int.reduceLT, Int.reduceLE, Int.reduceNeg, Int.reduceToNat, Int.reduceGT, Int.reduceGE, Nat.reduceLT, Nat.lt_add_one, Nat.zero_lt_succ, Nat.succ_pos, Nat.zero_le, beq_self_eq_true]
    refine hR.mono fun v2 h2 hp2 => ?_
    obtain ⟨⟨t, rfl⟩, hp2⟩ := hp2
    rcases hp2 with ⟨h0, _⟩ | ⟨out2, x2, h0, rfl, hl⟩
    · cases h0
    · injection h0 with h0
      subst h0
      exact tel_keys HK hy hx hz ha hb hv.more hl (hbd _ rfl)
theorem VaryTells_row {x0 x1 x2 : V} (v0 : VPar [.sl [.s, .s]] x0) (v1 : VPar [.sl [.s]] x1) (v2 : VPar [.sl [.s, .s]] x2) (w : World) (ht : TabAt w) (vs : List Value) (hv : Rvs w.heap.size G0 w [x0, x1, x2] vs) :
    Calls Tryd.prog i_gatepostlaw11_VaryTells vs.toArray w fun e w' => e = .returned (.bool true) ∧ RowKit.Below w.heap.size w w' := by
  obtain ⟨a, a1, a2, a3⟩ := fields_par v0
  obtain ⟨names, n1, n2, n3⟩ := vtexts_par v1
  obtain ⟨b, b1, b2, b3⟩ := fields_par v2
  exact calls_at hm hF (lv_at ht) (lv_sort w) (VaryTells_ok (joinOk fun _ _ _ h => .inl h) sortOk (keyOk fun _ _ _ h => .inr (.inl h)) n1 n2 n3 a1 a2 a3 b1 b2 b3) hv
end Go.Proofs.YtfihnnebffkbfaaDoor.Vh
end
