/- vary.Key, walked by hand. Conditions: at most 2^46 bytes. -/
import Derived.Test.YtfihnnebffkbfaaDoorVKeyB
set_option linter.unusedVariables false
set_option linter.unusedSimpArgs false
namespace Go.Proofs.YtfihnnebffkbfaaDoor.Kq
open Go.RowKit
/-- Of a name: its value, and how many fields there are. -/
def part (name v : List UInt8) (n : Nat) : List UInt8 := name ++ [58] ++ (if n = 0 then [45, 44] else Lib.itoa v.length ++ [58] ++ v ++ [44])
theorem isB_below {B b : Nat} {bs : List Value} {w w' : World} (h : Lib.IsBuilder tB tU B b bs w) (hb : Below w.heap.size w w') : Lib.IsBuilder tB tU B b bs w' := by
  have k : ∀ p, Lib.BuilderAt tB tU B b p bs w → Lib.BuilderAt tB tU B b p bs w' := by
    intro p h
    have hlt := h.lt
    obtain ⟨hB, v, hbk, hown, hne⟩ := h
    exact ⟨hB, v, by rw [hb.block b hlt]; exact hbk, hown.kept (row := none) ⟨hb.os, hb.tape, hb.output, hb.size, fun k hk _ => hb.block k hk⟩ (by cases hv : v.ownBlock <;> simp), hne⟩
  exact h.imp (k _) (k _)
theorem cat (a b : List UInt8) : (⟨a.toArray⟩ : ByteArray) ++ ⟨b.toArray⟩ = ⟨(a ++ b).toArray⟩ := by
  apply ByteArray.ext
  simp [ByteArray.data_append]
theorem sc_arr (l : List UInt8) : Lib.strCells ⟨l.toArray⟩ = Lib.byteCells l := rfl
theorem isB_at {B b : Nat} {bs : List Value} {w : World} (h : Lib.BuilderAt tB tU B b (.pointer (some ⟨b, 0, none⟩)) bs w) : Lib.IsBuilder tB tU B b bs w := .inr h
theorem write_l (B b : Nat) (bs : List Value) (l : List UInt8) (w : World) (h : Lib.IsBuilder tB tU B b bs w) (hlen : bs.length + l.length ≤ 140737488355328) (hBw : B ≤ w.heap.size) :
    Calls Tryd.prog 18 #[.pointer (some ⟨b, 0, none⟩), .string ⟨l.toArray⟩] w fun e w' => e = .returned (.tuple #[.int .i64 l.length, .nilIface]) ∧ (Lib.BuilderAt tB tU B b (.pointer (some ⟨b, 0, none⟩)) (bs ++ Lib.byteCells l) w' ∧ Below B w w') :=
  write_str B b bs ⟨l.toArray⟩ w h (by show bs.length + l.toArray.size ≤ _; simpa using hlen) hBw
set_option maxHeartbeats 2000000 in
set_option maxRecDepth 100000 in
theorem key1_calls (b b0 : Nat) (hlt : b0 < b) (bs name v : List UInt8) (n : Nat) (vl : Value) (w : World) (h : Lib.IsBuilder tB tU b b (Lib.byteCells bs) w) (hl : w.cell? ⟨b0, 0, none⟩ = some vl)
    (hget : ∀ w', Below b w w' → Calls Tryd.prog 19 #[vl, .string ⟨name.toArray⟩] w' fun e w'' => e = .returned (.tuple #[.string ⟨v.toArray⟩, .int .i64 n]) ∧ Below w'.heap.size w' w'')
    (hitoa : ∀ w', Below b w w' → Calls Tryd.prog 20 #[.int .i64 v.length] w' fun e w'' => e = .returned (.string ⟨(Lib.itoa v.length).toArray⟩) ∧ Below w'.heap.size w' w'')
    (hlen : bs.length + name.length + v.length + 100 ≤ 140737488355328) (hit : (Lib.itoa v.length).length ≤ 21) (hbw : b ≤ w.heap.size) :
    Calls Tryd.prog 17 #[.string ⟨name.toArray⟩, .pointer (some ⟨b, 0, none⟩), .pointer (some ⟨b0, 0, none⟩)] w fun e w' => e = .returned (.tuple #[]) ∧ Lib.IsBuilder tB tU b b (Lib.byteCells (bs ++ part name v n)) w' ∧ Below b w w' := by
  go_enter Tryd.func17, Tryd.ntmps17
  have e1 : (⟨name.toArray⟩ : ByteArray) ++ ⟨#[58]⟩ = ⟨(name ++ [58]).toArray⟩ := cat name [58]
  have hW1 := Lib.hid (write_str b b _ ((⟨name.toArray⟩ : ByteArray) ++ ⟨#[58]⟩) w h (by rw [Lib.byteCells_length, e1]; show bs.length + (name ++ [58]).toArray.size ≤ _; simp; omega) hbw)
  go_wp2_with (go_at_call 18; refine hW1.out.mono ?_)
  rintro e w1 ⟨rfl, h1, hb1⟩
  rw [e1, sc_arr, ← Lib.byteCells_append] at h1
  have hl1 : w1.cell? ⟨b0, 0, none⟩ = some vl := (hb1.cell hlt).trans hl
  have hG := Lib.hid (hget w1 hb1)
  go_wp2_with (go_at_call 19; refine hG.out.mono ?_)
  rintro e w2 ⟨rfl, hb2⟩
  have h2 := isB_below (isB_at h1) hb2
  have hb12 : Below b w w2 := hb1.trans (hb2.mono (Nat.le_trans hbw hb1.size))
  have hb2w : b ≤ w2.heap.size := Nat.le_trans hbw hb12.size
  have hW2 := fun (l : List UInt8) (hs : l.length ≤ v.length + 50) => Lib.hid (write_str b b _ ⟨l.toArray⟩ w2 h2 (by rw [Lib.byteCells_length]; show (bs ++ (name ++ [58])).length + l.toArray.size ≤ 140737488355328; simp only [List.size_toArray, List.length_append, List.length_cons, List.length_nil]; omega) hb2w)
  have HB := Lib.hid hb12
  have HX := Lib.hid h2
  clear h h1 h2 hb1 hb2 hG hget
  by_cases hn : n = 0
  · subst hn
    have hW2 := hW2 [45, 44] (by simp)
    go_wp2_with (go_at_call 18; refine hW2.out.mono ?_)
    rintro e w3 ⟨rfl, h3, hb3⟩
    rw [sc_arr, ← Lib.byteCells_append] at h3
    go_wp2
    refine bodyPost_ret (results_none rfl _ _ _) rfl ?_
    exact ⟨rfl, .inr (by unfold part; rw [if_pos rfl, ← List.append_assoc]; exact h3), HB.out.trans hb3⟩
  · have hn' : ¬ (n : Int) = 0 := by omega
    have hI := Lib.hid (hitoa w2 HB.out)
    go_wp2_with (go_at_call 20; refine hI.out.mono ?_)
    rintro e w3 ⟨rfl, hb3⟩
    have e2 : (((⟨(Lib.itoa v.length).toArray⟩ : ByteArray) ++ ⟨#[58]⟩) ++ ⟨v.toArray⟩) ++ ⟨#[44]⟩ = ⟨(Lib.itoa v.length ++ [58] ++ v ++ [44]).toArray⟩ := by
      have a1 := cat (Lib.itoa v.length) [58]
      have a2 := cat (Lib.itoa v.length ++ [58]) v
      have a3 := cat (Lib.itoa v.length ++ [58] ++ v) [44]
      rw [← a3, ← a2, ← a1]
    have hRl : (Lib.itoa v.length ++ [58] ++ v ++ [44]).length ≤ v.length + 23 := by simp only [List.length_append, List.length_cons, List.length_nil]; omega
    have HP : part name v n = name ++ [58] ++ (Lib.itoa v.length ++ [58] ++ v ++ [44]) := by unfold part; rw [if_neg hn]
    generalize Lib.itoa v.length ++ [58] ++ v ++ [44] = R at *
    have h2 := HX.out
    have h3 := isB_below h2 hb3
    have hb23 : Below b w w3 := HB.out.trans (hb3.mono hb2w)
    have hW3 := Lib.hid (write_l b b _ R w3 h3 (by rw [Lib.byteCells_length]; simp only [List.length_append, List.length_cons, List.length_nil]; omega) (Nat.le_trans hb2w hb3.size))
    have HB3 := Lib.hid hb23
    clear h2 h3 hb23 hb3 HX
    go_wp2_with (go_at_call 18; refine hW3.out.mono ?_)
    rintro e w4 ⟨rfl, h4, hb4⟩
    rw [← Lib.byteCells_append] at h4
    go_wp2
    go_end0
    exact ⟨rfl, .inr (by rw [HP, ← List.append_assoc]; exact h4), HB3.out.trans hb4⟩
end Go.Proofs.YtfihnnebffkbfaaDoor.Kq
