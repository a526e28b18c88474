/- package fresh's Heuristic: true just at the codes that are kept without being told; in the print's form. -/
import Derived.Test.YtebjbkbjmdnblaaProg
import Derived.WalkKit
import Derived.LoopTactic
import Derived.KernelRfl
import Derived.Lib.Hide
import Derived.Test.YtebjbkbjmdnblaaWWords
set_option linter.unusedVariables false
set_option linter.unusedSimpArgs false
namespace Go.Proofs.Ytebjbkbjmdnblaa.Hp
open Go.RowKit Go.Proofs.YtebjbkbjmdnblaaW.PrintWords

def keepsL : List Int := [200, 203, 204, 206, 300, 301, 308, 404, 405, 410, 414, 501]
def keepsV : Value := .agg #[.int .i64 200, .int .i64 203, .int .i64 204, .int .i64 206, .int .i64 300, .int .i64 301, .int .i64 308, .int .i64 404, .int .i64 405, .int .i64 410, .int .i64 414, .int .i64 501]
set_option maxHeartbeats 400000 in
theorem keeps_any (w : World) : Calls Try.prog 18 #[] w fun e w' => e = .returned keepsV ∧ Below w.heap.size w w' := by
  go_enter Try.func18, Try.ntmps18
  go_wp2
  refine bodyPost_ret (v := keepsV) (by simp [results, Try.results18, go_sem, keepsV]) rfl ⟨rfl, ?_⟩
  exact (Below.refl _ _).alloc (Nat.le_refl _) _
theorem keeps_ix (k : Nat) (hk : k < 12) (w : World) : (Instr.index 37 keepsV (.int .i64 (k : Int))).run Try.prog w = .ok (.int .i64 (keepsL.getD k 0)) w := by
  have h : k = 0 ∨ k = 1 ∨ k = 2 ∨ k = 3 ∨ k = 4 ∨ k = 5 ∨ k = 6 ∨ k = 7 ∨ k = 8 ∨ k = 9 ∨ k = 10 ∨ k = 11 := by omega
  rcases h with rfl | rfl | rfl | rfl | rfl | rfl | rfl | rfl | rfl | rfl | rfl | rfl <;> rfl
def isKept (c : Int) : Bool := keepsL.contains c
theorem keeps_take (c : Int) (k : Nat) (hk : k < 12) (h : (keepsL.take k).contains c = false) (hn : ¬ keepsL.getD k 0 = c) : (keepsL.take (k + 1)).contains c = false := by
  rw [List.take_add_one, List.contains_eq_mem] at *
  simp only [List.mem_append, decide_eq_false_iff_not] at *
  rw [List.getD_eq_getElem?_getD] at hn
  rintro (h1 | h1)
  · exact h h1
  · rw [List.getElem?_eq_getElem (show k < keepsL.length from hk)] at h1 hn
    simp at h1 hn
    exact hn h1.symm
theorem keeps_at (c : Int) (k : Nat) (hk : k < 12) (hn : keepsL.getD k 0 = c) : isKept c = true := by
  unfold isKept
  rw [List.contains_eq_mem]
  rw [List.getD_eq_getElem?_getD, List.getElem?_eq_getElem (show k < keepsL.length from hk)] at hn
  simp at hn
  simp only [decide_eq_true_eq]
  rw [← hn]
  exact List.getElem_mem _

set_option maxHeartbeats 1000000 in
theorem heur_any (c : Int) (w : World) : Calls Try.prog 9 #[.int .i64 c] w fun e w' => e = .returned (.bool (isKept c)) ∧ Below w.heap.size w w' := by
  have hkp := Lib.hid (keeps_any w)
  go_enter Try.func9, Try.ntmps9
  go_wp2_with (go_at_call 18; refine hkp.out.mono ?_; rintro e w1 ⟨rfl, hb⟩)
  generalize hV : keepsV = V at *
  go_loop [4, 6] (fun _ i => ∃ k : Nat, k ≤ 12 ∧ i = .int .i64 k ∧ (keepsL.take k).contains c = false) (fun _ i => 12 - (intOf i).toNat)
  case atStart => exact ⟨0, Nat.zero_le _, rfl, rfl⟩
  case round =>
    obtain ⟨k, hk, rfl, hn⟩ := hrel
    have HN := Lib.hid hn
    clear hn
    by_cases hlt : k < 12
    · have hix := keeps_ix k hlt w1
      rw [hV] at hix
      have HV := Lib.hid hV
      clear hV
      obtain ⟨x, hx⟩ : ∃ x, keepsL.getD k 0 = x := ⟨_, rfl⟩
      rw [hx] at hix
      have HX := Lib.hid hx
      clear hx
      by_cases he : x = c
      · subst he
        go_wp2
        go_ret
        exact ⟨congrArg (fun b => Ending.returned (.bool b)) (keeps_at _ k hlt HX.out).symm, hb⟩
      · have hq : (x == c) = false := by simpa using he
        have HE := Lib.hid he
        clear he
        go_wp2
        go_round
        case rel => exact ⟨k + 1, by omega, by go_num, keeps_take c k hlt HN.out (by rw [HX.out]; exact HE.out)⟩
        case measure => simp [intOf]; omega
    · obtain rfl : k = 12 := by omega
      go_wp2
      go_ret
      exact ⟨congrArg (fun b => Ending.returned (.bool b)) (show isKept c = false from HN.out).symm, hb⟩

def fresh_Heuristic.f (a0 : Int) : Option Bool := some (isKept a0)
theorem fresh_Heuristic.calls (a0 : Int) (r : Bool) (w : World) (h : fresh_Heuristic.f a0 = some r) :
    Calls Try.prog 9 #[.int .i64 a0] w fun e w' => e = .returned (.bool r) ∧ Below w.heap.size w w' := by
  injection h with h
  subst h
  exact heur_any a0 w
end Go.Proofs.Ytebjbkbjmdnblaa.Hp
