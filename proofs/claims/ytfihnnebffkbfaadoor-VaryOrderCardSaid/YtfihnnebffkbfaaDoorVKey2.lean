/- vary.Key, walked by hand: the loop. -/
import Derived.Test.YtfihnnebffkbfaaDoorVKey
set_option linter.unusedVariables false
set_option linter.unusedSimpArgs false
namespace Go.Proofs.YtfihnnebffkbfaaDoor.Kq
open Go.RowKit
def keyG (g : List UInt8 → List UInt8 × Nat) : List (List UInt8) → List UInt8
  | [] => []
  | x :: r => part x (g x).1 (g x).2 ++ keyG g r
theorem keyG_app (g : List UInt8 → List UInt8 × Nat) : ∀ a b, keyG g (a ++ b) = keyG g a ++ keyG g b
  | [], b => rfl
  | x :: r, b => by simp [keyG, keyG_app g r b]
def KeyI (g : List UInt8 → List UInt8 × Nat) (names : List (List UInt8)) (b : Nat) (w : World) (v12 : Value) (w' : World) : Prop :=
  ∃ k : Nat, k ≤ names.length ∧ v12 = .int .i64 k ∧ Lib.IsBuilder tB tU b b (Lib.byteCells (keyG g (names.take k))) w' ∧ Below b w w'
set_option maxHeartbeats 2000000 in
set_option maxRecDepth 100000 in
theorem key_calls (names : List (List UInt8)) (g : List UInt8 → List UInt8 × Nat) (blk off cap : Nat) (p lp : Option Addr) (ln lc : Nat) (w : World) (hp : 0 < names.length → p = some ⟨blk, off, none⟩ ∧ blk < w.heap.size)
    (hc : ∀ i (hi : i < names.length), w.cell? ⟨blk, off + i, none⟩ = some (.string ⟨names[i].toArray⟩))
    (hget : ∀ i (hi : i < names.length) w', Below w.heap.size w w' → Calls Tryd.prog 19 #[.slice lp ln lc, .string ⟨names[i].toArray⟩] w' fun e w'' => e = .returned (.tuple #[.string ⟨(g names[i]).1.toArray⟩, .int .i64 (g names[i]).2]) ∧ Below w'.heap.size w' w'')
    (hitoa : ∀ (n : Nat), n ≤ 140737488355328 → ∀ w', Below w.heap.size w w' → Calls Tryd.prog 20 #[.int .i64 n] w' fun e w'' => e = .returned (.string ⟨(Lib.itoa n).toArray⟩) ∧ Below w'.heap.size w' w'')
    (hit : ∀ n : Nat, n ≤ 140737488355328 → (Lib.itoa n).length ≤ 21)
    (hlen : ∀ i (hi : i < names.length), (keyG g (names.take i)).length + names[i].length + (g names[i]).1.length + 100 ≤ 140737488355328) (hnl : names.length ≤ 140737488355328) :
    Calls Tryd.prog 11 #[.slice p names.length cap, .slice lp ln lc] w fun e w' => e = .returned (.string ⟨(keyG g names).toArray⟩) ∧ Below w.heap.size w w' := by
  have HC := Lib.hid hc
  have HG := Lib.hid hget
  have HI := Lib.hid hitoa
  have HT := Lib.hid hit
  have HL := Lib.hid hlen
  have HP := Lib.hid hp
  clear hc hget hitoa hit hlen hp
  go_enter Tryd.func11, Tryd.ntmps11
  have hs1 : (w.alloc (.cells #[.slice lp ln lc] 23)).heap.size = w.heap.size + 1 := Array.size_push ..
  have hB := Lib.hid (Lib.fresh_isBuilder tB tU (w.alloc (.cells #[.slice lp ln lc] 23)))
  have hc0 := Lib.hid (show (w.alloc (.cells #[.slice lp ln lc] 23)).cell? ⟨w.heap.size, 0, none⟩ = some (.slice lp ln lc) from by rw [Lib.cell_of_heap (heap_alloc_new w _)]; rfl)
  have hb1 := Lib.hid ((Below.refl w.heap.size w).alloc (Nat.le_refl _) (.cells #[.slice lp ln lc] 23))
  have hb2 := Lib.hid ((Below.refl (w.heap.size + 1) (w.alloc (.cells #[.slice lp ln lc] 23))).alloc (Nat.le_of_eq hs1.symm) (.cells #[.pointer none, .slice none 0 0] tB))
  go_wp2
  rw [hs1] at hB
  generalize hw1 : w.alloc (.cells #[.slice lp ln lc] 23) = w1 at *
  generalize hw2 : w1.alloc (.cells #[.pointer none, .slice none 0 0] tB) = w2 at *
  clear hw1 hw2
  generalize hb : w.heap.size + 1 = b at *
  have hnl' := Lib.hid hnl
  go_loopw [8, 12] (fun _ v12 w' => KeyI g names b w1 v12 w') (fun _ i _ => names.length - (intOf i).toNat)
  case atStart => exact ⟨0, Nat.zero_le _, rfl, hB.out, hb2.out⟩
  case round =>
    obtain ⟨k, hk, rfl, hI, hbl⟩ := hrel
    have HI2 := Lib.hid hI; have HBL := Lib.hid hbl
    clear hI hbl hB hb2
    have hbw : b ≤ wr.heap.size := Nat.le_trans (by have := hb1.out.size; omega) HBL.out.size
    by_cases hlt : k < names.length
    case neg =>
      have hke : k = names.length := by omega
      rw [hke, List.take_length] at HI2
      have hS := Lib.hid (Tryd.Builder_String_any b b (keyG g names) _ HI2.out hbw)
      have hki : ¬ (k : Int) < (names.length : Int) := by omega
      go_wp2_with (go_at_call 21; refine hS.out.mono ?_)
      intro e w' he hb3
      subst he
      go_wp2
      go_ret
      exact ⟨rfl, hb1.out.trans ((HBL.out.trans hb3).mono (by omega))⟩
    obtain ⟨rfl, hblk⟩ := HP.out (by omega)
    have hW : ∀ w', Below b wr w' → Below w.heap.size w w' := fun w' h => hb1.out.trans ((HBL.out.trans h).mono (by omega))
    have hck : wr.cell? ⟨blk, off + k, none⟩ = some (.string ⟨names[k].toArray⟩) := ((hW wr (Below.refl b wr)).cell (p := ⟨blk, off + k, none⟩) hblk).trans (HC.out k hlt)
    have hl0 : wr.cell? ⟨w.heap.size, 0, none⟩ = some (.slice lp ln lc) := (HBL.out.cell (p := ⟨w.heap.size, 0, none⟩) (by show w.heap.size < b; omega)).trans hc0.out
    have hvl : (g names[k]).1.length ≤ 140737488355328 := by have := HL.out k hlt; omega
    have hK := Lib.hid (key1_calls b w.heap.size (by omega) (keyG g (names.take k)) names[k] (g names[k]).1 (g names[k]).2 (.slice lp ln lc) wr HI2.out hl0 (fun w' h => HG.out k hlt w' (hW w' h)) (fun w' h => HI.out _ hvl w' (hW w' h)) (HL.out k hlt) (HT.out _ hvl) hbw)
    have hki : (k : Int) < (names.length : Int) := by omega
    have hnx : keyG g (names.take k) ++ part names[k] (g names[k]).1 (g names[k]).2 = keyG g (names.take (k + 1)) := by
      rw [List.take_succ_eq_append_getElem hlt, keyG_app]; simp [keyG]
    rw [hnx] at hK
    have HW := Lib.hid hW
    clear hW hl0 hvl hnx HI2 HC HG HI HT HL
    go_wp2_with (go_at_call 17; refine hK.out.mono ?_)
    intro e w' he h3 hb3
    subst he
    go_wp2
    go_roundw
    case rel => exact ⟨k + 1, hlt, rfl, h3, HBL.out.trans hb3⟩
    case measure => simp [intOf]; omega
end Go.Proofs.YtfihnnebffkbfaaDoor.Kq
