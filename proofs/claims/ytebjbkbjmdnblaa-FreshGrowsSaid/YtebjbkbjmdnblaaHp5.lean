/- A text written by our program hprint.py (walks of the program, and the row of a law whose plain law is proved beside it). Lean checks it. -/
import Derived.Test.YtebjbkbjmdnblaaHp0
import Derived.Test.YtebjbkbjmdnblaaHMore
namespace Go.Proofs.Ytebjbkbjmdnblaa.Hp
open Go.RowKit Go.Proofs.YtebjbkbjmdnblaaW.PrintWords Go.Proofs.YtebjbkbjmdnblaaW.PrintLast Go.Proofs.YtebjbkbjmdnblaaW.PrintMore
attribute [local go_sem] max2_int min2_int max_two min_two max_three min_three max_four min_four   -- for this text's walks alone
set_option linter.unusedVariables false
set_option linter.unusedSimpArgs false

/-! ### fresh_late: function 22 -/
def fresh_late.j0 : Nat → Int → Bool → Bool → Bool → Bool → Bool → Bool → Bool → Bool → Int → Int → Int → Int → Int → Int → Bool → Bool → Bool → Bool → Bool → Bool → Bool → Int → Int → Int → Int → Int → Int → Option (Int)
  | 0, _, _, _, _, _, _, _, _, _, _, _, _, _, _, _, _, _, _, _, _, _, _, _, _, _, _, _, _ => none
  | k + 1, x2, x7, x135000, x135001, x135002, x135003, x135004, x135005, x135006, x135007, x135008, x135009, x135010, x135011, x135012, x136000, x136001, x136002, x136003, x136004, x136005, x136006, x136007, x136008, x136009, x136010, x136011, x136012 => if x7 = true then (some 2) else (if x136012 ≥ x2 then (some 0) else (if x135009 > x2 then (if x136011 ≤ 0 then (some 1) else (some 2)) else (some 2)))
def fresh_late.f (k : Nat) (a0_0 : Bool) (a0_1 : Bool) (a0_2 : Bool) (a0_3 : Bool) (a0_4 : Bool) (a0_5 : Bool) (a0_6 : Bool) (a0_7 : Int) (a0_8 : Int) (a0_9 : Int) (a0_10 : Int) (a0_11 : Int) (a0_12 : Int) (a1_0 : Bool) (a1_1 : Bool) (a1_2 : Bool) (a1_3 : Bool) (a1_4 : Bool) (a1_5 : Bool) (a1_6 : Bool) (a1_7 : Int) (a1_8 : Int) (a1_9 : Int) (a1_10 : Int) (a1_11 : Int) (a1_12 : Int) (a2 : Int) : Option (Int) := if a0_4 = true then (fresh_late.j0 k a2 true a0_0 a0_1 a0_2 a0_3 a0_4 a0_5 a0_6 a0_7 a0_8 a0_9 a0_10 a0_11 a0_12 a1_0 a1_1 a1_2 a1_3 a1_4 a1_5 a1_6 a1_7 a1_8 a1_9 a1_10 a1_11 a1_12) else (if a0_5 = true then (fresh_late.j0 k a2 true a0_0 a0_1 a0_2 a0_3 a0_4 a0_5 a0_6 a0_7 a0_8 a0_9 a0_10 a0_11 a0_12 a1_0 a1_1 a1_2 a1_3 a1_4 a1_5 a1_6 a1_7 a1_8 a1_9 a1_10 a1_11 a1_12) else (fresh_late.j0 k a2 (decide (a0_8 ≥ 0)) a0_0 a0_1 a0_2 a0_3 a0_4 a0_5 a0_6 a0_7 a0_8 a0_9 a0_10 a0_11 a0_12 a1_0 a1_1 a1_2 a1_3 a1_4 a1_5 a1_6 a1_7 a1_8 a1_9 a1_10 a1_11 a1_12))
theorem fresh_late.mono_l : ∀ k, (∀ y0 y1 y2 y3 y4 y5 y6 y7 y8 y9 y10 y11 y12 y13 y14 y15 y16 y17 y18 y19 y20 y21 y22 y23 y24 y25 y26 y27, LeO (fresh_late.j0 k y0 y1 y2 y3 y4 y5 y6 y7 y8 y9 y10 y11 y12 y13 y14 y15 y16 y17 y18 y19 y20 y21 y22 y23 y24 y25 y26 y27) (fresh_late.j0 (k + 1) y0 y1 y2 y3 y4 y5 y6 y7 y8 y9 y10 y11 y12 y13 y14 y15 y16 y17 y18 y19 y20 y21 y22 y23 y24 y25 y26 y27))
  | 0 => fun _ _ _ _ _ _ _ _ _ _ _ _ _ _ _ _ _ _ _ _ _ _ _ _ _ _ _ _ r h => by simp [fresh_late.j0] at h
  | k + 1 => by
    have ih0 := fresh_late.mono_l k
    · intro y0 y1 y2 y3 y4 y5 y6 y7 y8 y9 y10 y11 y12 y13 y14 y15 y16 y17 y18 y19 y20 y21 y22 y23 y24 y25 y26 y27
      unfold fresh_late.j0
      repeat' first
      | (with_reducible exact ih0 _ _ _ _ _ _ _ _ _ _ _ _ _ _ _ _ _ _ _ _ _ _ _ _ _ _ _ _)
      | (with_reducible exact LeO.refl _)
      | (with_reducible exact LeO.none _)
      | (with_reducible refine LeO.ite ?_ ?_)
      | (with_reducible refine LeO.bind ?_ (fun _ => ?_))
      | exact ih0 _ _ _ _ _ _ _ _ _ _ _ _ _ _ _ _ _ _ _ _ _ _ _ _ _ _ _ _
      | exact LeO.none _
      | refine LeO.ite ?_ ?_
      | refine LeO.bind ?_ (fun _ => ?_)
theorem fresh_late.mono : ∀ a0 a1 a2 a3 a4 a5 a6 a7 a8 a9 a10 a11 a12 a13 a14 a15 a16 a17 a18 a19 a20 a21 a22 a23 a24 a25 a26 k, LeO (fresh_late.f k a0 a1 a2 a3 a4 a5 a6 a7 a8 a9 a10 a11 a12 a13 a14 a15 a16 a17 a18 a19 a20 a21 a22 a23 a24 a25 a26) (fresh_late.f (k + 1) a0 a1 a2 a3 a4 a5 a6 a7 a8 a9 a10 a11 a12 a13 a14 a15 a16 a17 a18 a19 a20 a21 a22 a23 a24 a25 a26) := by
  intro a0 a1 a2 a3 a4 a5 a6 a7 a8 a9 a10 a11 a12 a13 a14 a15 a16 a17 a18 a19 a20 a21 a22 a23 a24 a25 a26 k
  have ih0 := fresh_late.mono_l k
  unfold fresh_late.f
  repeat' first
      | (with_reducible exact ih0 _ _ _ _ _ _ _ _ _ _ _ _ _ _ _ _ _ _ _ _ _ _ _ _ _ _ _ _)
      | (with_reducible exact LeO.refl _)
      | (with_reducible exact LeO.none _)
      | (with_reducible refine LeO.ite ?_ ?_)
      | (with_reducible refine LeO.bind ?_ (fun _ => ?_))
      | exact ih0 _ _ _ _ _ _ _ _ _ _ _ _ _ _ _ _ _ _ _ _ _ _ _ _ _ _ _ _
      | exact LeO.none _
      | refine LeO.ite ?_ ?_
      | refine LeO.bind ?_ (fun _ => ?_)
set_option maxHeartbeats 8000000 in
set_option maxRecDepth 100000 in
theorem fresh_late.calls (k : Nat) (a0_0 : Bool) (a0_1 : Bool) (a0_2 : Bool) (a0_3 : Bool) (a0_4 : Bool) (a0_5 : Bool) (a0_6 : Bool) (a0_7 : Int) (a0_8 : Int) (a0_9 : Int) (a0_10 : Int) (a0_11 : Int) (a0_12 : Int) (a1_0 : Bool) (a1_1 : Bool) (a1_2 : Bool) (a1_3 : Bool) (a1_4 : Bool) (a1_5 : Bool) (a1_6 : Bool) (a1_7 : Int) (a1_8 : Int) (a1_9 : Int) (a1_10 : Int) (a1_11 : Int) (a1_12 : Int) (a2 : Int) (r : Int) (w : World) (h : fresh_late.f k a0_0 a0_1 a0_2 a0_3 a0_4 a0_5 a0_6 a0_7 a0_8 a0_9 a0_10 a0_11 a0_12 a1_0 a1_1 a1_2 a1_3 a1_4 a1_5 a1_6 a1_7 a1_8 a1_9 a1_10 a1_11 a1_12 a2 = some r) :
    Calls Try.prog 22 #[.agg #[.bool a0_0, .bool a0_1, .bool a0_2, .bool a0_3, .bool a0_4, .bool a0_5, .bool a0_6, .int .i64 a0_7, .int .i64 a0_8, .int .i64 a0_9, .int .i64 a0_10, .int .i64 a0_11, .int .i64 a0_12], .agg #[.bool a1_0, .bool a1_1, .bool a1_2, .bool a1_3, .bool a1_4, .bool a1_5, .bool a1_6, .int .i64 a1_7, .int .i64 a1_8, .int .i64 a1_9, .int .i64 a1_10, .int .i64 a1_11, .int .i64 a1_12], .int .i64 a2] w fun e w' => e = .returned (.int .i64 r) ∧ Below w.heap.size w w' := by
  have hu23 := Try.underlying23
  have HB := Aside0.mk (Below.refl w.heap.size w)
  have H : (if a0_4 = true then (fresh_late.j0 k a2 true a0_0 a0_1 a0_2 a0_3 a0_4 a0_5 a0_6 a0_7 a0_8 a0_9 a0_10 a0_11 a0_12 a1_0 a1_1 a1_2 a1_3 a1_4 a1_5 a1_6 a1_7 a1_8 a1_9 a1_10 a1_11 a1_12) else (if a0_5 = true then (fresh_late.j0 k a2 true a0_0 a0_1 a0_2 a0_3 a0_4 a0_5 a0_6 a0_7 a0_8 a0_9 a0_10 a0_11 a0_12 a1_0 a1_1 a1_2 a1_3 a1_4 a1_5 a1_6 a1_7 a1_8 a1_9 a1_10 a1_11 a1_12) else (fresh_late.j0 k a2 (decide (a0_8 ≥ 0)) a0_0 a0_1 a0_2 a0_3 a0_4 a0_5 a0_6 a0_7 a0_8 a0_9 a0_10 a0_11 a0_12 a1_0 a1_1 a1_2 a1_3 a1_4 a1_5 a1_6 a1_7 a1_8 a1_9 a1_10 a1_11 a1_12))) = some r := h
  clear h
  have HC4 := Aside0.mk H
  clear H
  go_enter Try.func22, Try.ntmps22
  go_upto_region 1 with (first | ((with_reducible refine gate_dst (N := 3) rfl ?_); refine box_event ?hg (N := 3) ?hd (cs := #[.bool a0_0, .bool a0_1, .bool a0_2, .bool a0_3, .bool a0_4, .bool a0_5, .bool a0_6, .int .i64 a0_7, .int .i64 a0_8, .int .i64 a0_9, .int .i64 a0_10, .int .i64 a0_11, .int .i64 a0_12]) (t := 23) ?hr ?_; (case hd => rfl); (case hg => rfl); (case hr => first | (go_simp; done) | (go_simp; rfl)); intro gb134 hg w5 hbox hb; have n0_ := Aside0.mk (below_step (by repeat (first | (with_reducible first | exact HB.out | apply below_alloc | apply pw_below_drewN | apply below_drew1) | exact HB.out)) hb); have n1_ := Aside0.mk (hbox); have n2_ := Aside0.mk ((by rw [hg]; exact (below_size (by repeat (first | (with_reducible first | exact HB.out | apply below_alloc | apply pw_below_drewN | apply below_drew1) | exact HB.out))) : w.heap.size ≤ gb134)); have n3_ := Aside0.mk ((by rw [hg]; exact (below_size (by repeat (first | (with_reducible first | exact HB.out | apply below_alloc | apply pw_below_drewN | apply below_drew1) | exact HB.out))) : w.heap.size ≤ gb134)); clear HB; have HB := n0_; have BK134 := n1_; have GW134 := n2_; have GE134 := n3_; clear n0_ n1_ n2_ n3_; clear hb hbox hg) | ((with_reducible refine gate_dst (N := 4) rfl ?_); refine box_event ?hg (N := 4) ?hd (cs := #[.bool a1_0, .bool a1_1, .bool a1_2, .bool a1_3, .bool a1_4, .bool a1_5, .bool a1_6, .int .i64 a1_7, .int .i64 a1_8, .int .i64 a1_9, .int .i64 a1_10, .int .i64 a1_11, .int .i64 a1_12]) (t := 23) ?hr ?_; (case hd => rfl); (case hg => rfl); (case hr => first | (go_simp; done) | (go_simp; rfl)); intro gb135 hg w6 hbox hb; have n0_ := Aside0.mk (blk_below (g := gb134) (o := .cells #[.bool a0_0, .bool a0_1, .bool a0_2, .bool a0_3, .bool a0_4, .bool a0_5, .bool a0_6, .int .i64 a0_7, .int .i64 a0_8, .int .i64 a0_9, .int .i64 a0_10, .int .i64 a0_11, .int .i64 a0_12] 23 (0, 0)) (by (with_reducible repeat (first | refine blk_drewN ?_ _ | refine blk_drew ?_ | refine blk_alloc ?_ _)); exact BK134.out) hb); have n1_ := Aside0.mk (below_step (by repeat (first | (with_reducible first | exact HB.out | apply below_alloc | apply pw_below_drewN | apply below_drew1 | refine below_set ?_ GE134.out) | exact HB.out)) hb); have n2_ := Aside0.mk (hbox); have n3_ := Aside0.mk ((by rw [hg]; exact (below_size (by repeat (first | (with_reducible first | exact HB.out | apply below_alloc | apply pw_below_drewN | apply below_drew1 | refine below_set ?_ GE134.out) | exact HB.out))) : w.heap.size ≤ gb135)); have n4_ := Aside0.mk ((by rw [hg]; exact (below_size (by repeat (first | (with_reducible first | exact HB.out | apply below_alloc | apply pw_below_drewN | apply below_drew1 | refine below_set ?_ GE134.out) | exact HB.out))) : w.heap.size ≤ gb135)); have n5_ := Aside0.mk ((by rw [hg]; exact Nat.ne_of_lt (blk_lt (g := gb134) (o := .cells #[.bool a0_0, .bool a0_1, .bool a0_2, .bool a0_3, .bool a0_4, .bool a0_5, .bool a0_6, .int .i64 a0_7, .int .i64 a0_8, .int .i64 a0_9, .int .i64 a0_10, .int .i64 a0_11, .int .i64 a0_12] 23 (0, 0)) (by (with_reducible repeat (first | refine blk_drewN ?_ _ | refine blk_drew ?_ | refine blk_alloc ?_ _)); exact BK134.out)) : gb134 ≠ gb135)); have n6_ := Aside0.mk ((by rw [hg]; exact Nat.ne_of_gt (blk_lt (g := gb134) (o := .cells #[.bool a0_0, .bool a0_1, .bool a0_2, .bool a0_3, .bool a0_4, .bool a0_5, .bool a0_6, .int .i64 a0_7, .int .i64 a0_8, .int .i64 a0_9, .int .i64 a0_10, .int .i64 a0_11, .int .i64 a0_12] 23 (0, 0)) (by (with_reducible repeat (first | refine blk_drewN ?_ _ | refine blk_drew ?_ | refine blk_alloc ?_ _)); exact BK134.out)) : gb135 ≠ gb134)); clear BK134; clear HB; have BK134 := n0_; have HB := n1_; have BK135 := n2_; have GW135 := n3_; have GE135 := n4_; have NB134_135 := n5_; have NB135_134 := n6_; clear n0_ n1_ n2_ n3_ n4_ n5_ n6_; clear hb hbox hg))
  (try simp only [Act.put, List.setIfInBounds_toArray, List.set_cons_zero, List.set_cons_succ])
  go_cut [7] (fun v7 wc => ∃ (kq : Nat) (x7_3 : Bool), v7 = .bool x7_3 ∧ Aside0 (fresh_late.j0 kq a2 x7_3 a0_0 a0_1 a0_2 a0_3 a0_4 a0_5 a0_6 a0_7 a0_8 a0_9 a0_10 a0_11 a0_12 a1_0 a1_1 a1_2 a1_3 a1_4 a1_5 a1_6 a1_7 a1_8 a1_9 a1_10 a1_11 a1_12 = some r) ∧ Aside0 (kq ≤ k) ∧ Aside0 (wc.heap[gb134]? = some (.cells #[.bool a0_0, .bool a0_1, .bool a0_2, .bool a0_3, .bool a0_4, .bool a0_5, .bool a0_6, .int .i64 a0_7, .int .i64 a0_8, .int .i64 a0_9, .int .i64 a0_10, .int .i64 a0_11, .int .i64 a0_12] 23 (0, 0))) ∧ Aside0 (wc.heap[gb135]? = some (.cells #[.bool a1_0, .bool a1_1, .bool a1_2, .bool a1_3, .bool a1_4, .bool a1_5, .bool a1_6, .int .i64 a1_7, .int .i64 a1_8, .int .i64 a1_9, .int .i64 a1_10, .int .i64 a1_11, .int .i64 a1_12] 23 (0, 0))) ∧ Aside0 (Below w.heap.size w wc))
  case first =>
    have H := HC4.out
    clear HC4
    by_cases c7 : a0_4 = true
    · subst c7
      have H1 : (fresh_late.j0 k a2 true a0_0 a0_1 a0_2 a0_3 true a0_5 a0_6 a0_7 a0_8 a0_9 a0_10 a0_11 a0_12 a1_0 a1_1 a1_2 a1_3 a1_4 a1_5 a1_6 a1_7 a1_8 a1_9 a1_10 a1_11 a1_12) = some r := by rw [if_pos rfl] at H; exact H
      clear H
      have H := H1
      clear H1
      have H' := Aside0.mk H
      clear H
      have hnb8 := NB134_135.out
      have hnc8 := NB135_134.out
      have hcz9_0 : w6.cell? ⟨gb134, 0, none⟩ = some (.bool a0_0) := (blk_cell BK134.out 0).trans rfl
      have hcz9_1 : w6.cell? ⟨gb134, 1, none⟩ = some (.bool a0_1) := (blk_cell BK134.out 1).trans rfl
      have hcz9_2 : w6.cell? ⟨gb134, 2, none⟩ = some (.bool a0_2) := (blk_cell BK134.out 2).trans rfl
      have hcz9_3 : w6.cell? ⟨gb134, 3, none⟩ = some (.bool a0_3) := (blk_cell BK134.out 3).trans rfl
      have hcz9_4 : w6.cell? ⟨gb134, 4, none⟩ = some (.bool true) := (blk_cell BK134.out 4).trans rfl
      have hcz9_5 : w6.cell? ⟨gb134, 5, none⟩ = some (.bool a0_5) := (blk_cell BK134.out 5).trans rfl
      have hcz9_6 : w6.cell? ⟨gb134, 6, none⟩ = some (.bool a0_6) := (blk_cell BK134.out 6).trans rfl
      have hcz9_7 : w6.cell? ⟨gb134, 7, none⟩ = some (.int .i64 a0_7) := (blk_cell BK134.out 7).trans rfl
      have hcz9_8 : w6.cell? ⟨gb134, 8, none⟩ = some (.int .i64 a0_8) := (blk_cell BK134.out 8).trans rfl
      have hcz9_9 : w6.cell? ⟨gb134, 9, none⟩ = some (.int .i64 a0_9) := (blk_cell BK134.out 9).trans rfl
      have hcz9_10 : w6.cell? ⟨gb134, 10, none⟩ = some (.int .i64 a0_10) := (blk_cell BK134.out 10).trans rfl
      have hcz9_11 : w6.cell? ⟨gb134, 11, none⟩ = some (.int .i64 a0_11) := (blk_cell BK134.out 11).trans rfl
      have hcz9_12 : w6.cell? ⟨gb134, 12, none⟩ = some (.int .i64 a0_12) := (blk_cell BK134.out 12).trans rfl
      have hfz9_0 := blk_frozen BK134.out 0
      have hfz9_1 := blk_frozen BK134.out 1
      have hfz9_2 := blk_frozen BK134.out 2
      have hfz9_3 := blk_frozen BK134.out 3
      have hfz9_4 := blk_frozen BK134.out 4
      have hfz9_5 := blk_frozen BK134.out 5
      have hfz9_6 := blk_frozen BK134.out 6
      have hfz9_7 := blk_frozen BK134.out 7
      have hfz9_8 := blk_frozen BK134.out 8
      have hfz9_9 := blk_frozen BK134.out 9
      have hfz9_10 := blk_frozen BK134.out 10
      have hfz9_11 := blk_frozen BK134.out 11
      have hfz9_12 := blk_frozen BK134.out 12
      go_wp2
      go_meet
      case rel => exact ⟨_, (true), (by first | rfl | (simp; done) | exact ret_ne _ | (simp [*]; done)), H', ⟨by first | omega | exact Nat.le_refl _⟩, ⟨by (with_reducible repeat (first | refine blk_drewN ?_ _ | refine blk_drew ?_ | refine blk_alloc ?_ _)); exact BK134.out⟩, ⟨by (with_reducible repeat (first | refine blk_drewN ?_ _ | refine blk_drew ?_ | refine blk_alloc ?_ _)); exact BK135.out⟩, ⟨by repeat (first | (with_reducible first | exact HB.out | apply below_alloc | apply pw_below_drewN | apply below_drew1 | refine below_set ?_ GE134.out | refine below_set ?_ GE135.out) | exact HB.out)⟩⟩
    · replace c7 := Bool.eq_false_iff.mpr c7
      subst c7
      have H1 : (if a0_5 = true then (fresh_late.j0 k a2 true a0_0 a0_1 a0_2 a0_3 false a0_5 a0_6 a0_7 a0_8 a0_9 a0_10 a0_11 a0_12 a1_0 a1_1 a1_2 a1_3 a1_4 a1_5 a1_6 a1_7 a1_8 a1_9 a1_10 a1_11 a1_12) else (fresh_late.j0 k a2 (decide (a0_8 ≥ 0)) a0_0 a0_1 a0_2 a0_3 false a0_5 a0_6 a0_7 a0_8 a0_9 a0_10 a0_11 a0_12 a1_0 a1_1 a1_2 a1_3 a1_4 a1_5 a1_6 a1_7 a1_8 a1_9 a1_10 a1_11 a1_12)) = some r := by rw [if_neg (show ¬ (false = true) by decide)] at H; exact H
      clear H
      have H := H1
      clear H1
      by_cases c10 : a0_5 = true
      · subst c10
        have H1 : (fresh_late.j0 k a2 true a0_0 a0_1 a0_2 a0_3 false true a0_6 a0_7 a0_8 a0_9 a0_10 a0_11 a0_12 a1_0 a1_1 a1_2 a1_3 a1_4 a1_5 a1_6 a1_7 a1_8 a1_9 a1_10 a1_11 a1_12) = some r := by rw [if_pos rfl] at H; exact H
        clear H
        have H := H1
        clear H1
        have H' := Aside0.mk H
        clear H
        have hnb11 := NB134_135.out
        have hnc11 := NB135_134.out
        have hcz12_0 : w6.cell? ⟨gb134, 0, none⟩ = some (.bool a0_0) := (blk_cell BK134.out 0).trans rfl
        have hcz12_1 : w6.cell? ⟨gb134, 1, none⟩ = some (.bool a0_1) := (blk_cell BK134.out 1).trans rfl
        have hcz12_2 : w6.cell? ⟨gb134, 2, none⟩ = some (.bool a0_2) := (blk_cell BK134.out 2).trans rfl
        have hcz12_3 : w6.cell? ⟨gb134, 3, none⟩ = some (.bool a0_3) := (blk_cell BK134.out 3).trans rfl
        have hcz12_4 : w6.cell? ⟨gb134, 4, none⟩ = some (.bool false) := (blk_cell BK134.out 4).trans rfl
        have hcz12_5 : w6.cell? ⟨gb134, 5, none⟩ = some (.bool true) := (blk_cell BK134.out 5).trans rfl
        have hcz12_6 : w6.cell? ⟨gb134, 6, none⟩ = some (.bool a0_6) := (blk_cell BK134.out 6).trans rfl
        have hcz12_7 : w6.cell? ⟨gb134, 7, none⟩ = some (.int .i64 a0_7) := (blk_cell BK134.out 7).trans rfl
        have hcz12_8 : w6.cell? ⟨gb134, 8, none⟩ = some (.int .i64 a0_8) := (blk_cell BK134.out 8).trans rfl
        have hcz12_9 : w6.cell? ⟨gb134, 9, none⟩ = some (.int .i64 a0_9) := (blk_cell BK134.out 9).trans rfl
        have hcz12_10 : w6.cell? ⟨gb134, 10, none⟩ = some (.int .i64 a0_10) := (blk_cell BK134.out 10).trans rfl
        have hcz12_11 : w6.cell? ⟨gb134, 11, none⟩ = some (.int .i64 a0_11) := (blk_cell BK134.out 11).trans rfl
        have hcz12_12 : w6.cell? ⟨gb134, 12, none⟩ = some (.int .i64 a0_12) := (blk_cell BK134.out 12).trans rfl
        have hfz12_0 := blk_frozen BK134.out 0
        have hfz12_1 := blk_frozen BK134.out 1
        have hfz12_2 := blk_frozen BK134.out 2
        have hfz12_3 := blk_frozen BK134.out 3
        have hfz12_4 := blk_frozen BK134.out 4
        have hfz12_5 := blk_frozen BK134.out 5
        have hfz12_6 := blk_frozen BK134.out 6
        have hfz12_7 := blk_frozen BK134.out 7
        have hfz12_8 := blk_frozen BK134.out 8
        have hfz12_9 := blk_frozen BK134.out 9
        have hfz12_10 := blk_frozen BK134.out 10
        have hfz12_11 := blk_frozen BK134.out 11
        have hfz12_12 := blk_frozen BK134.out 12
        go_wp2
        go_meet
        case rel => exact ⟨_, (true), (by first | rfl | (simp; done) | exact ret_ne _ | (simp [*]; done)), H', ⟨by first | omega | exact Nat.le_refl _⟩, ⟨by (with_reducible repeat (first | refine blk_drewN ?_ _ | refine blk_drew ?_ | refine blk_alloc ?_ _)); exact BK134.out⟩, ⟨by (with_reducible repeat (first | refine blk_drewN ?_ _ | refine blk_drew ?_ | refine blk_alloc ?_ _)); exact BK135.out⟩, ⟨by repeat (first | (with_reducible first | exact HB.out | apply below_alloc | apply pw_below_drewN | apply below_drew1 | refine below_set ?_ GE134.out | refine below_set ?_ GE135.out) | exact HB.out)⟩⟩
      · replace c10 := Bool.eq_false_iff.mpr c10
        subst c10
        have H1 : (fresh_late.j0 k a2 (decide (a0_8 ≥ 0)) a0_0 a0_1 a0_2 a0_3 false false a0_6 a0_7 a0_8 a0_9 a0_10 a0_11 a0_12 a1_0 a1_1 a1_2 a1_3 a1_4 a1_5 a1_6 a1_7 a1_8 a1_9 a1_10 a1_11 a1_12) = some r := by rw [if_neg (show ¬ (false = true) by decide)] at H; exact H
        clear H
        have H := H1
        clear H1
        have H' := Aside0.mk H
        clear H
        have hnb13 := NB134_135.out
        have hnc13 := NB135_134.out
        have hcz14_0 : w6.cell? ⟨gb134, 0, none⟩ = some (.bool a0_0) := (blk_cell BK134.out 0).trans rfl
        have hcz14_1 : w6.cell? ⟨gb134, 1, none⟩ = some (.bool a0_1) := (blk_cell BK134.out 1).trans rfl
        have hcz14_2 : w6.cell? ⟨gb134, 2, none⟩ = some (.bool a0_2) := (blk_cell BK134.out 2).trans rfl
        have hcz14_3 : w6.cell? ⟨gb134, 3, none⟩ = some (.bool a0_3) := (blk_cell BK134.out 3).trans rfl
        have hcz14_4 : w6.cell? ⟨gb134, 4, none⟩ = some (.bool false) := (blk_cell BK134.out 4).trans rfl
        have hcz14_5 : w6.cell? ⟨gb134, 5, none⟩ = some (.bool false) := (blk_cell BK134.out 5).trans rfl
        have hcz14_6 : w6.cell? ⟨gb134, 6, none⟩ = some (.bool a0_6) := (blk_cell BK134.out 6).trans rfl
        have hcz14_7 : w6.cell? ⟨gb134, 7, none⟩ = some (.int .i64 a0_7) := (blk_cell BK134.out 7).trans rfl
        have hcz14_8 : w6.cell? ⟨gb134, 8, none⟩ = some (.int .i64 a0_8) := (blk_cell BK134.out 8).trans rfl
        have hcz14_9 : w6.cell? ⟨gb134, 9, none⟩ = some (.int .i64 a0_9) := (blk_cell BK134.out 9).trans rfl
        have hcz14_10 : w6.cell? ⟨gb134, 10, none⟩ = some (.int .i64 a0_10) := (blk_cell BK134.out 10).trans rfl
        have hcz14_11 : w6.cell? ⟨gb134, 11, none⟩ = some (.int .i64 a0_11) := (blk_cell BK134.out 11).trans rfl
        have hcz14_12 : w6.cell? ⟨gb134, 12, none⟩ = some (.int .i64 a0_12) := (blk_cell BK134.out 12).trans rfl
        have hfz14_0 := blk_frozen BK134.out 0
        have hfz14_1 := blk_frozen BK134.out 1
        have hfz14_2 := blk_frozen BK134.out 2
        have hfz14_3 := blk_frozen BK134.out 3
        have hfz14_4 := blk_frozen BK134.out 4
        have hfz14_5 := blk_frozen BK134.out 5
        have hfz14_6 := blk_frozen BK134.out 6
        have hfz14_7 := blk_frozen BK134.out 7
        have hfz14_8 := blk_frozen BK134.out 8
        have hfz14_9 := blk_frozen BK134.out 9
        have hfz14_10 := blk_frozen BK134.out 10
        have hfz14_11 := blk_frozen BK134.out 11
        have hfz14_12 := blk_frozen BK134.out 12
        go_wp2
        go_meet
        case rel => exact ⟨_, (decide (a0_8 ≥ 0)), (by first | rfl | (simp; done) | exact ret_ne _ | (simp [*]; done)), H', ⟨by first | omega | exact Nat.le_refl _⟩, ⟨by (with_reducible repeat (first | refine blk_drewN ?_ _ | refine blk_drew ?_ | refine blk_alloc ?_ _)); exact BK134.out⟩, ⟨by (with_reducible repeat (first | refine blk_drewN ?_ _ | refine blk_drew ?_ | refine blk_alloc ?_ _)); exact BK135.out⟩, ⟨by repeat (first | (with_reducible first | exact HB.out | apply below_alloc | apply pw_below_drewN | apply below_drew1 | refine below_set ?_ GE134.out | refine below_set ?_ GE135.out) | exact HB.out)⟩⟩
  case rest =>
    clear HC4
    try clear c1
    try clear c2
    try clear p2
    try clear c7
    try clear c8
    try clear c10
    try clear c11
    try clear c13
    try clear hcz12_0
    try clear hcz12_1
    try clear hcz12_10
    try clear hcz12_11
    try clear hcz12_12
    try clear hcz12_2
    try clear hcz12_3
    try clear hcz12_4
    try clear hcz12_5
    try clear hcz12_6
    try clear hcz12_7
    try clear hcz12_8
    try clear hcz12_9
    try clear hcz14_0
    try clear hcz14_1
    try clear hcz14_10
    try clear hcz14_11
    try clear hcz14_12
    try clear hcz14_2
    try clear hcz14_3
    try clear hcz14_4
    try clear hcz14_5
    try clear hcz14_6
    try clear hcz14_7
    try clear hcz14_8
    try clear hcz14_9
    try clear hcz9_0
    try clear hcz9_1
    try clear hcz9_10
    try clear hcz9_11
    try clear hcz9_12
    try clear hcz9_2
    try clear hcz9_3
    try clear hcz9_4
    try clear hcz9_5
    try clear hcz9_6
    try clear hcz9_7
    try clear hcz9_8
    try clear hcz9_9
    try clear hfz12_0
    try clear hfz12_1
    try clear hfz12_10
    try clear hfz12_11
    try clear hfz12_12
    try clear hfz12_2
    try clear hfz12_3
    try clear hfz12_4
    try clear hfz12_5
    try clear hfz12_6
    try clear hfz12_7
    try clear hfz12_8
    try clear hfz12_9
    try clear hfz14_0
    try clear hfz14_1
    try clear hfz14_10
    try clear hfz14_11
    try clear hfz14_12
    try clear hfz14_2
    try clear hfz14_3
    try clear hfz14_4
    try clear hfz14_5
    try clear hfz14_6
    try clear hfz14_7
    try clear hfz14_8
    try clear hfz14_9
    try clear hfz9_0
    try clear hfz9_1
    try clear hfz9_10
    try clear hfz9_11
    try clear hfz9_12
    try clear hfz9_2
    try clear hfz9_3
    try clear hfz9_4
    try clear hfz9_5
    try clear hfz9_6
    try clear hfz9_7
    try clear hfz9_8
    try clear hfz9_9
    obtain ⟨kq, x7_3, rfl, HA, HJ3, BK134, BK135, HB⟩ := hcut
    cases kq with
    | zero => exact absurd HA.out (by simp [fresh_late.j0])
    | succ kj3 =>
      have H := HA.out
      clear HA
      simp only [fresh_late.j0] at H
      by_cases c15 : x7_3 = true
      · subst c15
        have H1 : (some 2) = some r := by rw [if_pos rfl] at H; exact H
        clear H
        have H := H1
        clear H1
        obtain rfl := Option.some.inj H
        go_wp2
        go_ret
        exact ⟨by first | rfl | (simp [errW_none, errW_some] <;> rfl) | (simp [*, errW_none, errW_some] <;> rfl), by repeat (first | (with_reducible first | exact HB.out | apply below_alloc | apply pw_below_drewN | apply below_drew1 | refine below_set ?_ GE134.out | refine below_set ?_ GE135.out) | exact HB.out)⟩
      · replace c15 := Bool.eq_false_iff.mpr c15
        subst c15
        have H1 : (if a1_12 ≥ a2 then (some 0) else (if a0_9 > a2 then (if a1_11 ≤ 0 then (some 1) else (some 2)) else (some 2))) = some r := by rw [if_neg (show ¬ (false = true) by decide)] at H; exact H
        clear H
        have H := H1
        clear H1
        by_cases c16 : a1_12 ≥ a2
        · rw [if_pos c16] at H
          have c16b0 : decide (a2 ≤ a1_12) = true := decide_eq_true c16
          clear c16
          obtain rfl := Option.some.inj H
          have hnb17 := NB135_134.out
          have hnc17 := NB134_135.out
          have hcz18_0 : wc.cell? ⟨gb135, 0, none⟩ = some (.bool a1_0) := (blk_cell BK135.out 0).trans rfl
          have hcz18_1 : wc.cell? ⟨gb135, 1, none⟩ = some (.bool a1_1) := (blk_cell BK135.out 1).trans rfl
          have hcz18_2 : wc.cell? ⟨gb135, 2, none⟩ = some (.bool a1_2) := (blk_cell BK135.out 2).trans rfl
          have hcz18_3 : wc.cell? ⟨gb135, 3, none⟩ = some (.bool a1_3) := (blk_cell BK135.out 3).trans rfl
          have hcz18_4 : wc.cell? ⟨gb135, 4, none⟩ = some (.bool a1_4) := (blk_cell BK135.out 4).trans rfl
          have hcz18_5 : wc.cell? ⟨gb135, 5, none⟩ = some (.bool a1_5) := (blk_cell BK135.out 5).trans rfl
          have hcz18_6 : wc.cell? ⟨gb135, 6, none⟩ = some (.bool a1_6) := (blk_cell BK135.out 6).trans rfl
          have hcz18_7 : wc.cell? ⟨gb135, 7, none⟩ = some (.int .i64 a1_7) := (blk_cell BK135.out 7).trans rfl
          have hcz18_8 : wc.cell? ⟨gb135, 8, none⟩ = some (.int .i64 a1_8) := (blk_cell BK135.out 8).trans rfl
          have hcz18_9 : wc.cell? ⟨gb135, 9, none⟩ = some (.int .i64 a1_9) := (blk_cell BK135.out 9).trans rfl
          have hcz18_10 : wc.cell? ⟨gb135, 10, none⟩ = some (.int .i64 a1_10) := (blk_cell BK135.out 10).trans rfl
          have hcz18_11 : wc.cell? ⟨gb135, 11, none⟩ = some (.int .i64 a1_11) := (blk_cell BK135.out 11).trans rfl
          have hcz18_12 : wc.cell? ⟨gb135, 12, none⟩ = some (.int .i64 a1_12) := (blk_cell BK135.out 12).trans rfl
          have hfz18_0 := blk_frozen BK135.out 0
          have hfz18_1 := blk_frozen BK135.out 1
          have hfz18_2 := blk_frozen BK135.out 2
          have hfz18_3 := blk_frozen BK135.out 3
          have hfz18_4 := blk_frozen BK135.out 4
          have hfz18_5 := blk_frozen BK135.out 5
          have hfz18_6 := blk_frozen BK135.out 6
          have hfz18_7 := blk_frozen BK135.out 7
          have hfz18_8 := blk_frozen BK135.out 8
          have hfz18_9 := blk_frozen BK135.out 9
          have hfz18_10 := blk_frozen BK135.out 10
          have hfz18_11 := blk_frozen BK135.out 11
          have hfz18_12 := blk_frozen BK135.out 12
          go_wp2
          go_ret
          exact ⟨by first | rfl | (simp [errW_none, errW_some] <;> rfl) | (simp [*, errW_none, errW_some] <;> rfl), by repeat (first | (with_reducible first | exact HB.out | apply below_alloc | apply pw_below_drewN | apply below_drew1 | refine below_set ?_ GE134.out | refine below_set ?_ GE135.out) | exact HB.out)⟩
        · rw [if_neg c16] at H
          have c16b0 : decide (a2 ≤ a1_12) = false := decide_eq_false c16
          clear c16
          by_cases c19 : a0_9 > a2
          · rw [if_pos c19] at H
            have c19b0 : decide (a2 < a0_9) = true := decide_eq_true c19
            clear c19
            by_cases c20 : a1_11 ≤ 0
            · rw [if_pos c20] at H
              have c20b0 : decide (a1_11 ≤ 0) = true := decide_eq_true c20
              clear c20
              obtain rfl := Option.some.inj H
              have hnb21 := NB135_134.out
              have hnc21 := NB134_135.out
              have hcz22_0 : wc.cell? ⟨gb135, 0, none⟩ = some (.bool a1_0) := (blk_cell BK135.out 0).trans rfl
              have hcz22_1 : wc.cell? ⟨gb135, 1, none⟩ = some (.bool a1_1) := (blk_cell BK135.out 1).trans rfl
              have hcz22_2 : wc.cell? ⟨gb135, 2, none⟩ = some (.bool a1_2) := (blk_cell BK135.out 2).trans rfl
              have hcz22_3 : wc.cell? ⟨gb135, 3, none⟩ = some (.bool a1_3) := (blk_cell BK135.out 3).trans rfl
              have hcz22_4 : wc.cell? ⟨gb135, 4, none⟩ = some (.bool a1_4) := (blk_cell BK135.out 4).trans rfl
              have hcz22_5 : wc.cell? ⟨gb135, 5, none⟩ = some (.bool a1_5) := (blk_cell BK135.out 5).trans rfl
              have hcz22_6 : wc.cell? ⟨gb135, 6, none⟩ = some (.bool a1_6) := (blk_cell BK135.out 6).trans rfl
              have hcz22_7 : wc.cell? ⟨gb135, 7, none⟩ = some (.int .i64 a1_7) := (blk_cell BK135.out 7).trans rfl
              have hcz22_8 : wc.cell? ⟨gb135, 8, none⟩ = some (.int .i64 a1_8) := (blk_cell BK135.out 8).trans rfl
              have hcz22_9 : wc.cell? ⟨gb135, 9, none⟩ = some (.int .i64 a1_9) := (blk_cell BK135.out 9).trans rfl
              have hcz22_10 : wc.cell? ⟨gb135, 10, none⟩ = some (.int .i64 a1_10) := (blk_cell BK135.out 10).trans rfl
              have hcz22_11 : wc.cell? ⟨gb135, 11, none⟩ = some (.int .i64 a1_11) := (blk_cell BK135.out 11).trans rfl
              have hcz22_12 : wc.cell? ⟨gb135, 12, none⟩ = some (.int .i64 a1_12) := (blk_cell BK135.out 12).trans rfl
              have hfz22_0 := blk_frozen BK135.out 0
              have hfz22_1 := blk_frozen BK135.out 1
              have hfz22_2 := blk_frozen BK135.out 2
              have hfz22_3 := blk_frozen BK135.out 3
              have hfz22_4 := blk_frozen BK135.out 4
              have hfz22_5 := blk_frozen BK135.out 5
              have hfz22_6 := blk_frozen BK135.out 6
              have hfz22_7 := blk_frozen BK135.out 7
              have hfz22_8 := blk_frozen BK135.out 8
              have hfz22_9 := blk_frozen BK135.out 9
              have hfz22_10 := blk_frozen BK135.out 10
              have hfz22_11 := blk_frozen BK135.out 11
              have hfz22_12 := blk_frozen BK135.out 12
              have hcz23_0 : wc.cell? ⟨gb134, 0, none⟩ = some (.bool a0_0) := (blk_cell BK134.out 0).trans rfl
              have hcz23_1 : wc.cell? ⟨gb134, 1, none⟩ = some (.bool a0_1) := (blk_cell BK134.out 1).trans rfl
              have hcz23_2 : wc.cell? ⟨gb134, 2, none⟩ = some (.bool a0_2) := (blk_cell BK134.out 2).trans rfl
              have hcz23_3 : wc.cell? ⟨gb134, 3, none⟩ = some (.bool a0_3) := (blk_cell BK134.out 3).trans rfl
              have hcz23_4 : wc.cell? ⟨gb134, 4, none⟩ = some (.bool a0_4) := (blk_cell BK134.out 4).trans rfl
              have hcz23_5 : wc.cell? ⟨gb134, 5, none⟩ = some (.bool a0_5) := (blk_cell BK134.out 5).trans rfl
              have hcz23_6 : wc.cell? ⟨gb134, 6, none⟩ = some (.bool a0_6) := (blk_cell BK134.out 6).trans rfl
              have hcz23_7 : wc.cell? ⟨gb134, 7, none⟩ = some (.int .i64 a0_7) := (blk_cell BK134.out 7).trans rfl
              have hcz23_8 : wc.cell? ⟨gb134, 8, none⟩ = some (.int .i64 a0_8) := (blk_cell BK134.out 8).trans rfl
              have hcz23_9 : wc.cell? ⟨gb134, 9, none⟩ = some (.int .i64 a0_9) := (blk_cell BK134.out 9).trans rfl
              have hcz23_10 : wc.cell? ⟨gb134, 10, none⟩ = some (.int .i64 a0_10) := (blk_cell BK134.out 10).trans rfl
              have hcz23_11 : wc.cell? ⟨gb134, 11, none⟩ = some (.int .i64 a0_11) := (blk_cell BK134.out 11).trans rfl
              have hcz23_12 : wc.cell? ⟨gb134, 12, none⟩ = some (.int .i64 a0_12) := (blk_cell BK134.out 12).trans rfl
              have hfz23_0 := blk_frozen BK134.out 0
              have hfz23_1 := blk_frozen BK134.out 1
              have hfz23_2 := blk_frozen BK134.out 2
              have hfz23_3 := blk_frozen BK134.out 3
              have hfz23_4 := blk_frozen BK134.out 4
              have hfz23_5 := blk_frozen BK134.out 5
              have hfz23_6 := blk_frozen BK134.out 6
              have hfz23_7 := blk_frozen BK134.out 7
              have hfz23_8 := blk_frozen BK134.out 8
              have hfz23_9 := blk_frozen BK134.out 9
              have hfz23_10 := blk_frozen BK134.out 10
              have hfz23_11 := blk_frozen BK134.out 11
              have hfz23_12 := blk_frozen BK134.out 12
              go_wp2
              go_ret
              exact ⟨by first | rfl | (simp [errW_none, errW_some] <;> rfl) | (simp [*, errW_none, errW_some] <;> rfl), by repeat (first | (with_reducible first | exact HB.out | apply below_alloc | apply pw_below_drewN | apply below_drew1 | refine below_set ?_ GE134.out | refine below_set ?_ GE135.out) | exact HB.out)⟩
            · rw [if_neg c20] at H
              have c20b0 : decide (a1_11 ≤ 0) = false := decide_eq_false c20
              clear c20
              obtain rfl := Option.some.inj H
              have hnb24 := NB135_134.out
              have hnc24 := NB134_135.out
              have hcz25_0 : wc.cell? ⟨gb135, 0, none⟩ = some (.bool a1_0) := (blk_cell BK135.out 0).trans rfl
              have hcz25_1 : wc.cell? ⟨gb135, 1, none⟩ = some (.bool a1_1) := (blk_cell BK135.out 1).trans rfl
              have hcz25_2 : wc.cell? ⟨gb135, 2, none⟩ = some (.bool a1_2) := (blk_cell BK135.out 2).trans rfl
              have hcz25_3 : wc.cell? ⟨gb135, 3, none⟩ = some (.bool a1_3) := (blk_cell BK135.out 3).trans rfl
              have hcz25_4 : wc.cell? ⟨gb135, 4, none⟩ = some (.bool a1_4) := (blk_cell BK135.out 4).trans rfl
              have hcz25_5 : wc.cell? ⟨gb135, 5, none⟩ = some (.bool a1_5) := (blk_cell BK135.out 5).trans rfl
              have hcz25_6 : wc.cell? ⟨gb135, 6, none⟩ = some (.bool a1_6) := (blk_cell BK135.out 6).trans rfl
              have hcz25_7 : wc.cell? ⟨gb135, 7, none⟩ = some (.int .i64 a1_7) := (blk_cell BK135.out 7).trans rfl
              have hcz25_8 : wc.cell? ⟨gb135, 8, none⟩ = some (.int .i64 a1_8) := (blk_cell BK135.out 8).trans rfl
              have hcz25_9 : wc.cell? ⟨gb135, 9, none⟩ = some (.int .i64 a1_9) := (blk_cell BK135.out 9).trans rfl
              have hcz25_10 : wc.cell? ⟨gb135, 10, none⟩ = some (.int .i64 a1_10) := (blk_cell BK135.out 10).trans rfl
              have hcz25_11 : wc.cell? ⟨gb135, 11, none⟩ = some (.int .i64 a1_11) := (blk_cell BK135.out 11).trans rfl
              have hcz25_12 : wc.cell? ⟨gb135, 12, none⟩ = some (.int .i64 a1_12) := (blk_cell BK135.out 12).trans rfl
              have hfz25_0 := blk_frozen BK135.out 0
              have hfz25_1 := blk_frozen BK135.out 1
              have hfz25_2 := blk_frozen BK135.out 2
              have hfz25_3 := blk_frozen BK135.out 3
              have hfz25_4 := blk_frozen BK135.out 4
              have hfz25_5 := blk_frozen BK135.out 5
              have hfz25_6 := blk_frozen BK135.out 6
              have hfz25_7 := blk_frozen BK135.out 7
              have hfz25_8 := blk_frozen BK135.out 8
              have hfz25_9 := blk_frozen BK135.out 9
              have hfz25_10 := blk_frozen BK135.out 10
              have hfz25_11 := blk_frozen BK135.out 11
              have hfz25_12 := blk_frozen BK135.out 12
              have hcz26_0 : wc.cell? ⟨gb134, 0, none⟩ = some (.bool a0_0) := (blk_cell BK134.out 0).trans rfl
              have hcz26_1 : wc.cell? ⟨gb134, 1, none⟩ = some (.bool a0_1) := (blk_cell BK134.out 1).trans rfl
              have hcz26_2 : wc.cell? ⟨gb134, 2, none⟩ = some (.bool a0_2) := (blk_cell BK134.out 2).trans rfl
              have hcz26_3 : wc.cell? ⟨gb134, 3, none⟩ = some (.bool a0_3) := (blk_cell BK134.out 3).trans rfl
              have hcz26_4 : wc.cell? ⟨gb134, 4, none⟩ = some (.bool a0_4) := (blk_cell BK134.out 4).trans rfl
              have hcz26_5 : wc.cell? ⟨gb134, 5, none⟩ = some (.bool a0_5) := (blk_cell BK134.out 5).trans rfl
              have hcz26_6 : wc.cell? ⟨gb134, 6, none⟩ = some (.bool a0_6) := (blk_cell BK134.out 6).trans rfl
              have hcz26_7 : wc.cell? ⟨gb134, 7, none⟩ = some (.int .i64 a0_7) := (blk_cell BK134.out 7).trans rfl
              have hcz26_8 : wc.cell? ⟨gb134, 8, none⟩ = some (.int .i64 a0_8) := (blk_cell BK134.out 8).trans rfl
              have hcz26_9 : wc.cell? ⟨gb134, 9, none⟩ = some (.int .i64 a0_9) := (blk_cell BK134.out 9).trans rfl
              have hcz26_10 : wc.cell? ⟨gb134, 10, none⟩ = some (.int .i64 a0_10) := (blk_cell BK134.out 10).trans rfl
              have hcz26_11 : wc.cell? ⟨gb134, 11, none⟩ = some (.int .i64 a0_11) := (blk_cell BK134.out 11).trans rfl
              have hcz26_12 : wc.cell? ⟨gb134, 12, none⟩ = some (.int .i64 a0_12) := (blk_cell BK134.out 12).trans rfl
              have hfz26_0 := blk_frozen BK134.out 0
              have hfz26_1 := blk_frozen BK134.out 1
              have hfz26_2 := blk_frozen BK134.out 2
              have hfz26_3 := blk_frozen BK134.out 3
              have hfz26_4 := blk_frozen BK134.out 4
              have hfz26_5 := blk_frozen BK134.out 5
              have hfz26_6 := blk_frozen BK134.out 6
              have hfz26_7 := blk_frozen BK134.out 7
              have hfz26_8 := blk_frozen BK134.out 8
              have hfz26_9 := blk_frozen BK134.out 9
              have hfz26_10 := blk_frozen BK134.out 10
              have hfz26_11 := blk_frozen BK134.out 11
              have hfz26_12 := blk_frozen BK134.out 12
              go_wp2
              go_ret
              exact ⟨by first | rfl | (simp [errW_none, errW_some] <;> rfl) | (simp [*, errW_none, errW_some] <;> rfl), by repeat (first | (with_reducible first | exact HB.out | apply below_alloc | apply pw_below_drewN | apply below_drew1 | refine below_set ?_ GE134.out | refine below_set ?_ GE135.out) | exact HB.out)⟩
          · rw [if_neg c19] at H
            have c19b0 : decide (a2 < a0_9) = false := decide_eq_false c19
            clear c19
            obtain rfl := Option.some.inj H
            have hnb27 := NB135_134.out
            have hnc27 := NB134_135.out
            have hcz28_0 : wc.cell? ⟨gb135, 0, none⟩ = some (.bool a1_0) := (blk_cell BK135.out 0).trans rfl
            have hcz28_1 : wc.cell? ⟨gb135, 1, none⟩ = some (.bool a1_1) := (blk_cell BK135.out 1).trans rfl
            have hcz28_2 : wc.cell? ⟨gb135, 2, none⟩ = some (.bool a1_2) := (blk_cell BK135.out 2).trans rfl
            have hcz28_3 : wc.cell? ⟨gb135, 3, none⟩ = some (.bool a1_3) := (blk_cell BK135.out 3).trans rfl
            have hcz28_4 : wc.cell? ⟨gb135, 4, none⟩ = some (.bool a1_4) := (blk_cell BK135.out 4).trans rfl
            have hcz28_5 : wc.cell? ⟨gb135, 5, none⟩ = some (.bool a1_5) := (blk_cell BK135.out 5).trans rfl
            have hcz28_6 : wc.cell? ⟨gb135, 6, none⟩ = some (.bool a1_6) := (blk_cell BK135.out 6).trans rfl
            have hcz28_7 : wc.cell? ⟨gb135, 7, none⟩ = some (.int .i64 a1_7) := (blk_cell BK135.out 7).trans rfl
            have hcz28_8 : wc.cell? ⟨gb135, 8, none⟩ = some (.int .i64 a1_8) := (blk_cell BK135.out 8).trans rfl
            have hcz28_9 : wc.cell? ⟨gb135, 9, none⟩ = some (.int .i64 a1_9) := (blk_cell BK135.out 9).trans rfl
            have hcz28_10 : wc.cell? ⟨gb135, 10, none⟩ = some (.int .i64 a1_10) := (blk_cell BK135.out 10).trans rfl
            have hcz28_11 : wc.cell? ⟨gb135, 11, none⟩ = some (.int .i64 a1_11) := (blk_cell BK135.out 11).trans rfl
            have hcz28_12 : wc.cell? ⟨gb135, 12, none⟩ = some (.int .i64 a1_12) := (blk_cell BK135.out 12).trans rfl
            have hfz28_0 := blk_frozen BK135.out 0
            have hfz28_1 := blk_frozen BK135.out 1
            have hfz28_2 := blk_frozen BK135.out 2
            have hfz28_3 := blk_frozen BK135.out 3
            have hfz28_4 := blk_frozen BK135.out 4
            have hfz28_5 := blk_frozen BK135.out 5
            have hfz28_6 := blk_frozen BK135.out 6
            have hfz28_7 := blk_frozen BK135.out 7
            have hfz28_8 := blk_frozen BK135.out 8
            have hfz28_9 := blk_frozen BK135.out 9
            have hfz28_10 := blk_frozen BK135.out 10
            have hfz28_11 := blk_frozen BK135.out 11
            have hfz28_12 := blk_frozen BK135.out 12
            have hcz29_0 : wc.cell? ⟨gb134, 0, none⟩ = some (.bool a0_0) := (blk_cell BK134.out 0).trans rfl
            have hcz29_1 : wc.cell? ⟨gb134, 1, none⟩ = some (.bool a0_1) := (blk_cell BK134.out 1).trans rfl
            have hcz29_2 : wc.cell? ⟨gb134, 2, none⟩ = some (.bool a0_2) := (blk_cell BK134.out 2).trans rfl
            have hcz29_3 : wc.cell? ⟨gb134, 3, none⟩ = some (.bool a0_3) := (blk_cell BK134.out 3).trans rfl
            have hcz29_4 : wc.cell? ⟨gb134, 4, none⟩ = some (.bool a0_4) := (blk_cell BK134.out 4).trans rfl
            have hcz29_5 : wc.cell? ⟨gb134, 5, none⟩ = some (.bool a0_5) := (blk_cell BK134.out 5).trans rfl
            have hcz29_6 : wc.cell? ⟨gb134, 6, none⟩ = some (.bool a0_6) := (blk_cell BK134.out 6).trans rfl
            have hcz29_7 : wc.cell? ⟨gb134, 7, none⟩ = some (.int .i64 a0_7) := (blk_cell BK134.out 7).trans rfl
            have hcz29_8 : wc.cell? ⟨gb134, 8, none⟩ = some (.int .i64 a0_8) := (blk_cell BK134.out 8).trans rfl
            have hcz29_9 : wc.cell? ⟨gb134, 9, none⟩ = some (.int .i64 a0_9) := (blk_cell BK134.out 9).trans rfl
            have hcz29_10 : wc.cell? ⟨gb134, 10, none⟩ = some (.int .i64 a0_10) := (blk_cell BK134.out 10).trans rfl
            have hcz29_11 : wc.cell? ⟨gb134, 11, none⟩ = some (.int .i64 a0_11) := (blk_cell BK134.out 11).trans rfl
            have hcz29_12 : wc.cell? ⟨gb134, 12, none⟩ = some (.int .i64 a0_12) := (blk_cell BK134.out 12).trans rfl
            have hfz29_0 := blk_frozen BK134.out 0
            have hfz29_1 := blk_frozen BK134.out 1
            have hfz29_2 := blk_frozen BK134.out 2
            have hfz29_3 := blk_frozen BK134.out 3
            have hfz29_4 := blk_frozen BK134.out 4
            have hfz29_5 := blk_frozen BK134.out 5
            have hfz29_6 := blk_frozen BK134.out 6
            have hfz29_7 := blk_frozen BK134.out 7
            have hfz29_8 := blk_frozen BK134.out 8
            have hfz29_9 := blk_frozen BK134.out 9
            have hfz29_10 := blk_frozen BK134.out 10
            have hfz29_11 := blk_frozen BK134.out 11
            have hfz29_12 := blk_frozen BK134.out 12
            go_wp2
            go_ret
            exact ⟨by first | rfl | (simp [errW_none, errW_some] <;> rfl) | (simp [*, errW_none, errW_some] <;> rfl), by repeat (first | (with_reducible first | exact HB.out | apply below_alloc | apply pw_below_drewN | apply below_drew1 | refine below_set ?_ GE134.out | refine below_set ?_ GE135.out) | exact HB.out)⟩

end Go.Proofs.Ytebjbkbjmdnblaa.Hp
