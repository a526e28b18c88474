/- A text written by our program hprint.py (walks of the program, and the row of a law whose plain law is proved beside it). Lean checks it. -/
import Derived.Test.YtebjbkbjmdnblaaHp0
import Derived.Test.YtebjbkbjmdnblaaHp1
import Derived.Test.YtebjbkbjmdnblaaHp3
import Derived.Test.YtebjbkbjmdnblaaHMore
namespace Go.Proofs.Ytebjbkbjmdnblaa.Hp
open Go.RowKit Go.Proofs.YtebjbkbjmdnblaaW.PrintWords Go.Proofs.YtebjbkbjmdnblaaW.PrintLast Go.Proofs.YtebjbkbjmdnblaaW.PrintMore
attribute [local go_sem] max2_int min2_int max_two min_two max_three min_three max_four min_four   -- for this text's walks alone
set_option linter.unusedVariables false
set_option linter.unusedSimpArgs false

/-! ### gatepostref09_Lifetime: function 12 -/
mutual
def gatepostref09_Lifetime.j0 : Nat → Int → Int → Bool → Bool → Bool → Bool → Bool → Bool → Bool → Int → Int → Int → Int → Int → Int → Int → Int → Int → Int → Int → Int → ByteArray → Option (Int)
  | 0, _, _, _, _, _, _, _, _, _, _, _, _, _, _, _, _, _, _, _, _, _, _ => none
  | k + 1, x3, x125000, x125001, x125002, x125003, x125004, x125005, x125006, x125007, x125008, x125009, x125010, x125011, x125012, x125013, x125014, x125015, x125016, x125017, x125018, x125019, x125020 => if x3 < 0 then ((gatepostref09_less.f k x125015 0).bind fun t127 => ((gatepostref09_atMost.f t127 2147483648).bind fun t128 => (some t128))) else ((gatepostref09_less.f k x125015 x3).bind fun t129 => ((gatepostref09_atMost.f t129 2147483648).bind fun t130 => (some t130)))
def gatepostref09_Lifetime.j1 : Nat → Bool → Int → Bool → Bool → Bool → Bool → Bool → Bool → Bool → Int → Int → Int → Int → Int → Int → Int → Int → Int → Int → Int → Int → ByteArray → Option (Int)
  | 0, _, _, _, _, _, _, _, _, _, _, _, _, _, _, _, _, _, _, _, _, _, _ => none
  | k + 1, x48, x125000, x125001, x125002, x125003, x125004, x125005, x125006, x125007, x125008, x125009, x125010, x125011, x125012, x125013, x125014, x125015, x125016, x125017, x125018, x125019, x125020 => if x48 = true then ((gatepostref09_less.f k x125014 x125016).bind fun t132 => ((gatepostref09_atMost.f (wrap64 (Int.tdiv t132 10)) 86400).bind fun t133 => (some t133))) else (some 0)
end
def gatepostref09_Lifetime.f (k : Nat) (a0_0 : Int) (a0_1 : Bool) (a0_2 : Bool) (a0_3 : Bool) (a0_4 : Bool) (a0_5 : Bool) (a0_6 : Bool) (a0_7 : Bool) (a0_8 : Int) (a0_9 : Int) (a0_10 : Int) (a0_11 : Int) (a0_12 : Int) (a0_13 : Int) (a0_14 : Int) (a0_15 : Int) (a0_16 : Int) (a0_17 : Int) (a0_18 : Int) (a0_19 : Int) (a0_20 : ByteArray) : Option (Int) := if a0_9 ≥ 0 then ((gatepostref09_atMost.f a0_9 2147483648).bind fun t125 => (some t125)) else (if a0_8 ≥ 0 then ((gatepostref09_atMost.f a0_8 2147483648).bind fun t126 => (some t126)) else (if a0_15 ≥ 0 then (if a0_14 < 0 then (gatepostref09_Lifetime.j0 k a0_19 a0_0 a0_1 a0_2 a0_3 a0_4 a0_5 a0_6 a0_7 a0_8 a0_9 a0_10 a0_11 a0_12 a0_13 a0_14 a0_15 a0_16 a0_17 a0_18 a0_19 a0_20) else (gatepostref09_Lifetime.j0 k a0_14 a0_0 a0_1 a0_2 a0_3 a0_4 a0_5 a0_6 a0_7 a0_8 a0_9 a0_10 a0_11 a0_12 a0_13 a0_14 a0_15 a0_16 a0_17 a0_18 a0_19 a0_20)) else ((gatepostref09_Heuristic.f a0_0).bind fun t131 => (if t131 = true then (if a0_16 ≥ 0 then (gatepostref09_Lifetime.j1 k (decide (a0_14 ≥ 0)) a0_0 a0_1 a0_2 a0_3 a0_4 a0_5 a0_6 a0_7 a0_8 a0_9 a0_10 a0_11 a0_12 a0_13 a0_14 a0_15 a0_16 a0_17 a0_18 a0_19 a0_20) else (gatepostref09_Lifetime.j1 k false a0_0 a0_1 a0_2 a0_3 a0_4 a0_5 a0_6 a0_7 a0_8 a0_9 a0_10 a0_11 a0_12 a0_13 a0_14 a0_15 a0_16 a0_17 a0_18 a0_19 a0_20)) else (gatepostref09_Lifetime.j1 k false a0_0 a0_1 a0_2 a0_3 a0_4 a0_5 a0_6 a0_7 a0_8 a0_9 a0_10 a0_11 a0_12 a0_13 a0_14 a0_15 a0_16 a0_17 a0_18 a0_19 a0_20)))))
theorem gatepostref09_Lifetime.mono_l : ∀ k, (∀ y0 y1 y2 y3 y4 y5 y6 y7 y8 y9 y10 y11 y12 y13 y14 y15 y16 y17 y18 y19 y20 y21, LeO (gatepostref09_Lifetime.j0 k y0 y1 y2 y3 y4 y5 y6 y7 y8 y9 y10 y11 y12 y13 y14 y15 y16 y17 y18 y19 y20 y21) (gatepostref09_Lifetime.j0 (k + 1) y0 y1 y2 y3 y4 y5 y6 y7 y8 y9 y10 y11 y12 y13 y14 y15 y16 y17 y18 y19 y20 y21)) ∧ (∀ y0 y1 y2 y3 y4 y5 y6 y7 y8 y9 y10 y11 y12 y13 y14 y15 y16 y17 y18 y19 y20 y21, LeO (gatepostref09_Lifetime.j1 k y0 y1 y2 y3 y4 y5 y6 y7 y8 y9 y10 y11 y12 y13 y14 y15 y16 y17 y18 y19 y20 y21) (gatepostref09_Lifetime.j1 (k + 1) y0 y1 y2 y3 y4 y5 y6 y7 y8 y9 y10 y11 y12 y13 y14 y15 y16 y17 y18 y19 y20 y21))
  | 0 => ⟨fun _ _ _ _ _ _ _ _ _ _ _ _ _ _ _ _ _ _ _ _ _ _ r h => by simp [gatepostref09_Lifetime.j0] at h, fun _ _ _ _ _ _ _ _ _ _ _ _ _ _ _ _ _ _ _ _ _ _ r h => by simp [gatepostref09_Lifetime.j1] at h⟩
  | k + 1 => by
    obtain ⟨ih0, ih1⟩ := gatepostref09_Lifetime.mono_l k
    refine ⟨?_, ?_⟩
    · intro y0 y1 y2 y3 y4 y5 y6 y7 y8 y9 y10 y11 y12 y13 y14 y15 y16 y17 y18 y19 y20 y21
      unfold gatepostref09_Lifetime.j0
      repeat' first
      | (with_reducible exact ih0 _ _ _ _ _ _ _ _ _ _ _ _ _ _ _ _ _ _ _ _ _ _)
      | (with_reducible exact ih1 _ _ _ _ _ _ _ _ _ _ _ _ _ _ _ _ _ _ _ _ _ _)
      | (with_reducible exact gatepostref09_less.mono _ _ _)
      | (with_reducible exact LeO.refl _)
      | (with_reducible exact LeO.none _)
      | (with_reducible refine LeO.ite ?_ ?_)
      | (with_reducible refine LeO.bind ?_ (fun _ => ?_))
      | exact ih0 _ _ _ _ _ _ _ _ _ _ _ _ _ _ _ _ _ _ _ _ _ _
      | exact ih1 _ _ _ _ _ _ _ _ _ _ _ _ _ _ _ _ _ _ _ _ _ _
      | exact gatepostref09_less.mono _ _ _
      | exact LeO.none _
      | refine LeO.ite ?_ ?_
      | refine LeO.bind ?_ (fun _ => ?_)
    · intro y0 y1 y2 y3 y4 y5 y6 y7 y8 y9 y10 y11 y12 y13 y14 y15 y16 y17 y18 y19 y20 y21
      unfold gatepostref09_Lifetime.j1
      repeat' first
      | (with_reducible exact ih0 _ _ _ _ _ _ _ _ _ _ _ _ _ _ _ _ _ _ _ _ _ _)
      | (with_reducible exact ih1 _ _ _ _ _ _ _ _ _ _ _ _ _ _ _ _ _ _ _ _ _ _)
      | (with_reducible exact gatepostref09_less.mono _ _ _)
      | (with_reducible exact LeO.refl _)
      | (with_reducible exact LeO.none _)
      | (with_reducible refine LeO.ite ?_ ?_)
      | (with_reducible refine LeO.bind ?_ (fun _ => ?_))
      | exact ih0 _ _ _ _ _ _ _ _ _ _ _ _ _ _ _ _ _ _ _ _ _ _
      | exact ih1 _ _ _ _ _ _ _ _ _ _ _ _ _ _ _ _ _ _ _ _ _ _
      | exact gatepostref09_less.mono _ _ _
      | exact LeO.none _
      | refine LeO.ite ?_ ?_
      | refine LeO.bind ?_ (fun _ => ?_)
theorem gatepostref09_Lifetime.mono : ∀ a0 a1 a2 a3 a4 a5 a6 a7 a8 a9 a10 a11 a12 a13 a14 a15 a16 a17 a18 a19 a20 k, LeO (gatepostref09_Lifetime.f k a0 a1 a2 a3 a4 a5 a6 a7 a8 a9 a10 a11 a12 a13 a14 a15 a16 a17 a18 a19 a20) (gatepostref09_Lifetime.f (k + 1) a0 a1 a2 a3 a4 a5 a6 a7 a8 a9 a10 a11 a12 a13 a14 a15 a16 a17 a18 a19 a20) := by
  intro a0 a1 a2 a3 a4 a5 a6 a7 a8 a9 a10 a11 a12 a13 a14 a15 a16 a17 a18 a19 a20 k
  obtain ⟨ih0, ih1⟩ := gatepostref09_Lifetime.mono_l k
  unfold gatepostref09_Lifetime.f
  repeat' first
      | (with_reducible exact ih0 _ _ _ _ _ _ _ _ _ _ _ _ _ _ _ _ _ _ _ _ _ _)
      | (with_reducible exact ih1 _ _ _ _ _ _ _ _ _ _ _ _ _ _ _ _ _ _ _ _ _ _)
      | (with_reducible exact gatepostref09_less.mono _ _ _)
      | (with_reducible exact LeO.refl _)
      | (with_reducible exact LeO.none _)
      | (with_reducible refine LeO.ite ?_ ?_)
      | (with_reducible refine LeO.bind ?_ (fun _ => ?_))
      | exact ih0 _ _ _ _ _ _ _ _ _ _ _ _ _ _ _ _ _ _ _ _ _ _
      | exact ih1 _ _ _ _ _ _ _ _ _ _ _ _ _ _ _ _ _ _ _ _ _ _
      | exact gatepostref09_less.mono _ _ _
      | exact LeO.none _
      | refine LeO.ite ?_ ?_
      | refine LeO.bind ?_ (fun _ => ?_)
set_option maxHeartbeats 8000000 in
set_option maxRecDepth 100000 in
theorem gatepostref09_Lifetime.calls (k : Nat) (a0_0 : Int) (a0_1 : Bool) (a0_2 : Bool) (a0_3 : Bool) (a0_4 : Bool) (a0_5 : Bool) (a0_6 : Bool) (a0_7 : Bool) (a0_8 : Int) (a0_9 : Int) (a0_10 : Int) (a0_11 : Int) (a0_12 : Int) (a0_13 : Int) (a0_14 : Int) (a0_15 : Int) (a0_16 : Int) (a0_17 : Int) (a0_18 : Int) (a0_19 : Int) (a0_20 : ByteArray) (r : Int) (w : World) (h : gatepostref09_Lifetime.f k a0_0 a0_1 a0_2 a0_3 a0_4 a0_5 a0_6 a0_7 a0_8 a0_9 a0_10 a0_11 a0_12 a0_13 a0_14 a0_15 a0_16 a0_17 a0_18 a0_19 a0_20 = some r) :
    Calls Try.prog 12 #[.agg #[.int .i64 a0_0, .bool a0_1, .bool a0_2, .bool a0_3, .bool a0_4, .bool a0_5, .bool a0_6, .bool a0_7, .int .i64 a0_8, .int .i64 a0_9, .int .i64 a0_10, .int .i64 a0_11, .int .i64 a0_12, .int .i64 a0_13, .int .i64 a0_14, .int .i64 a0_15, .int .i64 a0_16, .int .i64 a0_17, .int .i64 a0_18, .int .i64 a0_19, .string a0_20]] w fun e w' => e = .returned (.int .i64 r) ∧ Below w.heap.size w w' := by
  have hu25 := Try.underlying25
  have HB := Aside0.mk (Below.refl w.heap.size w)
  have H : (if a0_9 ≥ 0 then ((gatepostref09_atMost.f a0_9 2147483648).bind fun t125 => (some t125)) else (if a0_8 ≥ 0 then ((gatepostref09_atMost.f a0_8 2147483648).bind fun t126 => (some t126)) else (if a0_15 ≥ 0 then (if a0_14 < 0 then (gatepostref09_Lifetime.j0 k a0_19 a0_0 a0_1 a0_2 a0_3 a0_4 a0_5 a0_6 a0_7 a0_8 a0_9 a0_10 a0_11 a0_12 a0_13 a0_14 a0_15 a0_16 a0_17 a0_18 a0_19 a0_20) else (gatepostref09_Lifetime.j0 k a0_14 a0_0 a0_1 a0_2 a0_3 a0_4 a0_5 a0_6 a0_7 a0_8 a0_9 a0_10 a0_11 a0_12 a0_13 a0_14 a0_15 a0_16 a0_17 a0_18 a0_19 a0_20)) else ((gatepostref09_Heuristic.f a0_0).bind fun t131 => (if t131 = true then (if a0_16 ≥ 0 then (gatepostref09_Lifetime.j1 k (decide (a0_14 ≥ 0)) a0_0 a0_1 a0_2 a0_3 a0_4 a0_5 a0_6 a0_7 a0_8 a0_9 a0_10 a0_11 a0_12 a0_13 a0_14 a0_15 a0_16 a0_17 a0_18 a0_19 a0_20) else (gatepostref09_Lifetime.j1 k false a0_0 a0_1 a0_2 a0_3 a0_4 a0_5 a0_6 a0_7 a0_8 a0_9 a0_10 a0_11 a0_12 a0_13 a0_14 a0_15 a0_16 a0_17 a0_18 a0_19 a0_20)) else (gatepostref09_Lifetime.j1 k false a0_0 a0_1 a0_2 a0_3 a0_4 a0_5 a0_6 a0_7 a0_8 a0_9 a0_10 a0_11 a0_12 a0_13 a0_14 a0_15 a0_16 a0_17 a0_18 a0_19 a0_20)))))) = some r := h
  clear h
  by_cases c2 : a0_9 ≥ 0
  · rw [if_pos c2] at H
    have c2b0 : decide (0 ≤ a0_9) = true := decide_eq_true c2
    clear c2
    replace H := Option.bind_eq_some_iff.mp H
    obtain ⟨t125, A30, H⟩ := H
    replace H : (some t125) = some r := H
    have A3 := Aside0.mk A30
    clear A30
    obtain rfl := Option.some.inj H
    go_enter Try.func12, Try.ntmps12
    go_wp2_with (first | ((with_reducible refine gate_dst (N := 1) rfl ?_); refine box_event ?hg (N := 1) ?hd (cs := #[.int .i64 a0_0, .bool a0_1, .bool a0_2, .bool a0_3, .bool a0_4, .bool a0_5, .bool a0_6, .bool a0_7, .int .i64 a0_8, .int .i64 a0_9, .int .i64 a0_10, .int .i64 a0_11, .int .i64 a0_12, .int .i64 a0_13, .int .i64 a0_14, .int .i64 a0_15, .int .i64 a0_16, .int .i64 a0_17, .int .i64 a0_18, .int .i64 a0_19, .string a0_20]) (t := 25) ?hr ?_; (case hd => rfl); (case hg => rfl); (case hr => first | (go_simp; done) | (go_simp; rfl)); intro gb124 hg w4 hbox hb; have n0_ := Aside0.mk (below_step (by repeat (first | (with_reducible first | exact HB.out | apply below_alloc | apply pw_below_drewN | apply below_drew1) | exact HB.out)) hb); have n1_ := Aside0.mk (hbox); have n2_ := Aside0.mk ((by rw [hg]; exact (below_size (by repeat (first | (with_reducible first | exact HB.out | apply below_alloc | apply pw_below_drewN | apply below_drew1) | exact HB.out))) : w.heap.size ≤ gb124)); have n3_ := Aside0.mk ((by rw [hg]; exact (below_size (by repeat (first | (with_reducible first | exact HB.out | apply below_alloc | apply pw_below_drewN | apply below_drew1) | exact HB.out))) : w.heap.size ≤ gb124)); clear HB; have HB := n0_; have BK124 := n1_; have GW124 := n2_; have GE124 := n3_; clear n0_ n1_ n2_ n3_; clear hb hbox hg; have hcz5_0 : w4.cell? ⟨gb124, 0, none⟩ = some (.int .i64 a0_0) := (blk_cell BK124.out 0).trans rfl; have hcz5_1 : w4.cell? ⟨gb124, 1, none⟩ = some (.bool a0_1) := (blk_cell BK124.out 1).trans rfl; have hcz5_2 : w4.cell? ⟨gb124, 2, none⟩ = some (.bool a0_2) := (blk_cell BK124.out 2).trans rfl; have hcz5_3 : w4.cell? ⟨gb124, 3, none⟩ = some (.bool a0_3) := (blk_cell BK124.out 3).trans rfl; have hcz5_4 : w4.cell? ⟨gb124, 4, none⟩ = some (.bool a0_4) := (blk_cell BK124.out 4).trans rfl; have hcz5_5 : w4.cell? ⟨gb124, 5, none⟩ = some (.bool a0_5) := (blk_cell BK124.out 5).trans rfl; have hcz5_6 : w4.cell? ⟨gb124, 6, none⟩ = some (.bool a0_6) := (blk_cell BK124.out 6).trans rfl; have hcz5_7 : w4.cell? ⟨gb124, 7, none⟩ = some (.bool a0_7) := (blk_cell BK124.out 7).trans rfl; have hcz5_8 : w4.cell? ⟨gb124, 8, none⟩ = some (.int .i64 a0_8) := (blk_cell BK124.out 8).trans rfl; have hcz5_9 : w4.cell? ⟨gb124, 9, none⟩ = some (.int .i64 a0_9) := (blk_cell BK124.out 9).trans rfl; have hcz5_10 : w4.cell? ⟨gb124, 10, none⟩ = some (.int .i64 a0_10) := (blk_cell BK124.out 10).trans rfl; have hcz5_11 : w4.cell? ⟨gb124, 11, none⟩ = some (.int .i64 a0_11) := (blk_cell BK124.out 11).trans rfl; have hcz5_12 : w4.cell? ⟨gb124, 12, none⟩ = some (.int .i64 a0_12) := (blk_cell BK124.out 12).trans rfl; have hcz5_13 : w4.cell? ⟨gb124, 13, none⟩ = some (.int .i64 a0_13) := (blk_cell BK124.out 13).trans rfl; have hcz5_14 : w4.cell? ⟨gb124, 14, none⟩ = some (.int .i64 a0_14) := (blk_cell BK124.out 14).trans rfl; have hcz5_15 : w4.cell? ⟨gb124, 15, none⟩ = some (.int .i64 a0_15) := (blk_cell BK124.out 15).trans rfl; have hcz5_16 : w4.cell? ⟨gb124, 16, none⟩ = some (.int .i64 a0_16) := (blk_cell BK124.out 16).trans rfl; have hcz5_17 : w4.cell? ⟨gb124, 17, none⟩ = some (.int .i64 a0_17) := (blk_cell BK124.out 17).trans rfl; have hcz5_18 : w4.cell? ⟨gb124, 18, none⟩ = some (.int .i64 a0_18) := (blk_cell BK124.out 18).trans rfl; have hcz5_19 : w4.cell? ⟨gb124, 19, none⟩ = some (.int .i64 a0_19) := (blk_cell BK124.out 19).trans rfl; have hcz5_20 : w4.cell? ⟨gb124, 20, none⟩ = some (.string a0_20) := (blk_cell BK124.out 20).trans rfl; have hfz5_0 := blk_frozen BK124.out 0; have hfz5_1 := blk_frozen BK124.out 1; have hfz5_2 := blk_frozen BK124.out 2; have hfz5_3 := blk_frozen BK124.out 3; have hfz5_4 := blk_frozen BK124.out 4; have hfz5_5 := blk_frozen BK124.out 5; have hfz5_6 := blk_frozen BK124.out 6; have hfz5_7 := blk_frozen BK124.out 7; have hfz5_8 := blk_frozen BK124.out 8; have hfz5_9 := blk_frozen BK124.out 9; have hfz5_10 := blk_frozen BK124.out 10; have hfz5_11 := blk_frozen BK124.out 11; have hfz5_12 := blk_frozen BK124.out 12; have hfz5_13 := blk_frozen BK124.out 13; have hfz5_14 := blk_frozen BK124.out 14; have hfz5_15 := blk_frozen BK124.out 15; have hfz5_16 := blk_frozen BK124.out 16; have hfz5_17 := blk_frozen BK124.out 17; have hfz5_18 := blk_frozen BK124.out 18; have hfz5_19 := blk_frozen BK124.out 19; have hfz5_20 := blk_frozen BK124.out 20) | ((with_reducible refine gate_callee (f := 21) rfl ?_); refine goesL_ (some 11) rfl rfl Try.func21 (by kernel_rfl) rfl #[.int .i64 a0_9, .int .i64 2147483648] rfl (by (try simp only [List.map_toArray, List.map_cons, List.map_nil]); first | done | rfl | (simp only [List.length_drop, List.length_take]; rfl)) ?_; (with_reducible refine (gatepostref09_atMost.calls a0_9 2147483648 t125 _ A3.out).mono ?_); rintro e w' ⟨rfl, ⟨nd, rfl⟩⟩; refine ⟨_, rfl, ?_⟩))
    go_ret
    exact ⟨by first | rfl | (simp [errW_none, errW_some] <;> rfl) | (simp [*, errW_none, errW_some] <;> rfl), by repeat (first | (with_reducible first | exact HB.out | apply below_alloc | apply pw_below_drewN | apply below_drew1 | refine below_set ?_ GE124.out) | exact HB.out)⟩
  · rw [if_neg c2] at H
    have c2b0 : decide (0 ≤ a0_9) = false := decide_eq_false c2
    clear c2
    by_cases c6 : a0_8 ≥ 0
    · rw [if_pos c6] at H
      have c6b0 : decide (0 ≤ a0_8) = true := decide_eq_true c6
      clear c6
      replace H := Option.bind_eq_some_iff.mp H
      obtain ⟨t126, A70, H⟩ := H
      replace H : (some t126) = some r := H
      have A7 := Aside0.mk A70
      clear A70
      obtain rfl := Option.some.inj H
      go_enter Try.func12, Try.ntmps12
      go_wp2_with (first | ((with_reducible refine gate_dst (N := 1) rfl ?_); refine box_event ?hg (N := 1) ?hd (cs := #[.int .i64 a0_0, .bool a0_1, .bool a0_2, .bool a0_3, .bool a0_4, .bool a0_5, .bool a0_6, .bool a0_7, .int .i64 a0_8, .int .i64 a0_9, .int .i64 a0_10, .int .i64 a0_11, .int .i64 a0_12, .int .i64 a0_13, .int .i64 a0_14, .int .i64 a0_15, .int .i64 a0_16, .int .i64 a0_17, .int .i64 a0_18, .int .i64 a0_19, .string a0_20]) (t := 25) ?hr ?_; (case hd => rfl); (case hg => rfl); (case hr => first | (go_simp; done) | (go_simp; rfl)); intro gb124 hg w8 hbox hb; have n0_ := Aside0.mk (below_step (by repeat (first | (with_reducible first | exact HB.out | apply below_alloc | apply pw_below_drewN | apply below_drew1) | exact HB.out)) hb); have n1_ := Aside0.mk (hbox); have n2_ := Aside0.mk ((by rw [hg]; exact (below_size (by repeat (first | (with_reducible first | exact HB.out | apply below_alloc | apply pw_below_drewN | apply below_drew1) | exact HB.out))) : w.heap.size ≤ gb124)); have n3_ := Aside0.mk ((by rw [hg]; exact (below_size (by repeat (first | (with_reducible first | exact HB.out | apply below_alloc | apply pw_below_drewN | apply below_drew1) | exact HB.out))) : w.heap.size ≤ gb124)); clear HB; have HB := n0_; have BK124 := n1_; have GW124 := n2_; have GE124 := n3_; clear n0_ n1_ n2_ n3_; clear hb hbox hg; have hcz9_0 : w8.cell? ⟨gb124, 0, none⟩ = some (.int .i64 a0_0) := (blk_cell BK124.out 0).trans rfl; have hcz9_1 : w8.cell? ⟨gb124, 1, none⟩ = some (.bool a0_1) := (blk_cell BK124.out 1).trans rfl; have hcz9_2 : w8.cell? ⟨gb124, 2, none⟩ = some (.bool a0_2) := (blk_cell BK124.out 2).trans rfl; have hcz9_3 : w8.cell? ⟨gb124, 3, none⟩ = some (.bool a0_3) := (blk_cell BK124.out 3).trans rfl; have hcz9_4 : w8.cell? ⟨gb124, 4, none⟩ = some (.bool a0_4) := (blk_cell BK124.out 4).trans rfl; have hcz9_5 : w8.cell? ⟨gb124, 5, none⟩ = some (.bool a0_5) := (blk_cell BK124.out 5).trans rfl; have hcz9_6 : w8.cell? ⟨gb124, 6, none⟩ = some (.bool a0_6) := (blk_cell BK124.out 6).trans rfl; have hcz9_7 : w8.cell? ⟨gb124, 7, none⟩ = some (.bool a0_7) := (blk_cell BK124.out 7).trans rfl; have hcz9_8 : w8.cell? ⟨gb124, 8, none⟩ = some (.int .i64 a0_8) := (blk_cell BK124.out 8).trans rfl; have hcz9_9 : w8.cell? ⟨gb124, 9, none⟩ = some (.int .i64 a0_9) := (blk_cell BK124.out 9).trans rfl; have hcz9_10 : w8.cell? ⟨gb124, 10, none⟩ = some (.int .i64 a0_10) := (blk_cell BK124.out 10).trans rfl; have hcz9_11 : w8.cell? ⟨gb124, 11, none⟩ = some (.int .i64 a0_11) := (blk_cell BK124.out 11).trans rfl; have hcz9_12 : w8.cell? ⟨gb124, 12, none⟩ = some (.int .i64 a0_12) := (blk_cell BK124.out 12).trans rfl; have hcz9_13 : w8.cell? ⟨gb124, 13, none⟩ = some (.int .i64 a0_13) := (blk_cell BK124.out 13).trans rfl; have hcz9_14 : w8.cell? ⟨gb124, 14, none⟩ = some (.int .i64 a0_14) := (blk_cell BK124.out 14).trans rfl; have hcz9_15 : w8.cell? ⟨gb124, 15, none⟩ = some (.int .i64 a0_15) := (blk_cell BK124.out 15).trans rfl; have hcz9_16 : w8.cell? ⟨gb124, 16, none⟩ = some (.int .i64 a0_16) := (blk_cell BK124.out 16).trans rfl; have hcz9_17 : w8.cell? ⟨gb124, 17, none⟩ = some (.int .i64 a0_17) := (blk_cell BK124.out 17).trans rfl; have hcz9_18 : w8.cell? ⟨gb124, 18, none⟩ = some (.int .i64 a0_18) := (blk_cell BK124.out 18).trans rfl; have hcz9_19 : w8.cell? ⟨gb124, 19, none⟩ = some (.int .i64 a0_19) := (blk_cell BK124.out 19).trans rfl; have hcz9_20 : w8.cell? ⟨gb124, 20, none⟩ = some (.string a0_20) := (blk_cell BK124.out 20).trans rfl; have hfz9_0 := blk_frozen BK124.out 0; have hfz9_1 := blk_frozen BK124.out 1; have hfz9_2 := blk_frozen BK124.out 2; have hfz9_3 := blk_frozen BK124.out 3; have hfz9_4 := blk_frozen BK124.out 4; have hfz9_5 := blk_frozen BK124.out 5; have hfz9_6 := blk_frozen BK124.out 6; have hfz9_7 := blk_frozen BK124.out 7; have hfz9_8 := blk_frozen BK124.out 8; have hfz9_9 := blk_frozen BK124.out 9; have hfz9_10 := blk_frozen BK124.out 10; have hfz9_11 := blk_frozen BK124.out 11; have hfz9_12 := blk_frozen BK124.out 12; have hfz9_13 := blk_frozen BK124.out 13; have hfz9_14 := blk_frozen BK124.out 14; have hfz9_15 := blk_frozen BK124.out 15; have hfz9_16 := blk_frozen BK124.out 16; have hfz9_17 := blk_frozen BK124.out 17; have hfz9_18 := blk_frozen BK124.out 18; have hfz9_19 := blk_frozen BK124.out 19; have hfz9_20 := blk_frozen BK124.out 20) | ((with_reducible refine gate_callee (f := 21) rfl ?_); refine goesL_ (some 19) rfl rfl Try.func21 (by kernel_rfl) rfl #[.int .i64 a0_8, .int .i64 2147483648] rfl (by (try simp only [List.map_toArray, List.map_cons, List.map_nil]); first | done | rfl | (simp only [List.length_drop, List.length_take]; rfl)) ?_; (with_reducible refine (gatepostref09_atMost.calls a0_8 2147483648 t126 _ A7.out).mono ?_); rintro e w' ⟨rfl, ⟨nd, rfl⟩⟩; refine ⟨_, rfl, ?_⟩))
      go_ret
      exact ⟨by first | rfl | (simp [errW_none, errW_some] <;> rfl) | (simp [*, errW_none, errW_some] <;> rfl), by repeat (first | (with_reducible first | exact HB.out | apply below_alloc | apply pw_below_drewN | apply below_drew1 | refine below_set ?_ GE124.out) | exact HB.out)⟩
    · rw [if_neg c6] at H
      have c6b0 : decide (0 ≤ a0_8) = false := decide_eq_false c6
      clear c6
      by_cases c10 : a0_15 ≥ 0
      · rw [if_pos c10] at H
        have c10b0 : decide (0 ≤ a0_15) = true := decide_eq_true c10
        clear c10
        have HC11 := Aside0.mk H
        clear H
        go_enter Try.func12, Try.ntmps12
        go_upto_if 26 with (first | ((with_reducible refine gate_dst (N := 1) rfl ?_); refine box_event ?hg (N := 1) ?hd (cs := #[.int .i64 a0_0, .bool a0_1, .bool a0_2, .bool a0_3, .bool a0_4, .bool a0_5, .bool a0_6, .bool a0_7, .int .i64 a0_8, .int .i64 a0_9, .int .i64 a0_10, .int .i64 a0_11, .int .i64 a0_12, .int .i64 a0_13, .int .i64 a0_14, .int .i64 a0_15, .int .i64 a0_16, .int .i64 a0_17, .int .i64 a0_18, .int .i64 a0_19, .string a0_20]) (t := 25) ?hr ?_; (case hd => rfl); (case hg => rfl); (case hr => first | (go_simp; done) | (go_simp; rfl)); intro gb124 hg w12 hbox hb; have n0_ := Aside0.mk (below_step (by repeat (first | (with_reducible first | exact HB.out | apply below_alloc | apply pw_below_drewN | apply below_drew1) | exact HB.out)) hb); have n1_ := Aside0.mk (hbox); have n2_ := Aside0.mk ((by rw [hg]; exact (below_size (by repeat (first | (with_reducible first | exact HB.out | apply below_alloc | apply pw_below_drewN | apply below_drew1) | exact HB.out))) : w.heap.size ≤ gb124)); have n3_ := Aside0.mk ((by rw [hg]; exact (below_size (by repeat (first | (with_reducible first | exact HB.out | apply below_alloc | apply pw_below_drewN | apply below_drew1) | exact HB.out))) : w.heap.size ≤ gb124)); clear HB; have HB := n0_; have BK124 := n1_; have GW124 := n2_; have GE124 := n3_; clear n0_ n1_ n2_ n3_; clear hb hbox hg; have hcz13_0 : w12.cell? ⟨gb124, 0, none⟩ = some (.int .i64 a0_0) := (blk_cell BK124.out 0).trans rfl; have hcz13_1 : w12.cell? ⟨gb124, 1, none⟩ = some (.bool a0_1) := (blk_cell BK124.out 1).trans rfl; have hcz13_2 : w12.cell? ⟨gb124, 2, none⟩ = some (.bool a0_2) := (blk_cell BK124.out 2).trans rfl; have hcz13_3 : w12.cell? ⟨gb124, 3, none⟩ = some (.bool a0_3) := (blk_cell BK124.out 3).trans rfl; have hcz13_4 : w12.cell? ⟨gb124, 4, none⟩ = some (.bool a0_4) := (blk_cell BK124.out 4).trans rfl; have hcz13_5 : w12.cell? ⟨gb124, 5, none⟩ = some (.bool a0_5) := (blk_cell BK124.out 5).trans rfl; have hcz13_6 : w12.cell? ⟨gb124, 6, none⟩ = some (.bool a0_6) := (blk_cell BK124.out 6).trans rfl; have hcz13_7 : w12.cell? ⟨gb124, 7, none⟩ = some (.bool a0_7) := (blk_cell BK124.out 7).trans rfl; have hcz13_8 : w12.cell? ⟨gb124, 8, none⟩ = some (.int .i64 a0_8) := (blk_cell BK124.out 8).trans rfl; have hcz13_9 : w12.cell? ⟨gb124, 9, none⟩ = some (.int .i64 a0_9) := (blk_cell BK124.out 9).trans rfl; have hcz13_10 : w12.cell? ⟨gb124, 10, none⟩ = some (.int .i64 a0_10) := (blk_cell BK124.out 10).trans rfl; have hcz13_11 : w12.cell? ⟨gb124, 11, none⟩ = some (.int .i64 a0_11) := (blk_cell BK124.out 11).trans rfl; have hcz13_12 : w12.cell? ⟨gb124, 12, none⟩ = some (.int .i64 a0_12) := (blk_cell BK124.out 12).trans rfl; have hcz13_13 : w12.cell? ⟨gb124, 13, none⟩ = some (.int .i64 a0_13) := (blk_cell BK124.out 13).trans rfl; have hcz13_14 : w12.cell? ⟨gb124, 14, none⟩ = some (.int .i64 a0_14) := (blk_cell BK124.out 14).trans rfl; have hcz13_15 : w12.cell? ⟨gb124, 15, none⟩ = some (.int .i64 a0_15) := (blk_cell BK124.out 15).trans rfl; have hcz13_16 : w12.cell? ⟨gb124, 16, none⟩ = some (.int .i64 a0_16) := (blk_cell BK124.out 16).trans rfl; have hcz13_17 : w12.cell? ⟨gb124, 17, none⟩ = some (.int .i64 a0_17) := (blk_cell BK124.out 17).trans rfl; have hcz13_18 : w12.cell? ⟨gb124, 18, none⟩ = some (.int .i64 a0_18) := (blk_cell BK124.out 18).trans rfl; have hcz13_19 : w12.cell? ⟨gb124, 19, none⟩ = some (.int .i64 a0_19) := (blk_cell BK124.out 19).trans rfl; have hcz13_20 : w12.cell? ⟨gb124, 20, none⟩ = some (.string a0_20) := (blk_cell BK124.out 20).trans rfl; have hfz13_0 := blk_frozen BK124.out 0; have hfz13_1 := blk_frozen BK124.out 1; have hfz13_2 := blk_frozen BK124.out 2; have hfz13_3 := blk_frozen BK124.out 3; have hfz13_4 := blk_frozen BK124.out 4; have hfz13_5 := blk_frozen BK124.out 5; have hfz13_6 := blk_frozen BK124.out 6; have hfz13_7 := blk_frozen BK124.out 7; have hfz13_8 := blk_frozen BK124.out 8; have hfz13_9 := blk_frozen BK124.out 9; have hfz13_10 := blk_frozen BK124.out 10; have hfz13_11 := blk_frozen BK124.out 11; have hfz13_12 := blk_frozen BK124.out 12; have hfz13_13 := blk_frozen BK124.out 13; have hfz13_14 := blk_frozen BK124.out 14; have hfz13_15 := blk_frozen BK124.out 15; have hfz13_16 := blk_frozen BK124.out 16; have hfz13_17 := blk_frozen BK124.out 17; have hfz13_18 := blk_frozen BK124.out 18; have hfz13_19 := blk_frozen BK124.out 19; have hfz13_20 := blk_frozen BK124.out 20))
        (try simp only [Act.put, List.setIfInBounds_toArray, List.set_cons_zero, List.set_cons_succ])
        go_cut [3] (fun v3 wc => ∃ (kq : Nat) (x3_10 : Int), v3 = .int .i64 x3_10 ∧ Aside0 (gatepostref09_Lifetime.j0 kq x3_10 a0_0 a0_1 a0_2 a0_3 a0_4 a0_5 a0_6 a0_7 a0_8 a0_9 a0_10 a0_11 a0_12 a0_13 a0_14 a0_15 a0_16 a0_17 a0_18 a0_19 a0_20 = some r) ∧ Aside0 (kq ≤ k) ∧ Aside0 (wc.heap[gb124]? = some (.cells #[.int .i64 a0_0, .bool a0_1, .bool a0_2, .bool a0_3, .bool a0_4, .bool a0_5, .bool a0_6, .bool a0_7, .int .i64 a0_8, .int .i64 a0_9, .int .i64 a0_10, .int .i64 a0_11, .int .i64 a0_12, .int .i64 a0_13, .int .i64 a0_14, .int .i64 a0_15, .int .i64 a0_16, .int .i64 a0_17, .int .i64 a0_18, .int .i64 a0_19, .string a0_20] 25 (0, 0))) ∧ Aside0 (Below w.heap.size w wc))
        case first =>
          have H := HC11.out
          clear HC11
          by_cases c14 : a0_14 < 0
          · rw [if_pos c14] at H
            have c14b0 : decide (a0_14 < 0) = true := decide_eq_true c14
            clear c14
            (first | rw [c14b0] | (simp only [i64_w, i32_w]; rw [c14b0]) | skip)
            have H' := Aside0.mk H
            clear H
            have hcz15_0 : w12.cell? ⟨gb124, 0, none⟩ = some (.int .i64 a0_0) := (blk_cell BK124.out 0).trans rfl
            have hcz15_1 : w12.cell? ⟨gb124, 1, none⟩ = some (.bool a0_1) := (blk_cell BK124.out 1).trans rfl
            have hcz15_2 : w12.cell? ⟨gb124, 2, none⟩ = some (.bool a0_2) := (blk_cell BK124.out 2).trans rfl
            have hcz15_3 : w12.cell? ⟨gb124, 3, none⟩ = some (.bool a0_3) := (blk_cell BK124.out 3).trans rfl
            have hcz15_4 : w12.cell? ⟨gb124, 4, none⟩ = some (.bool a0_4) := (blk_cell BK124.out 4).trans rfl
            have hcz15_5 : w12.cell? ⟨gb124, 5, none⟩ = some (.bool a0_5) := (blk_cell BK124.out 5).trans rfl
            have hcz15_6 : w12.cell? ⟨gb124, 6, none⟩ = some (.bool a0_6) := (blk_cell BK124.out 6).trans rfl
            have hcz15_7 : w12.cell? ⟨gb124, 7, none⟩ = some (.bool a0_7) := (blk_cell BK124.out 7).trans rfl
            have hcz15_8 : w12.cell? ⟨gb124, 8, none⟩ = some (.int .i64 a0_8) := (blk_cell BK124.out 8).trans rfl
            have hcz15_9 : w12.cell? ⟨gb124, 9, none⟩ = some (.int .i64 a0_9) := (blk_cell BK124.out 9).trans rfl
            have hcz15_10 : w12.cell? ⟨gb124, 10, none⟩ = some (.int .i64 a0_10) := (blk_cell BK124.out 10).trans rfl
            have hcz15_11 : w12.cell? ⟨gb124, 11, none⟩ = some (.int .i64 a0_11) := (blk_cell BK124.out 11).trans rfl
            have hcz15_12 : w12.cell? ⟨gb124, 12, none⟩ = some (.int .i64 a0_12) := (blk_cell BK124.out 12).trans rfl
            have hcz15_13 : w12.cell? ⟨gb124, 13, none⟩ = some (.int .i64 a0_13) := (blk_cell BK124.out 13).trans rfl
            have hcz15_14 : w12.cell? ⟨gb124, 14, none⟩ = some (.int .i64 a0_14) := (blk_cell BK124.out 14).trans rfl
            have hcz15_15 : w12.cell? ⟨gb124, 15, none⟩ = some (.int .i64 a0_15) := (blk_cell BK124.out 15).trans rfl
            have hcz15_16 : w12.cell? ⟨gb124, 16, none⟩ = some (.int .i64 a0_16) := (blk_cell BK124.out 16).trans rfl
            have hcz15_17 : w12.cell? ⟨gb124, 17, none⟩ = some (.int .i64 a0_17) := (blk_cell BK124.out 17).trans rfl
            have hcz15_18 : w12.cell? ⟨gb124, 18, none⟩ = some (.int .i64 a0_18) := (blk_cell BK124.out 18).trans rfl
            have hcz15_19 : w12.cell? ⟨gb124, 19, none⟩ = some (.int .i64 a0_19) := (blk_cell BK124.out 19).trans rfl
            have hcz15_20 : w12.cell? ⟨gb124, 20, none⟩ = some (.string a0_20) := (blk_cell BK124.out 20).trans rfl
            have hfz15_0 := blk_frozen BK124.out 0
            have hfz15_1 := blk_frozen BK124.out 1
            have hfz15_2 := blk_frozen BK124.out 2
            have hfz15_3 := blk_frozen BK124.out 3
            have hfz15_4 := blk_frozen BK124.out 4
            have hfz15_5 := blk_frozen BK124.out 5
            have hfz15_6 := blk_frozen BK124.out 6
            have hfz15_7 := blk_frozen BK124.out 7
            have hfz15_8 := blk_frozen BK124.out 8
            have hfz15_9 := blk_frozen BK124.out 9
            have hfz15_10 := blk_frozen BK124.out 10
            have hfz15_11 := blk_frozen BK124.out 11
            have hfz15_12 := blk_frozen BK124.out 12
            have hfz15_13 := blk_frozen BK124.out 13
            have hfz15_14 := blk_frozen BK124.out 14
            have hfz15_15 := blk_frozen BK124.out 15
            have hfz15_16 := blk_frozen BK124.out 16
            have hfz15_17 := blk_frozen BK124.out 17
            have hfz15_18 := blk_frozen BK124.out 18
            have hfz15_19 := blk_frozen BK124.out 19
            have hfz15_20 := blk_frozen BK124.out 20
            go_wp2
            go_meet
            case rel => exact ⟨_, (a0_19), (by first | rfl | (simp; done) | exact ret_ne _ | (simp [*]; done)), H', ⟨by first | omega | exact Nat.le_refl _⟩, ⟨by (with_reducible repeat (first | refine blk_drewN ?_ _ | refine blk_drew ?_ | refine blk_alloc ?_ _)); exact BK124.out⟩, ⟨by repeat (first | (with_reducible first | exact HB.out | apply below_alloc | apply pw_below_drewN | apply below_drew1 | refine below_set ?_ GE124.out) | exact HB.out)⟩⟩
          · rw [if_neg c14] at H
            have c14b0 : decide (a0_14 < 0) = false := decide_eq_false c14
            clear c14
            (first | rw [c14b0] | (simp only [i64_w, i32_w]; rw [c14b0]) | skip)
            have H' := Aside0.mk H
            clear H
            go_wp2
            go_meet
            case rel => exact ⟨_, (a0_14), (by first | rfl | (simp; done) | exact ret_ne _ | (simp [*]; done)), H', ⟨by first | omega | exact Nat.le_refl _⟩, ⟨by (with_reducible repeat (first | refine blk_drewN ?_ _ | refine blk_drew ?_ | refine blk_alloc ?_ _)); exact BK124.out⟩, ⟨by repeat (first | (with_reducible first | exact HB.out | apply below_alloc | apply pw_below_drewN | apply below_drew1 | refine below_set ?_ GE124.out) | exact HB.out)⟩⟩
        case rest =>
          clear HC11
          try clear c1
          try clear c2
          try clear c2b0
          try clear p2
          try clear c6
          try clear c6b0
          try clear c10
          try clear c10b0
          try clear c12
          try clear c14
          try clear c14b0
          try clear hcz13_0
          try clear hcz13_1
          try clear hcz13_10
          try clear hcz13_11
          try clear hcz13_12
          try clear hcz13_13
          try clear hcz13_14
          try clear hcz13_15
          try clear hcz13_16
          try clear hcz13_17
          try clear hcz13_18
          try clear hcz13_19
          try clear hcz13_2
          try clear hcz13_20
          try clear hcz13_3
          try clear hcz13_4
          try clear hcz13_5
          try clear hcz13_6
          try clear hcz13_7
          try clear hcz13_8
          try clear hcz13_9
          try clear hcz15_0
          try clear hcz15_1
          try clear hcz15_10
          try clear hcz15_11
          try clear hcz15_12
          try clear hcz15_13
          try clear hcz15_14
          try clear hcz15_15
          try clear hcz15_16
          try clear hcz15_17
          try clear hcz15_18
          try clear hcz15_19
          try clear hcz15_2
          try clear hcz15_20
          try clear hcz15_3
          try clear hcz15_4
          try clear hcz15_5
          try clear hcz15_6
          try clear hcz15_7
          try clear hcz15_8
          try clear hcz15_9
          try clear hcz5_0
          try clear hcz5_1
          try clear hcz5_10
          try clear hcz5_11
          try clear hcz5_12
          try clear hcz5_13
          try clear hcz5_14
          try clear hcz5_15
          try clear hcz5_16
          try clear hcz5_17
          try clear hcz5_18
          try clear hcz5_19
          try clear hcz5_2
          try clear hcz5_20
          try clear hcz5_3
          try clear hcz5_4
          try clear hcz5_5
          try clear hcz5_6
          try clear hcz5_7
          try clear hcz5_8
          try clear hcz5_9
          try clear hcz9_0
          try clear hcz9_1
          try clear hcz9_10
          try clear hcz9_11
          try clear hcz9_12
          try clear hcz9_13
          try clear hcz9_14
          try clear hcz9_15
          try clear hcz9_16
          try clear hcz9_17
          try clear hcz9_18
          try clear hcz9_19
          try clear hcz9_2
          try clear hcz9_20
          try clear hcz9_3
          try clear hcz9_4
          try clear hcz9_5
          try clear hcz9_6
          try clear hcz9_7
          try clear hcz9_8
          try clear hcz9_9
          try clear hfz13_0
          try clear hfz13_1
          try clear hfz13_10
          try clear hfz13_11
          try clear hfz13_12
          try clear hfz13_13
          try clear hfz13_14
          try clear hfz13_15
          try clear hfz13_16
          try clear hfz13_17
          try clear hfz13_18
          try clear hfz13_19
          try clear hfz13_2
          try clear hfz13_20
          try clear hfz13_3
          try clear hfz13_4
          try clear hfz13_5
          try clear hfz13_6
          try clear hfz13_7
          try clear hfz13_8
          try clear hfz13_9
          try clear hfz15_0
          try clear hfz15_1
          try clear hfz15_10
          try clear hfz15_11
          try clear hfz15_12
          try clear hfz15_13
          try clear hfz15_14
          try clear hfz15_15
          try clear hfz15_16
          try clear hfz15_17
          try clear hfz15_18
          try clear hfz15_19
          try clear hfz15_2
          try clear hfz15_20
          try clear hfz15_3
          try clear hfz15_4
          try clear hfz15_5
          try clear hfz15_6
          try clear hfz15_7
          try clear hfz15_8
          try clear hfz15_9
          try clear hfz5_0
          try clear hfz5_1
          try clear hfz5_10
          try clear hfz5_11
          try clear hfz5_12
          try clear hfz5_13
          try clear hfz5_14
          try clear hfz5_15
          try clear hfz5_16
          try clear hfz5_17
          try clear hfz5_18
          try clear hfz5_19
          try clear hfz5_2
          try clear hfz5_20
          try clear hfz5_3
          try clear hfz5_4
          try clear hfz5_5
          try clear hfz5_6
          try clear hfz5_7
          try clear hfz5_8
          try clear hfz5_9
          try clear hfz9_0
          try clear hfz9_1
          try clear hfz9_10
          try clear hfz9_11
          try clear hfz9_12
          try clear hfz9_13
          try clear hfz9_14
          try clear hfz9_15
          try clear hfz9_16
          try clear hfz9_17
          try clear hfz9_18
          try clear hfz9_19
          try clear hfz9_2
          try clear hfz9_20
          try clear hfz9_3
          try clear hfz9_4
          try clear hfz9_5
          try clear hfz9_6
          try clear hfz9_7
          try clear hfz9_8
          try clear hfz9_9
          obtain ⟨kq, x3_10, rfl, HA, HJ10, BK124, HB⟩ := hcut
          cases kq with
          | zero => exact absurd HA.out (by simp [gatepostref09_Lifetime.j0])
          | succ kj10 =>
            have H := HA.out
            clear HA
            simp only [gatepostref09_Lifetime.j0] at H
            by_cases c16 : x3_10 < 0
            · rw [if_pos c16] at H
              have c16b0 : decide (x3_10 < 0) = true := decide_eq_true c16
              clear c16
              replace H := Option.bind_eq_some_iff.mp H
              obtain ⟨t127, A170, H⟩ := H
              replace H : ((gatepostref09_atMost.f t127 2147483648).bind fun t128 => (some t128)) = some r := H
              have A17 := Aside0.mk A170
              clear A170
              replace H := Option.bind_eq_some_iff.mp H
              obtain ⟨t128, A180, H⟩ := H
              replace H : (some t128) = some r := H
              have A18 := Aside0.mk A180
              clear A180
              obtain rfl := Option.some.inj H
              have hcz19_0 : wc.cell? ⟨gb124, 0, none⟩ = some (.int .i64 a0_0) := (blk_cell BK124.out 0).trans rfl
              have hcz19_1 : wc.cell? ⟨gb124, 1, none⟩ = some (.bool a0_1) := (blk_cell BK124.out 1).trans rfl
              have hcz19_2 : wc.cell? ⟨gb124, 2, none⟩ = some (.bool a0_2) := (blk_cell BK124.out 2).trans rfl
              have hcz19_3 : wc.cell? ⟨gb124, 3, none⟩ = some (.bool a0_3) := (blk_cell BK124.out 3).trans rfl
              have hcz19_4 : wc.cell? ⟨gb124, 4, none⟩ = some (.bool a0_4) := (blk_cell BK124.out 4).trans rfl
              have hcz19_5 : wc.cell? ⟨gb124, 5, none⟩ = some (.bool a0_5) := (blk_cell BK124.out 5).trans rfl
              have hcz19_6 : wc.cell? ⟨gb124, 6, none⟩ = some (.bool a0_6) := (blk_cell BK124.out 6).trans rfl
              have hcz19_7 : wc.cell? ⟨gb124, 7, none⟩ = some (.bool a0_7) := (blk_cell BK124.out 7).trans rfl
              have hcz19_8 : wc.cell? ⟨gb124, 8, none⟩ = some (.int .i64 a0_8) := (blk_cell BK124.out 8).trans rfl
              have hcz19_9 : wc.cell? ⟨gb124, 9, none⟩ = some (.int .i64 a0_9) := (blk_cell BK124.out 9).trans rfl
              have hcz19_10 : wc.cell? ⟨gb124, 10, none⟩ = some (.int .i64 a0_10) := (blk_cell BK124.out 10).trans rfl
              have hcz19_11 : wc.cell? ⟨gb124, 11, none⟩ = some (.int .i64 a0_11) := (blk_cell BK124.out 11).trans rfl
              have hcz19_12 : wc.cell? ⟨gb124, 12, none⟩ = some (.int .i64 a0_12) := (blk_cell BK124.out 12).trans rfl
              have hcz19_13 : wc.cell? ⟨gb124, 13, none⟩ = some (.int .i64 a0_13) := (blk_cell BK124.out 13).trans rfl
              have hcz19_14 : wc.cell? ⟨gb124, 14, none⟩ = some (.int .i64 a0_14) := (blk_cell BK124.out 14).trans rfl
              have hcz19_15 : wc.cell? ⟨gb124, 15, none⟩ = some (.int .i64 a0_15) := (blk_cell BK124.out 15).trans rfl
              have hcz19_16 : wc.cell? ⟨gb124, 16, none⟩ = some (.int .i64 a0_16) := (blk_cell BK124.out 16).trans rfl
              have hcz19_17 : wc.cell? ⟨gb124, 17, none⟩ = some (.int .i64 a0_17) := (blk_cell BK124.out 17).trans rfl
              have hcz19_18 : wc.cell? ⟨gb124, 18, none⟩ = some (.int .i64 a0_18) := (blk_cell BK124.out 18).trans rfl
              have hcz19_19 : wc.cell? ⟨gb124, 19, none⟩ = some (.int .i64 a0_19) := (blk_cell BK124.out 19).trans rfl
              have hcz19_20 : wc.cell? ⟨gb124, 20, none⟩ = some (.string a0_20) := (blk_cell BK124.out 20).trans rfl
              have hfz19_0 := blk_frozen BK124.out 0
              have hfz19_1 := blk_frozen BK124.out 1
              have hfz19_2 := blk_frozen BK124.out 2
              have hfz19_3 := blk_frozen BK124.out 3
              have hfz19_4 := blk_frozen BK124.out 4
              have hfz19_5 := blk_frozen BK124.out 5
              have hfz19_6 := blk_frozen BK124.out 6
              have hfz19_7 := blk_frozen BK124.out 7
              have hfz19_8 := blk_frozen BK124.out 8
              have hfz19_9 := blk_frozen BK124.out 9
              have hfz19_10 := blk_frozen BK124.out 10
              have hfz19_11 := blk_frozen BK124.out 11
              have hfz19_12 := blk_frozen BK124.out 12
              have hfz19_13 := blk_frozen BK124.out 13
              have hfz19_14 := blk_frozen BK124.out 14
              have hfz19_15 := blk_frozen BK124.out 15
              have hfz19_16 := blk_frozen BK124.out 16
              have hfz19_17 := blk_frozen BK124.out 17
              have hfz19_18 := blk_frozen BK124.out 18
              have hfz19_19 := blk_frozen BK124.out 19
              have hfz19_20 := blk_frozen BK124.out 20
              go_wp2_with (first | ((with_reducible refine gate_callee (f := 19) rfl ?_); refine goesL_ (some 34) rfl rfl Try.func19 (by kernel_rfl) rfl #[.int .i64 a0_15, .int .i64 0] rfl (by (try simp only [List.map_toArray, List.map_cons, List.map_nil]); first | done | rfl | (simp only [List.length_drop, List.length_take]; rfl)) ?_; (with_reducible refine (gatepostref09_less.calls kj10 a0_15 0 t127 _ A17.out).mono ?_); rintro e w' ⟨rfl, ⟨nd, rfl⟩⟩; refine ⟨_, rfl, ?_⟩) | ((with_reducible refine gate_callee (f := 21) rfl ?_); refine goesL_ (some 35) rfl rfl Try.func21 (by kernel_rfl) rfl #[.int .i64 t127, .int .i64 2147483648] rfl (by (try simp only [List.map_toArray, List.map_cons, List.map_nil]); first | done | rfl | (simp only [List.length_drop, List.length_take]; rfl)) ?_; (with_reducible refine (gatepostref09_atMost.calls t127 2147483648 t128 _ A18.out).mono ?_); rintro e w' ⟨rfl, ⟨nd, rfl⟩⟩; refine ⟨_, rfl, ?_⟩))
              go_ret
              exact ⟨by first | rfl | (simp [errW_none, errW_some] <;> rfl) | (simp [*, errW_none, errW_some] <;> rfl), by repeat (first | (with_reducible first | exact HB.out | apply below_alloc | apply pw_below_drewN | apply below_drew1 | refine below_set ?_ GE124.out) | exact HB.out)⟩
            · rw [if_neg c16] at H
              have c16b0 : decide (x3_10 < 0) = false := decide_eq_false c16
              clear c16
              replace H := Option.bind_eq_some_iff.mp H
              obtain ⟨t129, A200, H⟩ := H
              replace H : ((gatepostref09_atMost.f t129 2147483648).bind fun t130 => (some t130)) = some r := H
              have A20 := Aside0.mk A200
              clear A200
              replace H := Option.bind_eq_some_iff.mp H
              obtain ⟨t130, A210, H⟩ := H
              replace H : (some t130) = some r := H
              have A21 := Aside0.mk A210
              clear A210
              obtain rfl := Option.some.inj H
              have hcz22_0 : wc.cell? ⟨gb124, 0, none⟩ = some (.int .i64 a0_0) := (blk_cell BK124.out 0).trans rfl
              have hcz22_1 : wc.cell? ⟨gb124, 1, none⟩ = some (.bool a0_1) := (blk_cell BK124.out 1).trans rfl
              have hcz22_2 : wc.cell? ⟨gb124, 2, none⟩ = some (.bool a0_2) := (blk_cell BK124.out 2).trans rfl
              have hcz22_3 : wc.cell? ⟨gb124, 3, none⟩ = some (.bool a0_3) := (blk_cell BK124.out 3).trans rfl
              have hcz22_4 : wc.cell? ⟨gb124, 4, none⟩ = some (.bool a0_4) := (blk_cell BK124.out 4).trans rfl
              have hcz22_5 : wc.cell? ⟨gb124, 5, none⟩ = some (.bool a0_5) := (blk_cell BK124.out 5).trans rfl
              have hcz22_6 : wc.cell? ⟨gb124, 6, none⟩ = some (.bool a0_6) := (blk_cell BK124.out 6).trans rfl
              have hcz22_7 : wc.cell? ⟨gb124, 7, none⟩ = some (.bool a0_7) := (blk_cell BK124.out 7).trans rfl
              have hcz22_8 : wc.cell? ⟨gb124, 8, none⟩ = some (.int .i64 a0_8) := (blk_cell BK124.out 8).trans rfl
              have hcz22_9 : wc.cell? ⟨gb124, 9, none⟩ = some (.int .i64 a0_9) := (blk_cell BK124.out 9).trans rfl
              have hcz22_10 : wc.cell? ⟨gb124, 10, none⟩ = some (.int .i64 a0_10) := (blk_cell BK124.out 10).trans rfl
              have hcz22_11 : wc.cell? ⟨gb124, 11, none⟩ = some (.int .i64 a0_11) := (blk_cell BK124.out 11).trans rfl
              have hcz22_12 : wc.cell? ⟨gb124, 12, none⟩ = some (.int .i64 a0_12) := (blk_cell BK124.out 12).trans rfl
              have hcz22_13 : wc.cell? ⟨gb124, 13, none⟩ = some (.int .i64 a0_13) := (blk_cell BK124.out 13).trans rfl
              have hcz22_14 : wc.cell? ⟨gb124, 14, none⟩ = some (.int .i64 a0_14) := (blk_cell BK124.out 14).trans rfl
              have hcz22_15 : wc.cell? ⟨gb124, 15, none⟩ = some (.int .i64 a0_15) := (blk_cell BK124.out 15).trans rfl
              have hcz22_16 : wc.cell? ⟨gb124, 16, none⟩ = some (.int .i64 a0_16) := (blk_cell BK124.out 16).trans rfl
              have hcz22_17 : wc.cell? ⟨gb124, 17, none⟩ = some (.int .i64 a0_17) := (blk_cell BK124.out 17).trans rfl
              have hcz22_18 : wc.cell? ⟨gb124, 18, none⟩ = some (.int .i64 a0_18) := (blk_cell BK124.out 18).trans rfl
              have hcz22_19 : wc.cell? ⟨gb124, 19, none⟩ = some (.int .i64 a0_19) := (blk_cell BK124.out 19).trans rfl
              have hcz22_20 : wc.cell? ⟨gb124, 20, none⟩ = some (.string a0_20) := (blk_cell BK124.out 20).trans rfl
              have hfz22_0 := blk_frozen BK124.out 0
              have hfz22_1 := blk_frozen BK124.out 1
              have hfz22_2 := blk_frozen BK124.out 2
              have hfz22_3 := blk_frozen BK124.out 3
              have hfz22_4 := blk_frozen BK124.out 4
              have hfz22_5 := blk_frozen BK124.out 5
              have hfz22_6 := blk_frozen BK124.out 6
              have hfz22_7 := blk_frozen BK124.out 7
              have hfz22_8 := blk_frozen BK124.out 8
              have hfz22_9 := blk_frozen BK124.out 9
              have hfz22_10 := blk_frozen BK124.out 10
              have hfz22_11 := blk_frozen BK124.out 11
              have hfz22_12 := blk_frozen BK124.out 12
              have hfz22_13 := blk_frozen BK124.out 13
              have hfz22_14 := blk_frozen BK124.out 14
              have hfz22_15 := blk_frozen BK124.out 15
              have hfz22_16 := blk_frozen BK124.out 16
              have hfz22_17 := blk_frozen BK124.out 17
              have hfz22_18 := blk_frozen BK124.out 18
              have hfz22_19 := blk_frozen BK124.out 19
              have hfz22_20 := blk_frozen BK124.out 20
              go_wp2_with (first | ((with_reducible refine gate_callee (f := 19) rfl ?_); refine goesL_ (some 34) rfl rfl Try.func19 (by kernel_rfl) rfl #[.int .i64 a0_15, .int .i64 x3_10] rfl (by (try simp only [List.map_toArray, List.map_cons, List.map_nil]); first | done | rfl | (simp only [List.length_drop, List.length_take]; rfl)) ?_; (with_reducible refine (gatepostref09_less.calls kj10 a0_15 x3_10 t129 _ A20.out).mono ?_); rintro e w' ⟨rfl, ⟨nd, rfl⟩⟩; refine ⟨_, rfl, ?_⟩) | ((with_reducible refine gate_callee (f := 21) rfl ?_); refine goesL_ (some 35) rfl rfl Try.func21 (by kernel_rfl) rfl #[.int .i64 t129, .int .i64 2147483648] rfl (by (try simp only [List.map_toArray, List.map_cons, List.map_nil]); first | done | rfl | (simp only [List.length_drop, List.length_take]; rfl)) ?_; (with_reducible refine (gatepostref09_atMost.calls t129 2147483648 t130 _ A21.out).mono ?_); rintro e w' ⟨rfl, ⟨nd, rfl⟩⟩; refine ⟨_, rfl, ?_⟩))
              go_ret
              exact ⟨by first | rfl | (simp [errW_none, errW_some] <;> rfl) | (simp [*, errW_none, errW_some] <;> rfl), by repeat (first | (with_reducible first | exact HB.out | apply below_alloc | apply pw_below_drewN | apply below_drew1 | refine below_set ?_ GE124.out) | exact HB.out)⟩
      · rw [if_neg c10] at H
        have c10b0 : decide (0 ≤ a0_15) = false := decide_eq_false c10
        clear c10
        have HC23 := Aside0.mk H
        clear H
        go_enter Try.func12, Try.ntmps12
        go_upto_region 12 with (first | ((with_reducible refine gate_dst (N := 1) rfl ?_); refine box_event ?hg (N := 1) ?hd (cs := #[.int .i64 a0_0, .bool a0_1, .bool a0_2, .bool a0_3, .bool a0_4, .bool a0_5, .bool a0_6, .bool a0_7, .int .i64 a0_8, .int .i64 a0_9, .int .i64 a0_10, .int .i64 a0_11, .int .i64 a0_12, .int .i64 a0_13, .int .i64 a0_14, .int .i64 a0_15, .int .i64 a0_16, .int .i64 a0_17, .int .i64 a0_18, .int .i64 a0_19, .string a0_20]) (t := 25) ?hr ?_; (case hd => rfl); (case hg => rfl); (case hr => first | (go_simp; done) | (go_simp; rfl)); intro gb124 hg w24 hbox hb; have n0_ := Aside0.mk (below_step (by repeat (first | (with_reducible first | exact HB.out | apply below_alloc | apply pw_below_drewN | apply below_drew1) | exact HB.out)) hb); have n1_ := Aside0.mk (hbox); have n2_ := Aside0.mk ((by rw [hg]; exact (below_size (by repeat (first | (with_reducible first | exact HB.out | apply below_alloc | apply pw_below_drewN | apply below_drew1) | exact HB.out))) : w.heap.size ≤ gb124)); have n3_ := Aside0.mk ((by rw [hg]; exact (below_size (by repeat (first | (with_reducible first | exact HB.out | apply below_alloc | apply pw_below_drewN | apply below_drew1) | exact HB.out))) : w.heap.size ≤ gb124)); clear HB; have HB := n0_; have BK124 := n1_; have GW124 := n2_; have GE124 := n3_; clear n0_ n1_ n2_ n3_; clear hb hbox hg; have hcz25_0 : w24.cell? ⟨gb124, 0, none⟩ = some (.int .i64 a0_0) := (blk_cell BK124.out 0).trans rfl; have hcz25_1 : w24.cell? ⟨gb124, 1, none⟩ = some (.bool a0_1) := (blk_cell BK124.out 1).trans rfl; have hcz25_2 : w24.cell? ⟨gb124, 2, none⟩ = some (.bool a0_2) := (blk_cell BK124.out 2).trans rfl; have hcz25_3 : w24.cell? ⟨gb124, 3, none⟩ = some (.bool a0_3) := (blk_cell BK124.out 3).trans rfl; have hcz25_4 : w24.cell? ⟨gb124, 4, none⟩ = some (.bool a0_4) := (blk_cell BK124.out 4).trans rfl; have hcz25_5 : w24.cell? ⟨gb124, 5, none⟩ = some (.bool a0_5) := (blk_cell BK124.out 5).trans rfl; have hcz25_6 : w24.cell? ⟨gb124, 6, none⟩ = some (.bool a0_6) := (blk_cell BK124.out 6).trans rfl; have hcz25_7 : w24.cell? ⟨gb124, 7, none⟩ = some (.bool a0_7) := (blk_cell BK124.out 7).trans rfl; have hcz25_8 : w24.cell? ⟨gb124, 8, none⟩ = some (.int .i64 a0_8) := (blk_cell BK124.out 8).trans rfl; have hcz25_9 : w24.cell? ⟨gb124, 9, none⟩ = some (.int .i64 a0_9) := (blk_cell BK124.out 9).trans rfl; have hcz25_10 : w24.cell? ⟨gb124, 10, none⟩ = some (.int .i64 a0_10) := (blk_cell BK124.out 10).trans rfl; have hcz25_11 : w24.cell? ⟨gb124, 11, none⟩ = some (.int .i64 a0_11) := (blk_cell BK124.out 11).trans rfl; have hcz25_12 : w24.cell? ⟨gb124, 12, none⟩ = some (.int .i64 a0_12) := (blk_cell BK124.out 12).trans rfl; have hcz25_13 : w24.cell? ⟨gb124, 13, none⟩ = some (.int .i64 a0_13) := (blk_cell BK124.out 13).trans rfl; have hcz25_14 : w24.cell? ⟨gb124, 14, none⟩ = some (.int .i64 a0_14) := (blk_cell BK124.out 14).trans rfl; have hcz25_15 : w24.cell? ⟨gb124, 15, none⟩ = some (.int .i64 a0_15) := (blk_cell BK124.out 15).trans rfl; have hcz25_16 : w24.cell? ⟨gb124, 16, none⟩ = some (.int .i64 a0_16) := (blk_cell BK124.out 16).trans rfl; have hcz25_17 : w24.cell? ⟨gb124, 17, none⟩ = some (.int .i64 a0_17) := (blk_cell BK124.out 17).trans rfl; have hcz25_18 : w24.cell? ⟨gb124, 18, none⟩ = some (.int .i64 a0_18) := (blk_cell BK124.out 18).trans rfl; have hcz25_19 : w24.cell? ⟨gb124, 19, none⟩ = some (.int .i64 a0_19) := (blk_cell BK124.out 19).trans rfl; have hcz25_20 : w24.cell? ⟨gb124, 20, none⟩ = some (.string a0_20) := (blk_cell BK124.out 20).trans rfl; have hfz25_0 := blk_frozen BK124.out 0; have hfz25_1 := blk_frozen BK124.out 1; have hfz25_2 := blk_frozen BK124.out 2; have hfz25_3 := blk_frozen BK124.out 3; have hfz25_4 := blk_frozen BK124.out 4; have hfz25_5 := blk_frozen BK124.out 5; have hfz25_6 := blk_frozen BK124.out 6; have hfz25_7 := blk_frozen BK124.out 7; have hfz25_8 := blk_frozen BK124.out 8; have hfz25_9 := blk_frozen BK124.out 9; have hfz25_10 := blk_frozen BK124.out 10; have hfz25_11 := blk_frozen BK124.out 11; have hfz25_12 := blk_frozen BK124.out 12; have hfz25_13 := blk_frozen BK124.out 13; have hfz25_14 := blk_frozen BK124.out 14; have hfz25_15 := blk_frozen BK124.out 15; have hfz25_16 := blk_frozen BK124.out 16; have hfz25_17 := blk_frozen BK124.out 17; have hfz25_18 := blk_frozen BK124.out 18; have hfz25_19 := blk_frozen BK124.out 19; have hfz25_20 := blk_frozen BK124.out 20))
        (try simp only [Act.put, List.setIfInBounds_toArray, List.set_cons_zero, List.set_cons_succ])
        go_cut [48] (fun v48 wc => ∃ (kq : Nat) (x48_22 : Bool), v48 = .bool x48_22 ∧ Aside0 (gatepostref09_Lifetime.j1 kq x48_22 a0_0 a0_1 a0_2 a0_3 a0_4 a0_5 a0_6 a0_7 a0_8 a0_9 a0_10 a0_11 a0_12 a0_13 a0_14 a0_15 a0_16 a0_17 a0_18 a0_19 a0_20 = some r) ∧ Aside0 (kq ≤ k) ∧ Aside0 (wc.heap[gb124]? = some (.cells #[.int .i64 a0_0, .bool a0_1, .bool a0_2, .bool a0_3, .bool a0_4, .bool a0_5, .bool a0_6, .bool a0_7, .int .i64 a0_8, .int .i64 a0_9, .int .i64 a0_10, .int .i64 a0_11, .int .i64 a0_12, .int .i64 a0_13, .int .i64 a0_14, .int .i64 a0_15, .int .i64 a0_16, .int .i64 a0_17, .int .i64 a0_18, .int .i64 a0_19, .string a0_20] 25 (0, 0))) ∧ Aside0 (Below w.heap.size w wc))
        case first =>
          have H := HC23.out
          clear HC23
          replace H := Option.bind_eq_some_iff.mp H
          obtain ⟨t131, A260, H⟩ := H
          replace H : (if t131 = true then (if a0_16 ≥ 0 then (gatepostref09_Lifetime.j1 k (decide (a0_14 ≥ 0)) a0_0 a0_1 a0_2 a0_3 a0_4 a0_5 a0_6 a0_7 a0_8 a0_9 a0_10 a0_11 a0_12 a0_13 a0_14 a0_15 a0_16 a0_17 a0_18 a0_19 a0_20) else (gatepostref09_Lifetime.j1 k false a0_0 a0_1 a0_2 a0_3 a0_4 a0_5 a0_6 a0_7 a0_8 a0_9 a0_10 a0_11 a0_12 a0_13 a0_14 a0_15 a0_16 a0_17 a0_18 a0_19 a0_20)) else (gatepostref09_Lifetime.j1 k false a0_0 a0_1 a0_2 a0_3 a0_4 a0_5 a0_6 a0_7 a0_8 a0_9 a0_10 a0_11 a0_12 a0_13 a0_14 a0_15 a0_16 a0_17 a0_18 a0_19 a0_20)) = some r := H
          have A26 := Aside0.mk A260
          clear A260
          by_cases c27 : t131 = true
          · subst c27
            have H1 : (if a0_16 ≥ 0 then (gatepostref09_Lifetime.j1 k (decide (a0_14 ≥ 0)) a0_0 a0_1 a0_2 a0_3 a0_4 a0_5 a0_6 a0_7 a0_8 a0_9 a0_10 a0_11 a0_12 a0_13 a0_14 a0_15 a0_16 a0_17 a0_18 a0_19 a0_20) else (gatepostref09_Lifetime.j1 k false a0_0 a0_1 a0_2 a0_3 a0_4 a0_5 a0_6 a0_7 a0_8 a0_9 a0_10 a0_11 a0_12 a0_13 a0_14 a0_15 a0_16 a0_17 a0_18 a0_19 a0_20)) = some r := by rw [if_pos rfl] at H; exact H
            clear H
            have H := H1
            clear H1
            by_cases c28 : a0_16 ≥ 0
            · rw [if_pos c28] at H
              have c28b0 : decide (0 ≤ a0_16) = true := decide_eq_true c28
              clear c28
              (first | rw [c28b0] | (simp only [i64_w, i32_w]; rw [c28b0]) | skip)
              have H' := Aside0.mk H
              clear H
              have hcz29_0 : w24.cell? ⟨gb124, 0, none⟩ = some (.int .i64 a0_0) := (blk_cell BK124.out 0).trans rfl
              have hcz29_1 : w24.cell? ⟨gb124, 1, none⟩ = some (.bool a0_1) := (blk_cell BK124.out 1).trans rfl
              have hcz29_2 : w24.cell? ⟨gb124, 2, none⟩ = some (.bool a0_2) := (blk_cell BK124.out 2).trans rfl
              have hcz29_3 : w24.cell? ⟨gb124, 3, none⟩ = some (.bool a0_3) := (blk_cell BK124.out 3).trans rfl
              have hcz29_4 : w24.cell? ⟨gb124, 4, none⟩ = some (.bool a0_4) := (blk_cell BK124.out 4).trans rfl
              have hcz29_5 : w24.cell? ⟨gb124, 5, none⟩ = some (.bool a0_5) := (blk_cell BK124.out 5).trans rfl
              have hcz29_6 : w24.cell? ⟨gb124, 6, none⟩ = some (.bool a0_6) := (blk_cell BK124.out 6).trans rfl
              have hcz29_7 : w24.cell? ⟨gb124, 7, none⟩ = some (.bool a0_7) := (blk_cell BK124.out 7).trans rfl
              have hcz29_8 : w24.cell? ⟨gb124, 8, none⟩ = some (.int .i64 a0_8) := (blk_cell BK124.out 8).trans rfl
              have hcz29_9 : w24.cell? ⟨gb124, 9, none⟩ = some (.int .i64 a0_9) := (blk_cell BK124.out 9).trans rfl
              have hcz29_10 : w24.cell? ⟨gb124, 10, none⟩ = some (.int .i64 a0_10) := (blk_cell BK124.out 10).trans rfl
              have hcz29_11 : w24.cell? ⟨gb124, 11, none⟩ = some (.int .i64 a0_11) := (blk_cell BK124.out 11).trans rfl
              have hcz29_12 : w24.cell? ⟨gb124, 12, none⟩ = some (.int .i64 a0_12) := (blk_cell BK124.out 12).trans rfl
              have hcz29_13 : w24.cell? ⟨gb124, 13, none⟩ = some (.int .i64 a0_13) := (blk_cell BK124.out 13).trans rfl
              have hcz29_14 : w24.cell? ⟨gb124, 14, none⟩ = some (.int .i64 a0_14) := (blk_cell BK124.out 14).trans rfl
              have hcz29_15 : w24.cell? ⟨gb124, 15, none⟩ = some (.int .i64 a0_15) := (blk_cell BK124.out 15).trans rfl
              have hcz29_16 : w24.cell? ⟨gb124, 16, none⟩ = some (.int .i64 a0_16) := (blk_cell BK124.out 16).trans rfl
              have hcz29_17 : w24.cell? ⟨gb124, 17, none⟩ = some (.int .i64 a0_17) := (blk_cell BK124.out 17).trans rfl
              have hcz29_18 : w24.cell? ⟨gb124, 18, none⟩ = some (.int .i64 a0_18) := (blk_cell BK124.out 18).trans rfl
              have hcz29_19 : w24.cell? ⟨gb124, 19, none⟩ = some (.int .i64 a0_19) := (blk_cell BK124.out 19).trans rfl
              have hcz29_20 : w24.cell? ⟨gb124, 20, none⟩ = some (.string a0_20) := (blk_cell BK124.out 20).trans rfl
              have hfz29_0 := blk_frozen BK124.out 0
              have hfz29_1 := blk_frozen BK124.out 1
              have hfz29_2 := blk_frozen BK124.out 2
              have hfz29_3 := blk_frozen BK124.out 3
              have hfz29_4 := blk_frozen BK124.out 4
              have hfz29_5 := blk_frozen BK124.out 5
              have hfz29_6 := blk_frozen BK124.out 6
              have hfz29_7 := blk_frozen BK124.out 7
              have hfz29_8 := blk_frozen BK124.out 8
              have hfz29_9 := blk_frozen BK124.out 9
              have hfz29_10 := blk_frozen BK124.out 10
              have hfz29_11 := blk_frozen BK124.out 11
              have hfz29_12 := blk_frozen BK124.out 12
              have hfz29_13 := blk_frozen BK124.out 13
              have hfz29_14 := blk_frozen BK124.out 14
              have hfz29_15 := blk_frozen BK124.out 15
              have hfz29_16 := blk_frozen BK124.out 16
              have hfz29_17 := blk_frozen BK124.out 17
              have hfz29_18 := blk_frozen BK124.out 18
              have hfz29_19 := blk_frozen BK124.out 19
              have hfz29_20 := blk_frozen BK124.out 20
              go_wp2_with (first | ((with_reducible refine gate_callee (f := 15) rfl ?_); refine goesL_ (some 38) rfl rfl Try.func15 (by kernel_rfl) rfl #[.int .i64 a0_0] rfl (by (try simp only [List.map_toArray, List.map_cons, List.map_nil]); first | done | rfl | (simp only [List.length_drop, List.length_take]; rfl)) ?_; (with_reducible refine (gatepostref09_Heuristic.calls a0_0 true _ A26.out).mono ?_); rintro e w' ⟨rfl, ⟨nd, rfl⟩⟩; refine ⟨_, rfl, ?_⟩))
              go_meet
              case rel => exact ⟨_, (decide (a0_14 ≥ 0)), (by first | rfl | (simp; done) | exact ret_ne _ | (simp [*]; done)), H', ⟨by first | omega | exact Nat.le_refl _⟩, ⟨by (with_reducible repeat (first | refine blk_drewN ?_ _ | refine blk_drew ?_ | refine blk_alloc ?_ _)); exact BK124.out⟩, ⟨by repeat (first | (with_reducible first | exact HB.out | apply below_alloc | apply pw_below_drewN | apply below_drew1 | refine below_set ?_ GE124.out) | exact HB.out)⟩⟩
            · rw [if_neg c28] at H
              have c28b0 : decide (0 ≤ a0_16) = false := decide_eq_false c28
              clear c28
              (first | rw [c28b0] | (simp only [i64_w, i32_w]; rw [c28b0]) | skip)
              have H' := Aside0.mk H
              clear H
              have hcz30_0 : w24.cell? ⟨gb124, 0, none⟩ = some (.int .i64 a0_0) := (blk_cell BK124.out 0).trans rfl
              have hcz30_1 : w24.cell? ⟨gb124, 1, none⟩ = some (.bool a0_1) := (blk_cell BK124.out 1).trans rfl
              have hcz30_2 : w24.cell? ⟨gb124, 2, none⟩ = some (.bool a0_2) := (blk_cell BK124.out 2).trans rfl
              have hcz30_3 : w24.cell? ⟨gb124, 3, none⟩ = some (.bool a0_3) := (blk_cell BK124.out 3).trans rfl
              have hcz30_4 : w24.cell? ⟨gb124, 4, none⟩ = some (.bool a0_4) := (blk_cell BK124.out 4).trans rfl
              have hcz30_5 : w24.cell? ⟨gb124, 5, none⟩ = some (.bool a0_5) := (blk_cell BK124.out 5).trans rfl
              have hcz30_6 : w24.cell? ⟨gb124, 6, none⟩ = some (.bool a0_6) := (blk_cell BK124.out 6).trans rfl
              have hcz30_7 : w24.cell? ⟨gb124, 7, none⟩ = some (.bool a0_7) := (blk_cell BK124.out 7).trans rfl
              have hcz30_8 : w24.cell? ⟨gb124, 8, none⟩ = some (.int .i64 a0_8) := (blk_cell BK124.out 8).trans rfl
              have hcz30_9 : w24.cell? ⟨gb124, 9, none⟩ = some (.int .i64 a0_9) := (blk_cell BK124.out 9).trans rfl
              have hcz30_10 : w24.cell? ⟨gb124, 10, none⟩ = some (.int .i64 a0_10) := (blk_cell BK124.out 10).trans rfl
              have hcz30_11 : w24.cell? ⟨gb124, 11, none⟩ = some (.int .i64 a0_11) := (blk_cell BK124.out 11).trans rfl
              have hcz30_12 : w24.cell? ⟨gb124, 12, none⟩ = some (.int .i64 a0_12) := (blk_cell BK124.out 12).trans rfl
              have hcz30_13 : w24.cell? ⟨gb124, 13, none⟩ = some (.int .i64 a0_13) := (blk_cell BK124.out 13).trans rfl
              have hcz30_14 : w24.cell? ⟨gb124, 14, none⟩ = some (.int .i64 a0_14) := (blk_cell BK124.out 14).trans rfl
              have hcz30_15 : w24.cell? ⟨gb124, 15, none⟩ = some (.int .i64 a0_15) := (blk_cell BK124.out 15).trans rfl
              have hcz30_16 : w24.cell? ⟨gb124, 16, none⟩ = some (.int .i64 a0_16) := (blk_cell BK124.out 16).trans rfl
              have hcz30_17 : w24.cell? ⟨gb124, 17, none⟩ = some (.int .i64 a0_17) := (blk_cell BK124.out 17).trans rfl
              have hcz30_18 : w24.cell? ⟨gb124, 18, none⟩ = some (.int .i64 a0_18) := (blk_cell BK124.out 18).trans rfl
              have hcz30_19 : w24.cell? ⟨gb124, 19, none⟩ = some (.int .i64 a0_19) := (blk_cell BK124.out 19).trans rfl
              have hcz30_20 : w24.cell? ⟨gb124, 20, none⟩ = some (.string a0_20) := (blk_cell BK124.out 20).trans rfl
              have hfz30_0 := blk_frozen BK124.out 0
              have hfz30_1 := blk_frozen BK124.out 1
              have hfz30_2 := blk_frozen BK124.out 2
              have hfz30_3 := blk_frozen BK124.out 3
              have hfz30_4 := blk_frozen BK124.out 4
              have hfz30_5 := blk_frozen BK124.out 5
              have hfz30_6 := blk_frozen BK124.out 6
              have hfz30_7 := blk_frozen BK124.out 7
              have hfz30_8 := blk_frozen BK124.out 8
              have hfz30_9 := blk_frozen BK124.out 9
              have hfz30_10 := blk_frozen BK124.out 10
              have hfz30_11 := blk_frozen BK124.out 11
              have hfz30_12 := blk_frozen BK124.out 12
              have hfz30_13 := blk_frozen BK124.out 13
              have hfz30_14 := blk_frozen BK124.out 14
              have hfz30_15 := blk_frozen BK124.out 15
              have hfz30_16 := blk_frozen BK124.out 16
              have hfz30_17 := blk_frozen BK124.out 17
              have hfz30_18 := blk_frozen BK124.out 18
              have hfz30_19 := blk_frozen BK124.out 19
              have hfz30_20 := blk_frozen BK124.out 20
              go_wp2_with (first | ((with_reducible refine gate_callee (f := 15) rfl ?_); refine goesL_ (some 38) rfl rfl Try.func15 (by kernel_rfl) rfl #[.int .i64 a0_0] rfl (by (try simp only [List.map_toArray, List.map_cons, List.map_nil]); first | done | rfl | (simp only [List.length_drop, List.length_take]; rfl)) ?_; (with_reducible refine (gatepostref09_Heuristic.calls a0_0 true _ A26.out).mono ?_); rintro e w' ⟨rfl, ⟨nd, rfl⟩⟩; refine ⟨_, rfl, ?_⟩))
              go_meet
              case rel => exact ⟨_, (false), (by first | rfl | (simp; done) | exact ret_ne _ | (simp [*]; done)), H', ⟨by first | omega | exact Nat.le_refl _⟩, ⟨by (with_reducible repeat (first | refine blk_drewN ?_ _ | refine blk_drew ?_ | refine blk_alloc ?_ _)); exact BK124.out⟩, ⟨by repeat (first | (with_reducible first | exact HB.out | apply below_alloc | apply pw_below_drewN | apply below_drew1 | refine below_set ?_ GE124.out) | exact HB.out)⟩⟩
          · replace c27 := Bool.eq_false_iff.mpr c27
            subst c27
            have H1 : (gatepostref09_Lifetime.j1 k false a0_0 a0_1 a0_2 a0_3 a0_4 a0_5 a0_6 a0_7 a0_8 a0_9 a0_10 a0_11 a0_12 a0_13 a0_14 a0_15 a0_16 a0_17 a0_18 a0_19 a0_20) = some r := by rw [if_neg (show ¬ (false = true) by decide)] at H; exact H
            clear H
            have H := H1
            clear H1
            have H' := Aside0.mk H
            clear H
            have hcz31_0 : w24.cell? ⟨gb124, 0, none⟩ = some (.int .i64 a0_0) := (blk_cell BK124.out 0).trans rfl
            have hcz31_1 : w24.cell? ⟨gb124, 1, none⟩ = some (.bool a0_1) := (blk_cell BK124.out 1).trans rfl
            have hcz31_2 : w24.cell? ⟨gb124, 2, none⟩ = some (.bool a0_2) := (blk_cell BK124.out 2).trans rfl
            have hcz31_3 : w24.cell? ⟨gb124, 3, none⟩ = some (.bool a0_3) := (blk_cell BK124.out 3).trans rfl
            have hcz31_4 : w24.cell? ⟨gb124, 4, none⟩ = some (.bool a0_4) := (blk_cell BK124.out 4).trans rfl
            have hcz31_5 : w24.cell? ⟨gb124, 5, none⟩ = some (.bool a0_5) := (blk_cell BK124.out 5).trans rfl
            have hcz31_6 : w24.cell? ⟨gb124, 6, none⟩ = some (.bool a0_6) := (blk_cell BK124.out 6).trans rfl
            have hcz31_7 : w24.cell? ⟨gb124, 7, none⟩ = some (.bool a0_7) := (blk_cell BK124.out 7).trans rfl
            have hcz31_8 : w24.cell? ⟨gb124, 8, none⟩ = some (.int .i64 a0_8) := (blk_cell BK124.out 8).trans rfl
            have hcz31_9 : w24.cell? ⟨gb124, 9, none⟩ = some (.int .i64 a0_9) := (blk_cell BK124.out 9).trans rfl
            have hcz31_10 : w24.cell? ⟨gb124, 10, none⟩ = some (.int .i64 a0_10) := (blk_cell BK124.out 10).trans rfl
            have hcz31_11 : w24.cell? ⟨gb124, 11, none⟩ = some (.int .i64 a0_11) := (blk_cell BK124.out 11).trans rfl
            have hcz31_12 : w24.cell? ⟨gb124, 12, none⟩ = some (.int .i64 a0_12) := (blk_cell BK124.out 12).trans rfl
            have hcz31_13 : w24.cell? ⟨gb124, 13, none⟩ = some (.int .i64 a0_13) := (blk_cell BK124.out 13).trans rfl
            have hcz31_14 : w24.cell? ⟨gb124, 14, none⟩ = some (.int .i64 a0_14) := (blk_cell BK124.out 14).trans rfl
            have hcz31_15 : w24.cell? ⟨gb124, 15, none⟩ = some (.int .i64 a0_15) := (blk_cell BK124.out 15).trans rfl
            have hcz31_16 : w24.cell? ⟨gb124, 16, none⟩ = some (.int .i64 a0_16) := (blk_cell BK124.out 16).trans rfl
            have hcz31_17 : w24.cell? ⟨gb124, 17, none⟩ = some (.int .i64 a0_17) := (blk_cell BK124.out 17).trans rfl
            have hcz31_18 : w24.cell? ⟨gb124, 18, none⟩ = some (.int .i64 a0_18) := (blk_cell BK124.out 18).trans rfl
            have hcz31_19 : w24.cell? ⟨gb124, 19, none⟩ = some (.int .i64 a0_19) := (blk_cell BK124.out 19).trans rfl
            have hcz31_20 : w24.cell? ⟨gb124, 20, none⟩ = some (.string a0_20) := (blk_cell BK124.out 20).trans rfl
            have hfz31_0 := blk_frozen BK124.out 0
            have hfz31_1 := blk_frozen BK124.out 1
            have hfz31_2 := blk_frozen BK124.out 2
            have hfz31_3 := blk_frozen BK124.out 3
            have hfz31_4 := blk_frozen BK124.out 4
            have hfz31_5 := blk_frozen BK124.out 5
            have hfz31_6 := blk_frozen BK124.out 6
            have hfz31_7 := blk_frozen BK124.out 7
            have hfz31_8 := blk_frozen BK124.out 8
            have hfz31_9 := blk_frozen BK124.out 9
            have hfz31_10 := blk_frozen BK124.out 10
            have hfz31_11 := blk_frozen BK124.out 11
            have hfz31_12 := blk_frozen BK124.out 12
            have hfz31_13 := blk_frozen BK124.out 13
            have hfz31_14 := blk_frozen BK124.out 14
            have hfz31_15 := blk_frozen BK124.out 15
            have hfz31_16 := blk_frozen BK124.out 16
            have hfz31_17 := blk_frozen BK124.out 17
            have hfz31_18 := blk_frozen BK124.out 18
            have hfz31_19 := blk_frozen BK124.out 19
            have hfz31_20 := blk_frozen BK124.out 20
            go_wp2_with (first | ((with_reducible refine gate_callee (f := 15) rfl ?_); refine goesL_ (some 38) rfl rfl Try.func15 (by kernel_rfl) rfl #[.int .i64 a0_0] rfl (by (try simp only [List.map_toArray, List.map_cons, List.map_nil]); first | done | rfl | (simp only [List.length_drop, List.length_take]; rfl)) ?_; (with_reducible refine (gatepostref09_Heuristic.calls a0_0 false _ A26.out).mono ?_); rintro e w' ⟨rfl, ⟨nd, rfl⟩⟩; refine ⟨_, rfl, ?_⟩))
            go_meet
            case rel => exact ⟨_, (false), (by first | rfl | (simp; done) | exact ret_ne _ | (simp [*]; done)), H', ⟨by first | omega | exact Nat.le_refl _⟩, ⟨by (with_reducible repeat (first | refine blk_drewN ?_ _ | refine blk_drew ?_ | refine blk_alloc ?_ _)); exact BK124.out⟩, ⟨by repeat (first | (with_reducible first | exact HB.out | apply below_alloc | apply pw_below_drewN | apply below_drew1 | refine below_set ?_ GE124.out) | exact HB.out)⟩⟩
        case rest =>
          clear HC23
          try clear c1
          try clear c2
          try clear c2b0
          try clear p2
          try clear c6
          try clear c6b0
          try clear c10
          try clear c10b0
          try clear c12
          try clear c14
          try clear c14b0
          try clear c15
          try clear c16
          try clear c16b0
          try clear c19
          try clear c21
          try clear c27
          try clear c28
          try clear c28b0
          try clear hcz13_0
          try clear hcz13_1
          try clear hcz13_10
          try clear hcz13_11
          try clear hcz13_12
          try clear hcz13_13
          try clear hcz13_14
          try clear hcz13_15
          try clear hcz13_16
          try clear hcz13_17
          try clear hcz13_18
          try clear hcz13_19
          try clear hcz13_2
          try clear hcz13_20
          try clear hcz13_3
          try clear hcz13_4
          try clear hcz13_5
          try clear hcz13_6
          try clear hcz13_7
          try clear hcz13_8
          try clear hcz13_9
          try clear hcz15_0
          try clear hcz15_1
          try clear hcz15_10
          try clear hcz15_11
          try clear hcz15_12
          try clear hcz15_13
          try clear hcz15_14
          try clear hcz15_15
          try clear hcz15_16
          try clear hcz15_17
          try clear hcz15_18
          try clear hcz15_19
          try clear hcz15_2
          try clear hcz15_20
          try clear hcz15_3
          try clear hcz15_4
          try clear hcz15_5
          try clear hcz15_6
          try clear hcz15_7
          try clear hcz15_8
          try clear hcz15_9
          try clear hcz19_0
          try clear hcz19_1
          try clear hcz19_10
          try clear hcz19_11
          try clear hcz19_12
          try clear hcz19_13
          try clear hcz19_14
          try clear hcz19_15
          try clear hcz19_16
          try clear hcz19_17
          try clear hcz19_18
          try clear hcz19_19
          try clear hcz19_2
          try clear hcz19_20
          try clear hcz19_3
          try clear hcz19_4
          try clear hcz19_5
          try clear hcz19_6
          try clear hcz19_7
          try clear hcz19_8
          try clear hcz19_9
          try clear hcz22_0
          try clear hcz22_1
          try clear hcz22_10
          try clear hcz22_11
          try clear hcz22_12
          try clear hcz22_13
          try clear hcz22_14
          try clear hcz22_15
          try clear hcz22_16
          try clear hcz22_17
          try clear hcz22_18
          try clear hcz22_19
          try clear hcz22_2
          try clear hcz22_20
          try clear hcz22_3
          try clear hcz22_4
          try clear hcz22_5
          try clear hcz22_6
          try clear hcz22_7
          try clear hcz22_8
          try clear hcz22_9
          try clear hcz25_0
          try clear hcz25_1
          try clear hcz25_10
          try clear hcz25_11
          try clear hcz25_12
          try clear hcz25_13
          try clear hcz25_14
          try clear hcz25_15
          try clear hcz25_16
          try clear hcz25_17
          try clear hcz25_18
          try clear hcz25_19
          try clear hcz25_2
          try clear hcz25_20
          try clear hcz25_3
          try clear hcz25_4
          try clear hcz25_5
          try clear hcz25_6
          try clear hcz25_7
          try clear hcz25_8
          try clear hcz25_9
          try clear hcz29_0
          try clear hcz29_1
          try clear hcz29_10
          try clear hcz29_11
          try clear hcz29_12
          try clear hcz29_13
          try clear hcz29_14
          try clear hcz29_15
          try clear hcz29_16
          try clear hcz29_17
          try clear hcz29_18
          try clear hcz29_19
          try clear hcz29_2
          try clear hcz29_20
          try clear hcz29_3
          try clear hcz29_4
          try clear hcz29_5
          try clear hcz29_6
          try clear hcz29_7
          try clear hcz29_8
          try clear hcz29_9
          try clear hcz30_0
          try clear hcz30_1
          try clear hcz30_10
          try clear hcz30_11
          try clear hcz30_12
          try clear hcz30_13
          try clear hcz30_14
          try clear hcz30_15
          try clear hcz30_16
          try clear hcz30_17
          try clear hcz30_18
          try clear hcz30_19
          try clear hcz30_2
          try clear hcz30_20
          try clear hcz30_3
          try clear hcz30_4
          try clear hcz30_5
          try clear hcz30_6
          try clear hcz30_7
          try clear hcz30_8
          try clear hcz30_9
          try clear hcz31_0
          try clear hcz31_1
          try clear hcz31_10
          try clear hcz31_11
          try clear hcz31_12
          try clear hcz31_13
          try clear hcz31_14
          try clear hcz31_15
          try clear hcz31_16
          try clear hcz31_17
          try clear hcz31_18
          try clear hcz31_19
          try clear hcz31_2
          try clear hcz31_20
          try clear hcz31_3
          try clear hcz31_4
          try clear hcz31_5
          try clear hcz31_6
          try clear hcz31_7
          try clear hcz31_8
          try clear hcz31_9
          try clear hcz5_0
          try clear hcz5_1
          try clear hcz5_10
          try clear hcz5_11
          try clear hcz5_12
          try clear hcz5_13
          try clear hcz5_14
          try clear hcz5_15
          try clear hcz5_16
          try clear hcz5_17
          try clear hcz5_18
          try clear hcz5_19
          try clear hcz5_2
          try clear hcz5_20
          try clear hcz5_3
          try clear hcz5_4
          try clear hcz5_5
          try clear hcz5_6
          try clear hcz5_7
          try clear hcz5_8
          try clear hcz5_9
          try clear hcz9_0
          try clear hcz9_1
          try clear hcz9_10
          try clear hcz9_11
          try clear hcz9_12
          try clear hcz9_13
          try clear hcz9_14
          try clear hcz9_15
          try clear hcz9_16
          try clear hcz9_17
          try clear hcz9_18
          try clear hcz9_19
          try clear hcz9_2
          try clear hcz9_20
          try clear hcz9_3
          try clear hcz9_4
          try clear hcz9_5
          try clear hcz9_6
          try clear hcz9_7
          try clear hcz9_8
          try clear hcz9_9
          try clear hfz13_0
          try clear hfz13_1
          try clear hfz13_10
          try clear hfz13_11
          try clear hfz13_12
          try clear hfz13_13
          try clear hfz13_14
          try clear hfz13_15
          try clear hfz13_16
          try clear hfz13_17
          try clear hfz13_18
          try clear hfz13_19
          try clear hfz13_2
          try clear hfz13_20
          try clear hfz13_3
          try clear hfz13_4
          try clear hfz13_5
          try clear hfz13_6
          try clear hfz13_7
          try clear hfz13_8
          try clear hfz13_9
          try clear hfz15_0
          try clear hfz15_1
          try clear hfz15_10
          try clear hfz15_11
          try clear hfz15_12
          try clear hfz15_13
          try clear hfz15_14
          try clear hfz15_15
          try clear hfz15_16
          try clear hfz15_17
          try clear hfz15_18
          try clear hfz15_19
          try clear hfz15_2
          try clear hfz15_20
          try clear hfz15_3
          try clear hfz15_4
          try clear hfz15_5
          try clear hfz15_6
          try clear hfz15_7
          try clear hfz15_8
          try clear hfz15_9
          try clear hfz19_0
          try clear hfz19_1
          try clear hfz19_10
          try clear hfz19_11
          try clear hfz19_12
          try clear hfz19_13
          try clear hfz19_14
          try clear hfz19_15
          try clear hfz19_16
          try clear hfz19_17
          try clear hfz19_18
          try clear hfz19_19
          try clear hfz19_2
          try clear hfz19_20
          try clear hfz19_3
          try clear hfz19_4
          try clear hfz19_5
          try clear hfz19_6
          try clear hfz19_7
          try clear hfz19_8
          try clear hfz19_9
          try clear hfz22_0
          try clear hfz22_1
          try clear hfz22_10
          try clear hfz22_11
          try clear hfz22_12
          try clear hfz22_13
          try clear hfz22_14
          try clear hfz22_15
          try clear hfz22_16
          try clear hfz22_17
          try clear hfz22_18
          try clear hfz22_19
          try clear hfz22_2
          try clear hfz22_20
          try clear hfz22_3
          try clear hfz22_4
          try clear hfz22_5
          try clear hfz22_6
          try clear hfz22_7
          try clear hfz22_8
          try clear hfz22_9
          try clear hfz25_0
          try clear hfz25_1
          try clear hfz25_10
          try clear hfz25_11
          try clear hfz25_12
          try clear hfz25_13
          try clear hfz25_14
          try clear hfz25_15
          try clear hfz25_16
          try clear hfz25_17
          try clear hfz25_18
          try clear hfz25_19
          try clear hfz25_2
          try clear hfz25_20
          try clear hfz25_3
          try clear hfz25_4
          try clear hfz25_5
          try clear hfz25_6
          try clear hfz25_7
          try clear hfz25_8
          try clear hfz25_9
          try clear hfz29_0
          try clear hfz29_1
          try clear hfz29_10
          try clear hfz29_11
          try clear hfz29_12
          try clear hfz29_13
          try clear hfz29_14
          try clear hfz29_15
          try clear hfz29_16
          try clear hfz29_17
          try clear hfz29_18
          try clear hfz29_19
          try clear hfz29_2
          try clear hfz29_20
          try clear hfz29_3
          try clear hfz29_4
          try clear hfz29_5
          try clear hfz29_6
          try clear hfz29_7
          try clear hfz29_8
          try clear hfz29_9
          try clear hfz30_0
          try clear hfz30_1
          try clear hfz30_10
          try clear hfz30_11
          try clear hfz30_12
          try clear hfz30_13
          try clear hfz30_14
          try clear hfz30_15
          try clear hfz30_16
          try clear hfz30_17
          try clear hfz30_18
          try clear hfz30_19
          try clear hfz30_2
          try clear hfz30_20
          try clear hfz30_3
          try clear hfz30_4
          try clear hfz30_5
          try clear hfz30_6
          try clear hfz30_7
          try clear hfz30_8
          try clear hfz30_9
          try clear hfz31_0
          try clear hfz31_1
          try clear hfz31_10
          try clear hfz31_11
          try clear hfz31_12
          try clear hfz31_13
          try clear hfz31_14
          try clear hfz31_15
          try clear hfz31_16
          try clear hfz31_17
          try clear hfz31_18
          try clear hfz31_19
          try clear hfz31_2
          try clear hfz31_20
          try clear hfz31_3
          try clear hfz31_4
          try clear hfz31_5
          try clear hfz31_6
          try clear hfz31_7
          try clear hfz31_8
          try clear hfz31_9
          try clear hfz5_0
          try clear hfz5_1
          try clear hfz5_10
          try clear hfz5_11
          try clear hfz5_12
          try clear hfz5_13
          try clear hfz5_14
          try clear hfz5_15
          try clear hfz5_16
          try clear hfz5_17
          try clear hfz5_18
          try clear hfz5_19
          try clear hfz5_2
          try clear hfz5_20
          try clear hfz5_3
          try clear hfz5_4
          try clear hfz5_5
          try clear hfz5_6
          try clear hfz5_7
          try clear hfz5_8
          try clear hfz5_9
          try clear hfz9_0
          try clear hfz9_1
          try clear hfz9_10
          try clear hfz9_11
          try clear hfz9_12
          try clear hfz9_13
          try clear hfz9_14
          try clear hfz9_15
          try clear hfz9_16
          try clear hfz9_17
          try clear hfz9_18
          try clear hfz9_19
          try clear hfz9_2
          try clear hfz9_20
          try clear hfz9_3
          try clear hfz9_4
          try clear hfz9_5
          try clear hfz9_6
          try clear hfz9_7
          try clear hfz9_8
          try clear hfz9_9
          try clear p2
          obtain ⟨kq, x48_22, rfl, HA, HJ22, BK124, HB⟩ := hcut
          cases kq with
          | zero => exact absurd HA.out (by simp [gatepostref09_Lifetime.j1])
          | succ kj22 =>
            have H := HA.out
            clear HA
            simp only [gatepostref09_Lifetime.j1] at H
            by_cases c32 : x48_22 = true
            · subst c32
              have H1 : ((gatepostref09_less.f kj22 a0_14 a0_16).bind fun t132 => ((gatepostref09_atMost.f (wrap64 (Int.tdiv t132 10)) 86400).bind fun t133 => (some t133))) = some r := by rw [if_pos rfl] at H; exact H
              clear H
              have H := H1
              clear H1
              replace H := Option.bind_eq_some_iff.mp H
              obtain ⟨t132, A330, H⟩ := H
              replace H : ((gatepostref09_atMost.f (wrap64 (Int.tdiv t132 10)) 86400).bind fun t133 => (some t133)) = some r := H
              have A33 := Aside0.mk A330
              clear A330
              replace H := Option.bind_eq_some_iff.mp H
              obtain ⟨t133, A340, H⟩ := H
              replace H : (some t133) = some r := H
              have A34 := Aside0.mk A340
              clear A340
              obtain rfl := Option.some.inj H
              have hcz35_0 : wc.cell? ⟨gb124, 0, none⟩ = some (.int .i64 a0_0) := (blk_cell BK124.out 0).trans rfl
              have hcz35_1 : wc.cell? ⟨gb124, 1, none⟩ = some (.bool a0_1) := (blk_cell BK124.out 1).trans rfl
              have hcz35_2 : wc.cell? ⟨gb124, 2, none⟩ = some (.bool a0_2) := (blk_cell BK124.out 2).trans rfl
              have hcz35_3 : wc.cell? ⟨gb124, 3, none⟩ = some (.bool a0_3) := (blk_cell BK124.out 3).trans rfl
              have hcz35_4 : wc.cell? ⟨gb124, 4, none⟩ = some (.bool a0_4) := (blk_cell BK124.out 4).trans rfl
              have hcz35_5 : wc.cell? ⟨gb124, 5, none⟩ = some (.bool a0_5) := (blk_cell BK124.out 5).trans rfl
              have hcz35_6 : wc.cell? ⟨gb124, 6, none⟩ = some (.bool a0_6) := (blk_cell BK124.out 6).trans rfl
              have hcz35_7 : wc.cell? ⟨gb124, 7, none⟩ = some (.bool a0_7) := (blk_cell BK124.out 7).trans rfl
              have hcz35_8 : wc.cell? ⟨gb124, 8, none⟩ = some (.int .i64 a0_8) := (blk_cell BK124.out 8).trans rfl
              have hcz35_9 : wc.cell? ⟨gb124, 9, none⟩ = some (.int .i64 a0_9) := (blk_cell BK124.out 9).trans rfl
              have hcz35_10 : wc.cell? ⟨gb124, 10, none⟩ = some (.int .i64 a0_10) := (blk_cell BK124.out 10).trans rfl
              have hcz35_11 : wc.cell? ⟨gb124, 11, none⟩ = some (.int .i64 a0_11) := (blk_cell BK124.out 11).trans rfl
              have hcz35_12 : wc.cell? ⟨gb124, 12, none⟩ = some (.int .i64 a0_12) := (blk_cell BK124.out 12).trans rfl
              have hcz35_13 : wc.cell? ⟨gb124, 13, none⟩ = some (.int .i64 a0_13) := (blk_cell BK124.out 13).trans rfl
              have hcz35_14 : wc.cell? ⟨gb124, 14, none⟩ = some (.int .i64 a0_14) := (blk_cell BK124.out 14).trans rfl
              have hcz35_15 : wc.cell? ⟨gb124, 15, none⟩ = some (.int .i64 a0_15) := (blk_cell BK124.out 15).trans rfl
              have hcz35_16 : wc.cell? ⟨gb124, 16, none⟩ = some (.int .i64 a0_16) := (blk_cell BK124.out 16).trans rfl
              have hcz35_17 : wc.cell? ⟨gb124, 17, none⟩ = some (.int .i64 a0_17) := (blk_cell BK124.out 17).trans rfl
              have hcz35_18 : wc.cell? ⟨gb124, 18, none⟩ = some (.int .i64 a0_18) := (blk_cell BK124.out 18).trans rfl
              have hcz35_19 : wc.cell? ⟨gb124, 19, none⟩ = some (.int .i64 a0_19) := (blk_cell BK124.out 19).trans rfl
              have hcz35_20 : wc.cell? ⟨gb124, 20, none⟩ = some (.string a0_20) := (blk_cell BK124.out 20).trans rfl
              have hfz35_0 := blk_frozen BK124.out 0
              have hfz35_1 := blk_frozen BK124.out 1
              have hfz35_2 := blk_frozen BK124.out 2
              have hfz35_3 := blk_frozen BK124.out 3
              have hfz35_4 := blk_frozen BK124.out 4
              have hfz35_5 := blk_frozen BK124.out 5
              have hfz35_6 := blk_frozen BK124.out 6
              have hfz35_7 := blk_frozen BK124.out 7
              have hfz35_8 := blk_frozen BK124.out 8
              have hfz35_9 := blk_frozen BK124.out 9
              have hfz35_10 := blk_frozen BK124.out 10
              have hfz35_11 := blk_frozen BK124.out 11
              have hfz35_12 := blk_frozen BK124.out 12
              have hfz35_13 := blk_frozen BK124.out 13
              have hfz35_14 := blk_frozen BK124.out 14
              have hfz35_15 := blk_frozen BK124.out 15
              have hfz35_16 := blk_frozen BK124.out 16
              have hfz35_17 := blk_frozen BK124.out 17
              have hfz35_18 := blk_frozen BK124.out 18
              have hfz35_19 := blk_frozen BK124.out 19
              have hfz35_20 := blk_frozen BK124.out 20
              go_wp2_with (first | ((with_reducible refine gate_callee (f := 19) rfl ?_); refine goesL_ (some 53) rfl rfl Try.func19 (by kernel_rfl) rfl #[.int .i64 a0_14, .int .i64 a0_16] rfl (by (try simp only [List.map_toArray, List.map_cons, List.map_nil]); first | done | rfl | (simp only [List.length_drop, List.length_take]; rfl)) ?_; (with_reducible refine (gatepostref09_less.calls kj22 a0_14 a0_16 t132 _ A33.out).mono ?_); rintro e w' ⟨rfl, ⟨nd, rfl⟩⟩; refine ⟨_, rfl, ?_⟩) | ((with_reducible refine gate_callee (f := 21) rfl ?_); refine goesL_ (some 55) rfl rfl Try.func21 (by kernel_rfl) rfl #[.int .i64 (wrap64 (Int.tdiv t132 10)), .int .i64 86400] rfl (by (try simp only [List.map_toArray, List.map_cons, List.map_nil]); first | done | rfl | (simp only [List.length_drop, List.length_take]; rfl)) ?_; (with_reducible refine (gatepostref09_atMost.calls (wrap64 (Int.tdiv t132 10)) 86400 t133 _ A34.out).mono ?_); rintro e w' ⟨rfl, ⟨nd, rfl⟩⟩; refine ⟨_, rfl, ?_⟩))
              go_ret
              exact ⟨by first | rfl | (simp [errW_none, errW_some] <;> rfl) | (simp [*, errW_none, errW_some] <;> rfl), by repeat (first | (with_reducible first | exact HB.out | apply below_alloc | apply pw_below_drewN | apply below_drew1 | refine below_set ?_ GE124.out) | exact HB.out)⟩
            · replace c32 := Bool.eq_false_iff.mpr c32
              subst c32
              have H1 : (some 0) = some r := by rw [if_neg (show ¬ (false = true) by decide)] at H; exact H
              clear H
              have H := H1
              clear H1
              obtain rfl := Option.some.inj H
              go_wp2
              go_ret
              exact ⟨by first | rfl | (simp [errW_none, errW_some] <;> rfl) | (simp [*, errW_none, errW_some] <;> rfl), by repeat (first | (with_reducible first | exact HB.out | apply below_alloc | apply pw_below_drewN | apply below_drew1 | refine below_set ?_ GE124.out) | exact HB.out)⟩

end Go.Proofs.Ytebjbkbjmdnblaa.Hp
