/- A text written by our program hprint.py (walks of the program, and the row of a law whose plain law is proved beside it). Lean checks it. -/
import Derived.Test.YtebjbkbjmdnblaaHp0
import Derived.Test.YtebjbkbjmdnblaaHp1
import Derived.Test.YtebjbkbjmdnblaaHp2
import Derived.Test.YtebjbkbjmdnblaaHp5
import Derived.Test.YtebjbkbjmdnblaaHMore
namespace Go.Proofs.Ytebjbkbjmdnblaa.Hp
open Go.RowKit Go.Proofs.YtebjbkbjmdnblaaW.PrintWords Go.Proofs.YtebjbkbjmdnblaaW.PrintLast Go.Proofs.YtebjbkbjmdnblaaW.PrintMore
attribute [local go_sem] max2_int min2_int max_two min_two max_three min_three max_four min_four   -- for this text's walks alone
set_option linter.unusedVariables false
set_option linter.unusedSimpArgs false

/-! ### fresh_State: function 13 -/
def fresh_State.j0 : Nat → Int → Int → Bool → Int → Bool → Bool → Bool → Bool → Bool → Bool → Bool → Int → Int → Int → Int → Int → Int → Int → Int → Int → Int → Int → Int → ByteArray → Bool → Bool → Bool → Bool → Bool → Bool → Bool → Int → Int → Int → Int → Int → Int → Option (Int)
  | 0, _, _, _, _, _, _, _, _, _, _, _, _, _, _, _, _, _, _, _, _, _, _, _, _, _, _, _, _, _, _, _, _, _, _, _, _, _ => none
  | k + 1, x7, x8, x14, x137000, x137001, x137002, x137003, x137004, x137005, x137006, x137007, x137008, x137009, x137010, x137011, x137012, x137013, x137014, x137015, x137016, x137017, x137018, x137019, x137020, x138000, x138001, x138002, x138003, x138004, x138005, x138006, x138007, x138008, x138009, x138010, x138011, x138012 => if x14 = true then (some 2) else (if x7 ≥ x8 then ((fresh_late.f k x137001 x137002 x137003 x137004 x137005 x137006 x137007 x137008 x137009 x137010 x137011 x137012 x137013 x138000 x138001 x138002 x138003 x138004 x138005 x138006 x138007 x138008 x138009 x138010 x138011 x138012 (wrap64 (x7 - x8))).bind fun t140 => (some t140)) else (if x138011 > (wrap64 (x8 - x7)) then (some 2) else (some 0)))
def fresh_State.f (k : Nat) (a0_0 : Int) (a0_1 : Bool) (a0_2 : Bool) (a0_3 : Bool) (a0_4 : Bool) (a0_5 : Bool) (a0_6 : Bool) (a0_7 : Bool) (a0_8 : Int) (a0_9 : Int) (a0_10 : Int) (a0_11 : Int) (a0_12 : Int) (a0_13 : Int) (a0_14 : Int) (a0_15 : Int) (a0_16 : Int) (a0_17 : Int) (a0_18 : Int) (a0_19 : Int) (a0_20 : ByteArray) (a1_0 : Bool) (a1_1 : Bool) (a1_2 : Bool) (a1_3 : Bool) (a1_4 : Bool) (a1_5 : Bool) (a1_6 : Bool) (a1_7 : Int) (a1_8 : Int) (a1_9 : Int) (a1_10 : Int) (a1_11 : Int) (a1_12 : Int) (a2 : Int) : Option (Int) := (fresh_Age.f a0_0 a0_1 a0_2 a0_3 a0_4 a0_5 a0_6 a0_7 a0_8 a0_9 a0_10 a0_11 a0_12 a0_13 a0_14 a0_15 a0_16 a0_17 a0_18 a0_19 a0_20 a2).bind fun t138 => ((fresh_Lifetime.f k a0_0 a0_1 a0_2 a0_3 a0_4 a0_5 a0_6 a0_7 a0_8 a0_9 a0_10 a0_11 a0_12 a0_13 a0_14 a0_15 a0_16 a0_17 a0_18 a0_19 a0_20).bind fun t139 => (if a1_1 = true then (fresh_State.j0 k t138 t139 true a0_0 a0_1 a0_2 a0_3 a0_4 a0_5 a0_6 a0_7 a0_8 a0_9 a0_10 a0_11 a0_12 a0_13 a0_14 a0_15 a0_16 a0_17 a0_18 a0_19 a0_20 a1_0 a1_1 a1_2 a1_3 a1_4 a1_5 a1_6 a1_7 a1_8 a1_9 a1_10 a1_11 a1_12) else (if a0_2 = true then (fresh_State.j0 k t138 t139 true a0_0 a0_1 a0_2 a0_3 a0_4 a0_5 a0_6 a0_7 a0_8 a0_9 a0_10 a0_11 a0_12 a0_13 a0_14 a0_15 a0_16 a0_17 a0_18 a0_19 a0_20 a1_0 a1_1 a1_2 a1_3 a1_4 a1_5 a1_6 a1_7 a1_8 a1_9 a1_10 a1_11 a1_12) else (if a1_7 ≥ 0 then (fresh_State.j0 k t138 t139 (decide (a1_7 < t138)) a0_0 a0_1 a0_2 a0_3 a0_4 a0_5 a0_6 a0_7 a0_8 a0_9 a0_10 a0_11 a0_12 a0_13 a0_14 a0_15 a0_16 a0_17 a0_18 a0_19 a0_20 a1_0 a1_1 a1_2 a1_3 a1_4 a1_5 a1_6 a1_7 a1_8 a1_9 a1_10 a1_11 a1_12) else (fresh_State.j0 k t138 t139 false a0_0 a0_1 a0_2 a0_3 a0_4 a0_5 a0_6 a0_7 a0_8 a0_9 a0_10 a0_11 a0_12 a0_13 a0_14 a0_15 a0_16 a0_17 a0_18 a0_19 a0_20 a1_0 a1_1 a1_2 a1_3 a1_4 a1_5 a1_6 a1_7 a1_8 a1_9 a1_10 a1_11 a1_12)))))
theorem fresh_State.mono_l : ∀ k, (∀ y0 y1 y2 y3 y4 y5 y6 y7 y8 y9 y10 y11 y12 y13 y14 y15 y16 y17 y18 y19 y20 y21 y22 y23 y24 y25 y26 y27 y28 y29 y30 y31 y32 y33 y34 y35 y36, LeO (fresh_State.j0 k y0 y1 y2 y3 y4 y5 y6 y7 y8 y9 y10 y11 y12 y13 y14 y15 y16 y17 y18 y19 y20 y21 y22 y23 y24 y25 y26 y27 y28 y29 y30 y31 y32 y33 y34 y35 y36) (fresh_State.j0 (k + 1) y0 y1 y2 y3 y4 y5 y6 y7 y8 y9 y10 y11 y12 y13 y14 y15 y16 y17 y18 y19 y20 y21 y22 y23 y24 y25 y26 y27 y28 y29 y30 y31 y32 y33 y34 y35 y36))
  | 0 => fun _ _ _ _ _ _ _ _ _ _ _ _ _ _ _ _ _ _ _ _ _ _ _ _ _ _ _ _ _ _ _ _ _ _ _ _ _ r h => by simp [fresh_State.j0] at h
  | k + 1 => by
    have ih0 := fresh_State.mono_l k
    · intro y0 y1 y2 y3 y4 y5 y6 y7 y8 y9 y10 y11 y12 y13 y14 y15 y16 y17 y18 y19 y20 y21 y22 y23 y24 y25 y26 y27 y28 y29 y30 y31 y32 y33 y34 y35 y36
      unfold fresh_State.j0
      repeat' first
      | (with_reducible exact ih0 _ _ _ _ _ _ _ _ _ _ _ _ _ _ _ _ _ _ _ _ _ _ _ _ _ _ _ _ _ _ _ _ _ _ _ _ _)
      | (with_reducible exact fresh_Lifetime.mono _ _ _ _ _ _ _ _ _ _ _ _ _ _ _ _ _ _ _ _ _ _)
      | (with_reducible exact fresh_late.mono _ _ _ _ _ _ _ _ _ _ _ _ _ _ _ _ _ _ _ _ _ _ _ _ _ _ _ _)
      | (with_reducible exact LeO.refl _)
      | (with_reducible exact LeO.none _)
      | (with_reducible refine LeO.ite ?_ ?_)
      | (with_reducible refine LeO.bind ?_ (fun _ => ?_))
      | exact ih0 _ _ _ _ _ _ _ _ _ _ _ _ _ _ _ _ _ _ _ _ _ _ _ _ _ _ _ _ _ _ _ _ _ _ _ _ _
      | exact fresh_Lifetime.mono _ _ _ _ _ _ _ _ _ _ _ _ _ _ _ _ _ _ _ _ _ _
      | exact fresh_late.mono _ _ _ _ _ _ _ _ _ _ _ _ _ _ _ _ _ _ _ _ _ _ _ _ _ _ _ _
      | exact LeO.none _
      | refine LeO.ite ?_ ?_
      | refine LeO.bind ?_ (fun _ => ?_)
theorem fresh_State.mono : ∀ a0 a1 a2 a3 a4 a5 a6 a7 a8 a9 a10 a11 a12 a13 a14 a15 a16 a17 a18 a19 a20 a21 a22 a23 a24 a25 a26 a27 a28 a29 a30 a31 a32 a33 a34 k, LeO (fresh_State.f k a0 a1 a2 a3 a4 a5 a6 a7 a8 a9 a10 a11 a12 a13 a14 a15 a16 a17 a18 a19 a20 a21 a22 a23 a24 a25 a26 a27 a28 a29 a30 a31 a32 a33 a34) (fresh_State.f (k + 1) a0 a1 a2 a3 a4 a5 a6 a7 a8 a9 a10 a11 a12 a13 a14 a15 a16 a17 a18 a19 a20 a21 a22 a23 a24 a25 a26 a27 a28 a29 a30 a31 a32 a33 a34) := by
  intro a0 a1 a2 a3 a4 a5 a6 a7 a8 a9 a10 a11 a12 a13 a14 a15 a16 a17 a18 a19 a20 a21 a22 a23 a24 a25 a26 a27 a28 a29 a30 a31 a32 a33 a34 k
  have ih0 := fresh_State.mono_l k
  unfold fresh_State.f
  repeat' first
      | (with_reducible exact ih0 _ _ _ _ _ _ _ _ _ _ _ _ _ _ _ _ _ _ _ _ _ _ _ _ _ _ _ _ _ _ _ _ _ _ _ _ _)
      | (with_reducible exact fresh_Lifetime.mono _ _ _ _ _ _ _ _ _ _ _ _ _ _ _ _ _ _ _ _ _ _)
      | (with_reducible exact fresh_late.mono _ _ _ _ _ _ _ _ _ _ _ _ _ _ _ _ _ _ _ _ _ _ _ _ _ _ _ _)
      | (with_reducible exact LeO.refl _)
      | (with_reducible exact LeO.none _)
      | (with_reducible refine LeO.ite ?_ ?_)
      | (with_reducible refine LeO.bind ?_ (fun _ => ?_))
      | exact ih0 _ _ _ _ _ _ _ _ _ _ _ _ _ _ _ _ _ _ _ _ _ _ _ _ _ _ _ _ _ _ _ _ _ _ _ _ _
      | exact fresh_Lifetime.mono _ _ _ _ _ _ _ _ _ _ _ _ _ _ _ _ _ _ _ _ _ _
      | exact fresh_late.mono _ _ _ _ _ _ _ _ _ _ _ _ _ _ _ _ _ _ _ _ _ _ _ _ _ _ _ _
      | exact LeO.none _
      | refine LeO.ite ?_ ?_
      | refine LeO.bind ?_ (fun _ => ?_)
set_option maxHeartbeats 8000000 in
set_option maxRecDepth 100000 in
theorem fresh_State.calls (k : Nat) (a0_0 : Int) (a0_1 : Bool) (a0_2 : Bool) (a0_3 : Bool) (a0_4 : Bool) (a0_5 : Bool) (a0_6 : Bool) (a0_7 : Bool) (a0_8 : Int) (a0_9 : Int) (a0_10 : Int) (a0_11 : Int) (a0_12 : Int) (a0_13 : Int) (a0_14 : Int) (a0_15 : Int) (a0_16 : Int) (a0_17 : Int) (a0_18 : Int) (a0_19 : Int) (a0_20 : ByteArray) (a1_0 : Bool) (a1_1 : Bool) (a1_2 : Bool) (a1_3 : Bool) (a1_4 : Bool) (a1_5 : Bool) (a1_6 : Bool) (a1_7 : Int) (a1_8 : Int) (a1_9 : Int) (a1_10 : Int) (a1_11 : Int) (a1_12 : Int) (a2 : Int) (r : Int) (w : World) (h : fresh_State.f k a0_0 a0_1 a0_2 a0_3 a0_4 a0_5 a0_6 a0_7 a0_8 a0_9 a0_10 a0_11 a0_12 a0_13 a0_14 a0_15 a0_16 a0_17 a0_18 a0_19 a0_20 a1_0 a1_1 a1_2 a1_3 a1_4 a1_5 a1_6 a1_7 a1_8 a1_9 a1_10 a1_11 a1_12 a2 = some r) :
    Calls Try.prog 13 #[.agg #[.int .i64 a0_0, .bool a0_1, .bool a0_2, .bool a0_3, .bool a0_4, .bool a0_5, .bool a0_6, .bool a0_7, .int .i64 a0_8, .int .i64 a0_9, .int .i64 a0_10, .int .i64 a0_11, .int .i64 a0_12, .int .i64 a0_13, .int .i64 a0_14, .int .i64 a0_15, .int .i64 a0_16, .int .i64 a0_17, .int .i64 a0_18, .int .i64 a0_19, .string a0_20], .agg #[.bool a1_0, .bool a1_1, .bool a1_2, .bool a1_3, .bool a1_4, .bool a1_5, .bool a1_6, .int .i64 a1_7, .int .i64 a1_8, .int .i64 a1_9, .int .i64 a1_10, .int .i64 a1_11, .int .i64 a1_12], .int .i64 a2] w fun e w' => e = .returned (.int .i64 r) ∧ Below w.heap.size w w' := by
  have hu25 := Try.underlying25
  have hu23 := Try.underlying23
  have HB := Aside0.mk (Below.refl w.heap.size w)
  have H : ((fresh_Age.f a0_0 a0_1 a0_2 a0_3 a0_4 a0_5 a0_6 a0_7 a0_8 a0_9 a0_10 a0_11 a0_12 a0_13 a0_14 a0_15 a0_16 a0_17 a0_18 a0_19 a0_20 a2).bind fun t138 => ((fresh_Lifetime.f k a0_0 a0_1 a0_2 a0_3 a0_4 a0_5 a0_6 a0_7 a0_8 a0_9 a0_10 a0_11 a0_12 a0_13 a0_14 a0_15 a0_16 a0_17 a0_18 a0_19 a0_20).bind fun t139 => (if a1_1 = true then (fresh_State.j0 k t138 t139 true a0_0 a0_1 a0_2 a0_3 a0_4 a0_5 a0_6 a0_7 a0_8 a0_9 a0_10 a0_11 a0_12 a0_13 a0_14 a0_15 a0_16 a0_17 a0_18 a0_19 a0_20 a1_0 a1_1 a1_2 a1_3 a1_4 a1_5 a1_6 a1_7 a1_8 a1_9 a1_10 a1_11 a1_12) else (if a0_2 = true then (fresh_State.j0 k t138 t139 true a0_0 a0_1 a0_2 a0_3 a0_4 a0_5 a0_6 a0_7 a0_8 a0_9 a0_10 a0_11 a0_12 a0_13 a0_14 a0_15 a0_16 a0_17 a0_18 a0_19 a0_20 a1_0 a1_1 a1_2 a1_3 a1_4 a1_5 a1_6 a1_7 a1_8 a1_9 a1_10 a1_11 a1_12) else (if a1_7 ≥ 0 then (fresh_State.j0 k t138 t139 (decide (a1_7 < t138)) a0_0 a0_1 a0_2 a0_3 a0_4 a0_5 a0_6 a0_7 a0_8 a0_9 a0_10 a0_11 a0_12 a0_13 a0_14 a0_15 a0_16 a0_17 a0_18 a0_19 a0_20 a1_0 a1_1 a1_2 a1_3 a1_4 a1_5 a1_6 a1_7 a1_8 a1_9 a1_10 a1_11 a1_12) else (fresh_State.j0 k t138 t139 false a0_0 a0_1 a0_2 a0_3 a0_4 a0_5 a0_6 a0_7 a0_8 a0_9 a0_10 a0_11 a0_12 a0_13 a0_14 a0_15 a0_16 a0_17 a0_18 a0_19 a0_20 a1_0 a1_1 a1_2 a1_3 a1_4 a1_5 a1_6 a1_7 a1_8 a1_9 a1_10 a1_11 a1_12)))))) = some r := h
  clear h
  replace H := Option.bind_eq_some_iff.mp H
  obtain ⟨t138, A40, H⟩ := H
  replace H : ((fresh_Lifetime.f k a0_0 a0_1 a0_2 a0_3 a0_4 a0_5 a0_6 a0_7 a0_8 a0_9 a0_10 a0_11 a0_12 a0_13 a0_14 a0_15 a0_16 a0_17 a0_18 a0_19 a0_20).bind fun t139 => (if a1_1 = true then (fresh_State.j0 k t138 t139 true a0_0 a0_1 a0_2 a0_3 a0_4 a0_5 a0_6 a0_7 a0_8 a0_9 a0_10 a0_11 a0_12 a0_13 a0_14 a0_15 a0_16 a0_17 a0_18 a0_19 a0_20 a1_0 a1_1 a1_2 a1_3 a1_4 a1_5 a1_6 a1_7 a1_8 a1_9 a1_10 a1_11 a1_12) else (if a0_2 = true then (fresh_State.j0 k t138 t139 true a0_0 a0_1 a0_2 a0_3 a0_4 a0_5 a0_6 a0_7 a0_8 a0_9 a0_10 a0_11 a0_12 a0_13 a0_14 a0_15 a0_16 a0_17 a0_18 a0_19 a0_20 a1_0 a1_1 a1_2 a1_3 a1_4 a1_5 a1_6 a1_7 a1_8 a1_9 a1_10 a1_11 a1_12) else (if a1_7 ≥ 0 then (fresh_State.j0 k t138 t139 (decide (a1_7 < t138)) a0_0 a0_1 a0_2 a0_3 a0_4 a0_5 a0_6 a0_7 a0_8 a0_9 a0_10 a0_11 a0_12 a0_13 a0_14 a0_15 a0_16 a0_17 a0_18 a0_19 a0_20 a1_0 a1_1 a1_2 a1_3 a1_4 a1_5 a1_6 a1_7 a1_8 a1_9 a1_10 a1_11 a1_12) else (fresh_State.j0 k t138 t139 false a0_0 a0_1 a0_2 a0_3 a0_4 a0_5 a0_6 a0_7 a0_8 a0_9 a0_10 a0_11 a0_12 a0_13 a0_14 a0_15 a0_16 a0_17 a0_18 a0_19 a0_20 a1_0 a1_1 a1_2 a1_3 a1_4 a1_5 a1_6 a1_7 a1_8 a1_9 a1_10 a1_11 a1_12))))) = some r := H
  have A4 := Aside0.mk A40
  clear A40
  replace H := Option.bind_eq_some_iff.mp H
  obtain ⟨t139, A50, H⟩ := H
  replace H : (if a1_1 = true then (fresh_State.j0 k t138 t139 true a0_0 a0_1 a0_2 a0_3 a0_4 a0_5 a0_6 a0_7 a0_8 a0_9 a0_10 a0_11 a0_12 a0_13 a0_14 a0_15 a0_16 a0_17 a0_18 a0_19 a0_20 a1_0 a1_1 a1_2 a1_3 a1_4 a1_5 a1_6 a1_7 a1_8 a1_9 a1_10 a1_11 a1_12) else (if a0_2 = true then (fresh_State.j0 k t138 t139 true a0_0 a0_1 a0_2 a0_3 a0_4 a0_5 a0_6 a0_7 a0_8 a0_9 a0_10 a0_11 a0_12 a0_13 a0_14 a0_15 a0_16 a0_17 a0_18 a0_19 a0_20 a1_0 a1_1 a1_2 a1_3 a1_4 a1_5 a1_6 a1_7 a1_8 a1_9 a1_10 a1_11 a1_12) else (if a1_7 ≥ 0 then (fresh_State.j0 k t138 t139 (decide (a1_7 < t138)) a0_0 a0_1 a0_2 a0_3 a0_4 a0_5 a0_6 a0_7 a0_8 a0_9 a0_10 a0_11 a0_12 a0_13 a0_14 a0_15 a0_16 a0_17 a0_18 a0_19 a0_20 a1_0 a1_1 a1_2 a1_3 a1_4 a1_5 a1_6 a1_7 a1_8 a1_9 a1_10 a1_11 a1_12) else (fresh_State.j0 k t138 t139 false a0_0 a0_1 a0_2 a0_3 a0_4 a0_5 a0_6 a0_7 a0_8 a0_9 a0_10 a0_11 a0_12 a0_13 a0_14 a0_15 a0_16 a0_17 a0_18 a0_19 a0_20 a1_0 a1_1 a1_2 a1_3 a1_4 a1_5 a1_6 a1_7 a1_8 a1_9 a1_10 a1_11 a1_12)))) = some r := H
  have A5 := Aside0.mk A50
  clear A50
  have HC6 := Aside0.mk H
  clear H
  go_enter Try.func13, Try.ntmps13
  try go_wp2_with (first | ((with_reducible refine gate_dst (N := 3) rfl ?_); refine box_event ?hg (N := 3) ?hd (cs := #[.int .i64 a0_0, .bool a0_1, .bool a0_2, .bool a0_3, .bool a0_4, .bool a0_5, .bool a0_6, .bool a0_7, .int .i64 a0_8, .int .i64 a0_9, .int .i64 a0_10, .int .i64 a0_11, .int .i64 a0_12, .int .i64 a0_13, .int .i64 a0_14, .int .i64 a0_15, .int .i64 a0_16, .int .i64 a0_17, .int .i64 a0_18, .int .i64 a0_19, .string a0_20]) (t := 25) ?hr ?_; (case hd => rfl); (case hg => rfl); (case hr => first | (go_simp; done) | (go_simp; rfl)); intro gb136 hg w7 hbox hb; have n0_ := Aside0.mk (below_step (by repeat (first | (with_reducible first | exact HB.out | apply below_alloc | apply pw_below_drewN | apply below_drew1) | exact HB.out)) hb); have n1_ := Aside0.mk (hbox); have n2_ := Aside0.mk ((by rw [hg]; exact (below_size (by repeat (first | (with_reducible first | exact HB.out | apply below_alloc | apply pw_below_drewN | apply below_drew1) | exact HB.out))) : w.heap.size ≤ gb136)); have n3_ := Aside0.mk ((by rw [hg]; exact (below_size (by repeat (first | (with_reducible first | exact HB.out | apply below_alloc | apply pw_below_drewN | apply below_drew1) | exact HB.out))) : w.heap.size ≤ gb136)); clear HB; have HB := n0_; have BK136 := n1_; have GW136 := n2_; have GE136 := n3_; clear n0_ n1_ n2_ n3_; clear hb hbox hg) | ((with_reducible refine gate_dst (N := 4) rfl ?_); refine box_event ?hg (N := 4) ?hd (cs := #[.bool a1_0, .bool a1_1, .bool a1_2, .bool a1_3, .bool a1_4, .bool a1_5, .bool a1_6, .int .i64 a1_7, .int .i64 a1_8, .int .i64 a1_9, .int .i64 a1_10, .int .i64 a1_11, .int .i64 a1_12]) (t := 23) ?hr ?_; (case hd => rfl); (case hg => rfl); (case hr => first | (go_simp; done) | (go_simp; rfl)); intro gb137 hg w8 hbox hb; have n0_ := Aside0.mk (blk_below (g := gb136) (o := .cells #[.int .i64 a0_0, .bool a0_1, .bool a0_2, .bool a0_3, .bool a0_4, .bool a0_5, .bool a0_6, .bool a0_7, .int .i64 a0_8, .int .i64 a0_9, .int .i64 a0_10, .int .i64 a0_11, .int .i64 a0_12, .int .i64 a0_13, .int .i64 a0_14, .int .i64 a0_15, .int .i64 a0_16, .int .i64 a0_17, .int .i64 a0_18, .int .i64 a0_19, .string a0_20] 25 (0, 0)) (by (with_reducible repeat (first | refine blk_drewN ?_ _ | refine blk_drew ?_ | refine blk_alloc ?_ _)); exact BK136.out) hb); have n1_ := Aside0.mk (below_step (by repeat (first | (with_reducible first | exact HB.out | apply below_alloc | apply pw_below_drewN | apply below_drew1 | refine below_set ?_ GE136.out) | exact HB.out)) hb); have n2_ := Aside0.mk (hbox); have n3_ := Aside0.mk ((by rw [hg]; exact (below_size (by repeat (first | (with_reducible first | exact HB.out | apply below_alloc | apply pw_below_drewN | apply below_drew1 | refine below_set ?_ GE136.out) | exact HB.out))) : w.heap.size ≤ gb137)); have n4_ := Aside0.mk ((by rw [hg]; exact (below_size (by repeat (first | (with_reducible first | exact HB.out | apply below_alloc | apply pw_below_drewN | apply below_drew1 | refine below_set ?_ GE136.out) | exact HB.out))) : w.heap.size ≤ gb137)); have n5_ := Aside0.mk ((by rw [hg]; exact Nat.ne_of_lt (blk_lt (g := gb136) (o := .cells #[.int .i64 a0_0, .bool a0_1, .bool a0_2, .bool a0_3, .bool a0_4, .bool a0_5, .bool a0_6, .bool a0_7, .int .i64 a0_8, .int .i64 a0_9, .int .i64 a0_10, .int .i64 a0_11, .int .i64 a0_12, .int .i64 a0_13, .int .i64 a0_14, .int .i64 a0_15, .int .i64 a0_16, .int .i64 a0_17, .int .i64 a0_18, .int .i64 a0_19, .string a0_20] 25 (0, 0)) (by (with_reducible repeat (first | refine blk_drewN ?_ _ | refine blk_drew ?_ | refine blk_alloc ?_ _)); exact BK136.out)) : gb136 ≠ gb137)); have n6_ := Aside0.mk ((by rw [hg]; exact Nat.ne_of_gt (blk_lt (g := gb136) (o := .cells #[.int .i64 a0_0, .bool a0_1, .bool a0_2, .bool a0_3, .bool a0_4, .bool a0_5, .bool a0_6, .bool a0_7, .int .i64 a0_8, .int .i64 a0_9, .int .i64 a0_10, .int .i64 a0_11, .int .i64 a0_12, .int .i64 a0_13, .int .i64 a0_14, .int .i64 a0_15, .int .i64 a0_16, .int .i64 a0_17, .int .i64 a0_18, .int .i64 a0_19, .string a0_20] 25 (0, 0)) (by (with_reducible repeat (first | refine blk_drewN ?_ _ | refine blk_drew ?_ | refine blk_alloc ?_ _)); exact BK136.out)) : gb137 ≠ gb136)); clear BK136; clear HB; have BK136 := n0_; have HB := n1_; have BK137 := n2_; have GW137 := n3_; have GE137 := n4_; have NB136_137 := n5_; have NB137_136 := n6_; clear n0_ n1_ n2_ n3_ n4_ n5_ n6_; clear hb hbox hg))
  have n0_ := Aside0.mk (blk_drew BK136.out)
  have n1_ := Aside0.mk (blk_drew BK137.out)
  have n2_ := Aside0.mk (below_drew1 HB.out)
  clear BK136
  clear BK137
  clear HB
  have BK136 := n0_
  have BK137 := n1_
  have HB := n2_
  clear n0_ n1_ n2_
  refine start_ (n := 7) (S := fun w' => w'.cell? ⟨gb136, 0, none⟩ = some (.int .i64 a0_0) ∧ w'.cell? ⟨gb136, 1, none⟩ = some (.bool a0_1) ∧ w'.cell? ⟨gb136, 2, none⟩ = some (.bool a0_2) ∧ w'.cell? ⟨gb136, 3, none⟩ = some (.bool a0_3) ∧ w'.cell? ⟨gb136, 4, none⟩ = some (.bool a0_4) ∧ w'.cell? ⟨gb136, 5, none⟩ = some (.bool a0_5) ∧ w'.cell? ⟨gb136, 6, none⟩ = some (.bool a0_6) ∧ w'.cell? ⟨gb136, 7, none⟩ = some (.bool a0_7) ∧ w'.cell? ⟨gb136, 8, none⟩ = some (.int .i64 a0_8) ∧ w'.cell? ⟨gb136, 9, none⟩ = some (.int .i64 a0_9) ∧ w'.cell? ⟨gb136, 10, none⟩ = some (.int .i64 a0_10) ∧ w'.cell? ⟨gb136, 11, none⟩ = some (.int .i64 a0_11) ∧ w'.cell? ⟨gb136, 12, none⟩ = some (.int .i64 a0_12) ∧ w'.cell? ⟨gb136, 13, none⟩ = some (.int .i64 a0_13) ∧ w'.cell? ⟨gb136, 14, none⟩ = some (.int .i64 a0_14) ∧ w'.cell? ⟨gb136, 15, none⟩ = some (.int .i64 a0_15) ∧ w'.cell? ⟨gb136, 16, none⟩ = some (.int .i64 a0_16) ∧ w'.cell? ⟨gb136, 17, none⟩ = some (.int .i64 a0_17) ∧ w'.cell? ⟨gb136, 18, none⟩ = some (.int .i64 a0_18) ∧ w'.cell? ⟨gb136, 19, none⟩ = some (.int .i64 a0_19) ∧ w'.cell? ⟨gb136, 20, none⟩ = some (.string a0_20)) (ds := []) #[false, false, false, false, false, false, false] (by kernel_rfl) rfl rfl ⟨(blk_cell BK136.out 0).trans rfl, (blk_cell BK136.out 1).trans rfl, (blk_cell BK136.out 2).trans rfl, (blk_cell BK136.out 3).trans rfl, (blk_cell BK136.out 4).trans rfl, (blk_cell BK136.out 5).trans rfl, (blk_cell BK136.out 6).trans rfl, (blk_cell BK136.out 7).trans rfl, (blk_cell BK136.out 8).trans rfl, (blk_cell BK136.out 9).trans rfl, (blk_cell BK136.out 10).trans rfl, (blk_cell BK136.out 11).trans rfl, (blk_cell BK136.out 12).trans rfl, (blk_cell BK136.out 13).trans rfl, (blk_cell BK136.out 14).trans rfl, (blk_cell BK136.out 15).trans rfl, (blk_cell BK136.out 16).trans rfl, (blk_cell BK136.out 17).trans rfl, (blk_cell BK136.out 18).trans rfl, (blk_cell BK136.out 19).trans rfl, (blk_cell BK136.out 20).trans rfl⟩ (fun hHeld => ?_)
  generalize w8.drew = w9 at BK136 BK137 HB hHeld ⊢
  refine pure_ (i := 1) (N := some 10) (v := ?_) (a' := ?_) #[false, true, false, false, false, false, false] rfl rfl (by kernel_rfl) (fun _ _ _ h => h) (Or.inl ⟨by rfl, ?_⟩) ?_ ?_
  rotate_left
  · intro w'
    go_simp
    with_reducible rfl
  rotate_left
  · simp only [Act.put, List.setIfInBounds_toArray, List.set_cons_zero, List.set_cons_succ, i64_w, i32_w]
    rfl
  refine take_ (i := 0) (N := some 9) (v := ?_) (a' := ?_) #[true, true, false, false, false, false, false] rfl rfl (by kernel_rfl) (fun _ _ _ h => h) (Or.inl ⟨by rfl, ?_⟩) hHeld ?_ ?_
  rotate_left
  · rintro w' ⟨s0, s1, s2, s3, s4, s5, s6, s7, s8, s9, s10, s11, s12, s13, s14, s15, s16, s17, s18, s19, s20⟩
    first
      | (refine (load_whole (by rfl) gb136 0 (by rfl) [.int .i64 a0_0, .bool a0_1, .bool a0_2, .bool a0_3, .bool a0_4, .bool a0_5, .bool a0_6, .bool a0_7, .int .i64 a0_8, .int .i64 a0_9, .int .i64 a0_10, .int .i64 a0_11, .int .i64 a0_12, .int .i64 a0_13, .int .i64 a0_14, .int .i64 a0_15, .int .i64 a0_16, .int .i64 a0_17, .int .i64 a0_18, .int .i64 a0_19, .string a0_20] Try.underlying25 rfl (by kernel_rfl) ⟨s0, s1, s2, s3, s4, s5, s6, s7, s8, s9, s10, s11, s12, s13, s14, s15, s16, s17, s18, s19, s20, trivial⟩).trans ?_; with_reducible rfl)
      | (go_simp; with_reducible rfl)
  rotate_left
  · simp only [Act.put, List.setIfInBounds_toArray, List.set_cons_zero, List.set_cons_succ, i64_w, i32_w]
    rfl
  refine take_ (i := 3) (N := some 12) (v := ?_) (a' := ?_) #[true, true, false, true, false, false, false] rfl rfl (by kernel_rfl) (fun _ _ _ h => h) (Or.inl ⟨by rfl, ?_⟩) hHeld ?_ ?_
  rotate_left
  · rintro w' ⟨s0, s1, s2, s3, s4, s5, s6, s7, s8, s9, s10, s11, s12, s13, s14, s15, s16, s17, s18, s19, s20⟩
    first
      | (refine (load_whole (by rfl) gb136 0 (by rfl) [.int .i64 a0_0, .bool a0_1, .bool a0_2, .bool a0_3, .bool a0_4, .bool a0_5, .bool a0_6, .bool a0_7, .int .i64 a0_8, .int .i64 a0_9, .int .i64 a0_10, .int .i64 a0_11, .int .i64 a0_12, .int .i64 a0_13, .int .i64 a0_14, .int .i64 a0_15, .int .i64 a0_16, .int .i64 a0_17, .int .i64 a0_18, .int .i64 a0_19, .string a0_20] Try.underlying25 rfl (by kernel_rfl) ⟨s0, s1, s2, s3, s4, s5, s6, s7, s8, s9, s10, s11, s12, s13, s14, s15, s16, s17, s18, s19, s20, trivial⟩).trans ?_; with_reducible rfl)
      | (go_simp; with_reducible rfl)
  rotate_left
  · simp only [Act.put, List.setIfInBounds_toArray, List.set_cons_zero, List.set_cons_succ, i64_w, i32_w]
    rfl
  refine one_ (i := 2) (N := some 11) #[true, true, true, true, false, false, false] rfl rfl (by kernel_rfl) (by decide) (fun K hK => ?_)
  refine goes_ Try.func8 (by kernel_rfl) rfl #[.agg #[.int .i64 a0_0, .bool a0_1, .bool a0_2, .bool a0_3, .bool a0_4, .bool a0_5, .bool a0_6, .bool a0_7, .int .i64 a0_8, .int .i64 a0_9, .int .i64 a0_10, .int .i64 a0_11, .int .i64 a0_12, .int .i64 a0_13, .int .i64 a0_14, .int .i64 a0_15, .int .i64 a0_16, .int .i64 a0_17, .int .i64 a0_18, .int .i64 a0_19, .string a0_20], .int .i64 a2] (by rfl) rfl rfl (by (try simp only [List.map_toArray, List.map_cons, List.map_nil]); first | done | rfl | (simp only [List.length_drop, List.length_take]; rfl)) ?_
  with_reducible refine (fresh_Age.calls a0_0 a0_1 a0_2 a0_3 a0_4 a0_5 a0_6 a0_7 a0_8 a0_9 a0_10 a0_11 a0_12 a0_13 a0_14 a0_15 a0_16 a0_17 a0_18 a0_19 a0_20 a2 t138 _ A4.out).mono ?_
  rintro e w10 ⟨rfl, hb⟩
  refine ⟨_, rfl, ?_⟩
  have n0_ := Aside0.mk (blk_below (g := gb136) (o := .cells #[.int .i64 a0_0, .bool a0_1, .bool a0_2, .bool a0_3, .bool a0_4, .bool a0_5, .bool a0_6, .bool a0_7, .int .i64 a0_8, .int .i64 a0_9, .int .i64 a0_10, .int .i64 a0_11, .int .i64 a0_12, .int .i64 a0_13, .int .i64 a0_14, .int .i64 a0_15, .int .i64 a0_16, .int .i64 a0_17, .int .i64 a0_18, .int .i64 a0_19, .string a0_20] 25 (0, 0)) (by (with_reducible repeat (first | refine blk_drewN ?_ _ | refine blk_drew ?_ | refine blk_alloc ?_ _)); exact BK136.out) hb)
  have n1_ := Aside0.mk (blk_below (g := gb137) (o := .cells #[.bool a1_0, .bool a1_1, .bool a1_2, .bool a1_3, .bool a1_4, .bool a1_5, .bool a1_6, .int .i64 a1_7, .int .i64 a1_8, .int .i64 a1_9, .int .i64 a1_10, .int .i64 a1_11, .int .i64 a1_12] 23 (0, 0)) (by (with_reducible repeat (first | refine blk_drewN ?_ _ | refine blk_drew ?_ | refine blk_alloc ?_ _)); exact BK137.out) hb)
  have n2_ := Aside0.mk (below_step (by repeat (first | (with_reducible first | exact HB.out | apply below_alloc | apply pw_below_drewN | apply below_drew1 | refine below_set ?_ GE136.out | refine below_set ?_ GE137.out) | exact HB.out)) hb)
  clear BK136
  clear BK137
  clear HB
  have BK136 := n0_
  have BK137 := n1_
  have HB := n2_
  clear n0_ n1_ n2_
  (try clear hb)
  (try clear hb2)
  (try clear hk)
  (try clear hi)
  refine hK.out _ _ ⟨(blk_cell BK136.out 0).trans rfl, (blk_cell BK136.out 1).trans rfl, (blk_cell BK136.out 2).trans rfl, (blk_cell BK136.out 3).trans rfl, (blk_cell BK136.out 4).trans rfl, (blk_cell BK136.out 5).trans rfl, (blk_cell BK136.out 6).trans rfl, (blk_cell BK136.out 7).trans rfl, (blk_cell BK136.out 8).trans rfl, (blk_cell BK136.out 9).trans rfl, (blk_cell BK136.out 10).trans rfl, (blk_cell BK136.out 11).trans rfl, (blk_cell BK136.out 12).trans rfl, (blk_cell BK136.out 13).trans rfl, (blk_cell BK136.out 14).trans rfl, (blk_cell BK136.out 15).trans rfl, (blk_cell BK136.out 16).trans rfl, (blk_cell BK136.out 17).trans rfl, (blk_cell BK136.out 18).trans rfl, (blk_cell BK136.out 19).trans rfl, (blk_cell BK136.out 20).trans rfl⟩ (fun hHeld => ?_)
  clear hK K
  refine norm_ (a' := ?_) ?_ ?_
  rotate_left
  · show Act.put _ (some 11) _ = _
    simp only [Act.put, List.setIfInBounds_toArray, List.set_cons_zero, List.set_cons_succ, i64_w, i32_w]
    rfl
  refine one_ (i := 4) (N := some 13) #[true, true, true, true, true, false, false] rfl rfl (by kernel_rfl) (by decide) (fun K hK => ?_)
  refine goes_ Try.func11 (by kernel_rfl) rfl #[.agg #[.int .i64 a0_0, .bool a0_1, .bool a0_2, .bool a0_3, .bool a0_4, .bool a0_5, .bool a0_6, .bool a0_7, .int .i64 a0_8, .int .i64 a0_9, .int .i64 a0_10, .int .i64 a0_11, .int .i64 a0_12, .int .i64 a0_13, .int .i64 a0_14, .int .i64 a0_15, .int .i64 a0_16, .int .i64 a0_17, .int .i64 a0_18, .int .i64 a0_19, .string a0_20]] (by rfl) rfl rfl (by (try simp only [List.map_toArray, List.map_cons, List.map_nil]); first | done | rfl | (simp only [List.length_drop, List.length_take]; rfl)) ?_
  with_reducible refine (fresh_Lifetime.calls k a0_0 a0_1 a0_2 a0_3 a0_4 a0_5 a0_6 a0_7 a0_8 a0_9 a0_10 a0_11 a0_12 a0_13 a0_14 a0_15 a0_16 a0_17 a0_18 a0_19 a0_20 t139 _ A5.out).mono ?_
  rintro e w11 ⟨rfl, hb⟩
  refine ⟨_, rfl, ?_⟩
  have n0_ := Aside0.mk (blk_below (g := gb136) (o := .cells #[.int .i64 a0_0, .bool a0_1, .bool a0_2, .bool a0_3, .bool a0_4, .bool a0_5, .bool a0_6, .bool a0_7, .int .i64 a0_8, .int .i64 a0_9, .int .i64 a0_10, .int .i64 a0_11, .int .i64 a0_12, .int .i64 a0_13, .int .i64 a0_14, .int .i64 a0_15, .int .i64 a0_16, .int .i64 a0_17, .int .i64 a0_18, .int .i64 a0_19, .string a0_20] 25 (0, 0)) (by (with_reducible repeat (first | refine blk_drewN ?_ _ | refine blk_drew ?_ | refine blk_alloc ?_ _)); exact BK136.out) hb)
  have n1_ := Aside0.mk (blk_below (g := gb137) (o := .cells #[.bool a1_0, .bool a1_1, .bool a1_2, .bool a1_3, .bool a1_4, .bool a1_5, .bool a1_6, .int .i64 a1_7, .int .i64 a1_8, .int .i64 a1_9, .int .i64 a1_10, .int .i64 a1_11, .int .i64 a1_12] 23 (0, 0)) (by (with_reducible repeat (first | refine blk_drewN ?_ _ | refine blk_drew ?_ | refine blk_alloc ?_ _)); exact BK137.out) hb)
  have n2_ := Aside0.mk (below_step (by repeat (first | (with_reducible first | exact HB.out | apply below_alloc | apply pw_below_drewN | apply below_drew1 | refine below_set ?_ GE136.out | refine below_set ?_ GE137.out) | exact HB.out)) hb)
  clear BK136
  clear BK137
  clear HB
  have BK136 := n0_
  have BK137 := n1_
  have HB := n2_
  clear n0_ n1_ n2_
  (try clear hb)
  (try clear hb2)
  (try clear hk)
  (try clear hi)
  refine hK.out _ _ ⟨(blk_cell BK136.out 0).trans rfl, (blk_cell BK136.out 1).trans rfl, (blk_cell BK136.out 2).trans rfl, (blk_cell BK136.out 3).trans rfl, (blk_cell BK136.out 4).trans rfl, (blk_cell BK136.out 5).trans rfl, (blk_cell BK136.out 6).trans rfl, (blk_cell BK136.out 7).trans rfl, (blk_cell BK136.out 8).trans rfl, (blk_cell BK136.out 9).trans rfl, (blk_cell BK136.out 10).trans rfl, (blk_cell BK136.out 11).trans rfl, (blk_cell BK136.out 12).trans rfl, (blk_cell BK136.out 13).trans rfl, (blk_cell BK136.out 14).trans rfl, (blk_cell BK136.out 15).trans rfl, (blk_cell BK136.out 16).trans rfl, (blk_cell BK136.out 17).trans rfl, (blk_cell BK136.out 18).trans rfl, (blk_cell BK136.out 19).trans rfl, (blk_cell BK136.out 20).trans rfl⟩ (fun hHeld => ?_)
  clear hK K
  refine norm_ (a' := ?_) ?_ ?_
  rotate_left
  · show Act.put _ (some 13) _ = _
    simp only [Act.put, List.setIfInBounds_toArray, List.set_cons_zero, List.set_cons_succ, i64_w, i32_w]
    rfl
  refine pure_ (i := 5) (N := some 7) (v := ?_) (a' := ?_) #[true, true, true, true, true, true, false] rfl rfl (by kernel_rfl) (fun _ _ _ h => h) (Or.inl ⟨by rfl, ?_⟩) ?_ ?_
  rotate_left
  · intro w'
    go_simp
    with_reducible rfl
  rotate_left
  · simp only [Act.put, List.setIfInBounds_toArray, List.set_cons_zero, List.set_cons_succ, i64_w, i32_w]
    rfl
  refine pure_ (i := 6) (N := some 8) (v := ?_) (a' := ?_) #[true, true, true, true, true, true, true] rfl rfl (by kernel_rfl) (fun _ _ _ h => h) (Or.inl ⟨by rfl, ?_⟩) ?_ ?_
  rotate_left
  · intro w'
    go_simp
    with_reducible rfl
  rotate_left
  · simp only [Act.put, List.setIfInBounds_toArray, List.set_cons_zero, List.set_cons_succ, i64_w, i32_w]
    rfl
  refine done_ (by kernel_rfl) ?_
  go_upto_region 2 with (first | ((first | (with_reducible refine gate_dst (N := 9) rfl ?_) | (with_reducible refine gate_dst (N := 12) rfl ?_)); refine wpList_load_mid rfl 25 (.tmp 3) rfl _ _ (by rfl) [_, _, _, _, _, _, _, _, _, _, _, _, _, _, _, _, _, _, _, _, _] _ (cellsAt_range _ (by (repeat (refine ⟨by assumption, ?_⟩)); exact trivial)) Try.underlying25 rfl (by kernel_rfl) ?_) | ((with_reducible refine gate_dst (N := 39) rfl ?_); refine wpList_load_mid rfl 23 (.tmp 4) rfl _ _ (by rfl) [_, _, _, _, _, _, _, _, _, _, _, _, _] _ (cellsAt_range _ (by (repeat (refine ⟨by assumption, ?_⟩)); exact trivial)) Try.underlying23 rfl (by kernel_rfl) ?_))
  go_cut [14] (fun v14 wc => ∃ (kq : Nat) (x14_5 : Bool), v14 = .bool x14_5 ∧ Aside0 (fresh_State.j0 kq t138 t139 x14_5 a0_0 a0_1 a0_2 a0_3 a0_4 a0_5 a0_6 a0_7 a0_8 a0_9 a0_10 a0_11 a0_12 a0_13 a0_14 a0_15 a0_16 a0_17 a0_18 a0_19 a0_20 a1_0 a1_1 a1_2 a1_3 a1_4 a1_5 a1_6 a1_7 a1_8 a1_9 a1_10 a1_11 a1_12 = some r) ∧ Aside0 (kq ≤ k) ∧ Aside0 (wc.heap[gb136]? = some (.cells #[.int .i64 a0_0, .bool a0_1, .bool a0_2, .bool a0_3, .bool a0_4, .bool a0_5, .bool a0_6, .bool a0_7, .int .i64 a0_8, .int .i64 a0_9, .int .i64 a0_10, .int .i64 a0_11, .int .i64 a0_12, .int .i64 a0_13, .int .i64 a0_14, .int .i64 a0_15, .int .i64 a0_16, .int .i64 a0_17, .int .i64 a0_18, .int .i64 a0_19, .string a0_20] 25 (0, 0))) ∧ Aside0 (wc.heap[gb137]? = some (.cells #[.bool a1_0, .bool a1_1, .bool a1_2, .bool a1_3, .bool a1_4, .bool a1_5, .bool a1_6, .int .i64 a1_7, .int .i64 a1_8, .int .i64 a1_9, .int .i64 a1_10, .int .i64 a1_11, .int .i64 a1_12] 23 (0, 0))) ∧ Aside0 (Below w.heap.size w wc))
  case first =>
    have H := HC6.out
    clear HC6
    by_cases c12 : a1_1 = true
    · subst c12
      have H1 : (fresh_State.j0 k t138 t139 true a0_0 a0_1 a0_2 a0_3 a0_4 a0_5 a0_6 a0_7 a0_8 a0_9 a0_10 a0_11 a0_12 a0_13 a0_14 a0_15 a0_16 a0_17 a0_18 a0_19 a0_20 a1_0 true a1_2 a1_3 a1_4 a1_5 a1_6 a1_7 a1_8 a1_9 a1_10 a1_11 a1_12) = some r := by rw [if_pos rfl] at H; exact H
      clear H
      have H := H1
      clear H1
      have H' := Aside0.mk H
      clear H
      have hnb13 := NB137_136.out
      have hnc13 := NB136_137.out
      have hcz14_0 : w11.cell? ⟨gb137, 0, none⟩ = some (.bool a1_0) := (blk_cell BK137.out 0).trans rfl
      have hcz14_1 : w11.cell? ⟨gb137, 1, none⟩ = some (.bool true) := (blk_cell BK137.out 1).trans rfl
      have hcz14_2 : w11.cell? ⟨gb137, 2, none⟩ = some (.bool a1_2) := (blk_cell BK137.out 2).trans rfl
      have hcz14_3 : w11.cell? ⟨gb137, 3, none⟩ = some (.bool a1_3) := (blk_cell BK137.out 3).trans rfl
      have hcz14_4 : w11.cell? ⟨gb137, 4, none⟩ = some (.bool a1_4) := (blk_cell BK137.out 4).trans rfl
      have hcz14_5 : w11.cell? ⟨gb137, 5, none⟩ = some (.bool a1_5) := (blk_cell BK137.out 5).trans rfl
      have hcz14_6 : w11.cell? ⟨gb137, 6, none⟩ = some (.bool a1_6) := (blk_cell BK137.out 6).trans rfl
      have hcz14_7 : w11.cell? ⟨gb137, 7, none⟩ = some (.int .i64 a1_7) := (blk_cell BK137.out 7).trans rfl
      have hcz14_8 : w11.cell? ⟨gb137, 8, none⟩ = some (.int .i64 a1_8) := (blk_cell BK137.out 8).trans rfl
      have hcz14_9 : w11.cell? ⟨gb137, 9, none⟩ = some (.int .i64 a1_9) := (blk_cell BK137.out 9).trans rfl
      have hcz14_10 : w11.cell? ⟨gb137, 10, none⟩ = some (.int .i64 a1_10) := (blk_cell BK137.out 10).trans rfl
      have hcz14_11 : w11.cell? ⟨gb137, 11, none⟩ = some (.int .i64 a1_11) := (blk_cell BK137.out 11).trans rfl
      have hcz14_12 : w11.cell? ⟨gb137, 12, none⟩ = some (.int .i64 a1_12) := (blk_cell BK137.out 12).trans rfl
      have hfz14_0 := blk_frozen BK137.out 0
      have hfz14_1 := blk_frozen BK137.out 1
      have hfz14_2 := blk_frozen BK137.out 2
      have hfz14_3 := blk_frozen BK137.out 3
      have hfz14_4 := blk_frozen BK137.out 4
      have hfz14_5 := blk_frozen BK137.out 5
      have hfz14_6 := blk_frozen BK137.out 6
      have hfz14_7 := blk_frozen BK137.out 7
      have hfz14_8 := blk_frozen BK137.out 8
      have hfz14_9 := blk_frozen BK137.out 9
      have hfz14_10 := blk_frozen BK137.out 10
      have hfz14_11 := blk_frozen BK137.out 11
      have hfz14_12 := blk_frozen BK137.out 12
      go_wp2_with (first | ((first | (with_reducible refine gate_dst (N := 9) rfl ?_) | (with_reducible refine gate_dst (N := 12) rfl ?_)); refine wpList_load_mid rfl 25 (.tmp 3) rfl _ _ (by rfl) [_, _, _, _, _, _, _, _, _, _, _, _, _, _, _, _, _, _, _, _, _] _ (cellsAt_range _ (by (repeat (refine ⟨by assumption, ?_⟩)); exact trivial)) Try.underlying25 rfl (by kernel_rfl) ?_) | ((with_reducible refine gate_dst (N := 39) rfl ?_); refine wpList_load_mid rfl 23 (.tmp 4) rfl _ _ (by rfl) [_, _, _, _, _, _, _, _, _, _, _, _, _] _ (cellsAt_range _ (by (repeat (refine ⟨by assumption, ?_⟩)); exact trivial)) Try.underlying23 rfl (by kernel_rfl) ?_))
      go_meet
      case rel => exact ⟨_, (true), (by first | rfl | (simp; done) | exact ret_ne _ | (simp [*]; done)), H', ⟨by first | omega | exact Nat.le_refl _⟩, ⟨by (with_reducible repeat (first | refine blk_drewN ?_ _ | refine blk_drew ?_ | refine blk_alloc ?_ _)); exact BK136.out⟩, ⟨by (with_reducible repeat (first | refine blk_drewN ?_ _ | refine blk_drew ?_ | refine blk_alloc ?_ _)); exact BK137.out⟩, ⟨by repeat (first | (with_reducible first | exact HB.out | apply below_alloc | apply pw_below_drewN | apply below_drew1 | refine below_set ?_ GE136.out | refine below_set ?_ GE137.out) | exact HB.out)⟩⟩
    · replace c12 := Bool.eq_false_iff.mpr c12
      subst c12
      have H1 : (if a0_2 = true then (fresh_State.j0 k t138 t139 true a0_0 a0_1 a0_2 a0_3 a0_4 a0_5 a0_6 a0_7 a0_8 a0_9 a0_10 a0_11 a0_12 a0_13 a0_14 a0_15 a0_16 a0_17 a0_18 a0_19 a0_20 a1_0 false a1_2 a1_3 a1_4 a1_5 a1_6 a1_7 a1_8 a1_9 a1_10 a1_11 a1_12) else (if a1_7 ≥ 0 then (fresh_State.j0 k t138 t139 (decide (a1_7 < t138)) a0_0 a0_1 a0_2 a0_3 a0_4 a0_5 a0_6 a0_7 a0_8 a0_9 a0_10 a0_11 a0_12 a0_13 a0_14 a0_15 a0_16 a0_17 a0_18 a0_19 a0_20 a1_0 false a1_2 a1_3 a1_4 a1_5 a1_6 a1_7 a1_8 a1_9 a1_10 a1_11 a1_12) else (fresh_State.j0 k t138 t139 false a0_0 a0_1 a0_2 a0_3 a0_4 a0_5 a0_6 a0_7 a0_8 a0_9 a0_10 a0_11 a0_12 a0_13 a0_14 a0_15 a0_16 a0_17 a0_18 a0_19 a0_20 a1_0 false a1_2 a1_3 a1_4 a1_5 a1_6 a1_7 a1_8 a1_9 a1_10 a1_11 a1_12))) = some r := by rw [if_neg (show ¬ (false = true) by decide)] at H; exact H
      clear H
      have H := H1
      clear H1
      by_cases c15 : a0_2 = true
      · subst c15
        have H1 : (fresh_State.j0 k t138 t139 true a0_0 a0_1 true a0_3 a0_4 a0_5 a0_6 a0_7 a0_8 a0_9 a0_10 a0_11 a0_12 a0_13 a0_14 a0_15 a0_16 a0_17 a0_18 a0_19 a0_20 a1_0 false a1_2 a1_3 a1_4 a1_5 a1_6 a1_7 a1_8 a1_9 a1_10 a1_11 a1_12) = some r := by rw [if_pos rfl] at H; exact H
        clear H
        have H := H1
        clear H1
        have H' := Aside0.mk H
        clear H
        have hnb16 := NB137_136.out
        have hnc16 := NB136_137.out
        have hcz17_0 : w11.cell? ⟨gb137, 0, none⟩ = some (.bool a1_0) := (blk_cell BK137.out 0).trans rfl
        have hcz17_1 : w11.cell? ⟨gb137, 1, none⟩ = some (.bool false) := (blk_cell BK137.out 1).trans rfl
        have hcz17_2 : w11.cell? ⟨gb137, 2, none⟩ = some (.bool a1_2) := (blk_cell BK137.out 2).trans rfl
        have hcz17_3 : w11.cell? ⟨gb137, 3, none⟩ = some (.bool a1_3) := (blk_cell BK137.out 3).trans rfl
        have hcz17_4 : w11.cell? ⟨gb137, 4, none⟩ = some (.bool a1_4) := (blk_cell BK137.out 4).trans rfl
        have hcz17_5 : w11.cell? ⟨gb137, 5, none⟩ = some (.bool a1_5) := (blk_cell BK137.out 5).trans rfl
        have hcz17_6 : w11.cell? ⟨gb137, 6, none⟩ = some (.bool a1_6) := (blk_cell BK137.out 6).trans rfl
        have hcz17_7 : w11.cell? ⟨gb137, 7, none⟩ = some (.int .i64 a1_7) := (blk_cell BK137.out 7).trans rfl
        have hcz17_8 : w11.cell? ⟨gb137, 8, none⟩ = some (.int .i64 a1_8) := (blk_cell BK137.out 8).trans rfl
        have hcz17_9 : w11.cell? ⟨gb137, 9, none⟩ = some (.int .i64 a1_9) := (blk_cell BK137.out 9).trans rfl
        have hcz17_10 : w11.cell? ⟨gb137, 10, none⟩ = some (.int .i64 a1_10) := (blk_cell BK137.out 10).trans rfl
        have hcz17_11 : w11.cell? ⟨gb137, 11, none⟩ = some (.int .i64 a1_11) := (blk_cell BK137.out 11).trans rfl
        have hcz17_12 : w11.cell? ⟨gb137, 12, none⟩ = some (.int .i64 a1_12) := (blk_cell BK137.out 12).trans rfl
        have hfz17_0 := blk_frozen BK137.out 0
        have hfz17_1 := blk_frozen BK137.out 1
        have hfz17_2 := blk_frozen BK137.out 2
        have hfz17_3 := blk_frozen BK137.out 3
        have hfz17_4 := blk_frozen BK137.out 4
        have hfz17_5 := blk_frozen BK137.out 5
        have hfz17_6 := blk_frozen BK137.out 6
        have hfz17_7 := blk_frozen BK137.out 7
        have hfz17_8 := blk_frozen BK137.out 8
        have hfz17_9 := blk_frozen BK137.out 9
        have hfz17_10 := blk_frozen BK137.out 10
        have hfz17_11 := blk_frozen BK137.out 11
        have hfz17_12 := blk_frozen BK137.out 12
        have hcz18_0 : w11.cell? ⟨gb136, 0, none⟩ = some (.int .i64 a0_0) := (blk_cell BK136.out 0).trans rfl
        have hcz18_1 : w11.cell? ⟨gb136, 1, none⟩ = some (.bool a0_1) := (blk_cell BK136.out 1).trans rfl
        have hcz18_2 : w11.cell? ⟨gb136, 2, none⟩ = some (.bool true) := (blk_cell BK136.out 2).trans rfl
        have hcz18_3 : w11.cell? ⟨gb136, 3, none⟩ = some (.bool a0_3) := (blk_cell BK136.out 3).trans rfl
        have hcz18_4 : w11.cell? ⟨gb136, 4, none⟩ = some (.bool a0_4) := (blk_cell BK136.out 4).trans rfl
        have hcz18_5 : w11.cell? ⟨gb136, 5, none⟩ = some (.bool a0_5) := (blk_cell BK136.out 5).trans rfl
        have hcz18_6 : w11.cell? ⟨gb136, 6, none⟩ = some (.bool a0_6) := (blk_cell BK136.out 6).trans rfl
        have hcz18_7 : w11.cell? ⟨gb136, 7, none⟩ = some (.bool a0_7) := (blk_cell BK136.out 7).trans rfl
        have hcz18_8 : w11.cell? ⟨gb136, 8, none⟩ = some (.int .i64 a0_8) := (blk_cell BK136.out 8).trans rfl
        have hcz18_9 : w11.cell? ⟨gb136, 9, none⟩ = some (.int .i64 a0_9) := (blk_cell BK136.out 9).trans rfl
        have hcz18_10 : w11.cell? ⟨gb136, 10, none⟩ = some (.int .i64 a0_10) := (blk_cell BK136.out 10).trans rfl
        have hcz18_11 : w11.cell? ⟨gb136, 11, none⟩ = some (.int .i64 a0_11) := (blk_cell BK136.out 11).trans rfl
        have hcz18_12 : w11.cell? ⟨gb136, 12, none⟩ = some (.int .i64 a0_12) := (blk_cell BK136.out 12).trans rfl
        have hcz18_13 : w11.cell? ⟨gb136, 13, none⟩ = some (.int .i64 a0_13) := (blk_cell BK136.out 13).trans rfl
        have hcz18_14 : w11.cell? ⟨gb136, 14, none⟩ = some (.int .i64 a0_14) := (blk_cell BK136.out 14).trans rfl
        have hcz18_15 : w11.cell? ⟨gb136, 15, none⟩ = some (.int .i64 a0_15) := (blk_cell BK136.out 15).trans rfl
        have hcz18_16 : w11.cell? ⟨gb136, 16, none⟩ = some (.int .i64 a0_16) := (blk_cell BK136.out 16).trans rfl
        have hcz18_17 : w11.cell? ⟨gb136, 17, none⟩ = some (.int .i64 a0_17) := (blk_cell BK136.out 17).trans rfl
        have hcz18_18 : w11.cell? ⟨gb136, 18, none⟩ = some (.int .i64 a0_18) := (blk_cell BK136.out 18).trans rfl
        have hcz18_19 : w11.cell? ⟨gb136, 19, none⟩ = some (.int .i64 a0_19) := (blk_cell BK136.out 19).trans rfl
        have hcz18_20 : w11.cell? ⟨gb136, 20, none⟩ = some (.string a0_20) := (blk_cell BK136.out 20).trans rfl
        have hfz18_0 := blk_frozen BK136.out 0
        have hfz18_1 := blk_frozen BK136.out 1
        have hfz18_2 := blk_frozen BK136.out 2
        have hfz18_3 := blk_frozen BK136.out 3
        have hfz18_4 := blk_frozen BK136.out 4
        have hfz18_5 := blk_frozen BK136.out 5
        have hfz18_6 := blk_frozen BK136.out 6
        have hfz18_7 := blk_frozen BK136.out 7
        have hfz18_8 := blk_frozen BK136.out 8
        have hfz18_9 := blk_frozen BK136.out 9
        have hfz18_10 := blk_frozen BK136.out 10
        have hfz18_11 := blk_frozen BK136.out 11
        have hfz18_12 := blk_frozen BK136.out 12
        have hfz18_13 := blk_frozen BK136.out 13
        have hfz18_14 := blk_frozen BK136.out 14
        have hfz18_15 := blk_frozen BK136.out 15
        have hfz18_16 := blk_frozen BK136.out 16
        have hfz18_17 := blk_frozen BK136.out 17
        have hfz18_18 := blk_frozen BK136.out 18
        have hfz18_19 := blk_frozen BK136.out 19
        have hfz18_20 := blk_frozen BK136.out 20
        go_wp2_with (first | ((first | (with_reducible refine gate_dst (N := 9) rfl ?_) | (with_reducible refine gate_dst (N := 12) rfl ?_)); refine wpList_load_mid rfl 25 (.tmp 3) rfl _ _ (by rfl) [_, _, _, _, _, _, _, _, _, _, _, _, _, _, _, _, _, _, _, _, _] _ (cellsAt_range _ (by (repeat (refine ⟨by assumption, ?_⟩)); exact trivial)) Try.underlying25 rfl (by kernel_rfl) ?_) | ((with_reducible refine gate_dst (N := 39) rfl ?_); refine wpList_load_mid rfl 23 (.tmp 4) rfl _ _ (by rfl) [_, _, _, _, _, _, _, _, _, _, _, _, _] _ (cellsAt_range _ (by (repeat (refine ⟨by assumption, ?_⟩)); exact trivial)) Try.underlying23 rfl (by kernel_rfl) ?_))
        go_meet
        case rel => exact ⟨_, (true), (by first | rfl | (simp; done) | exact ret_ne _ | (simp [*]; done)), H', ⟨by first | omega | exact Nat.le_refl _⟩, ⟨by (with_reducible repeat (first | refine blk_drewN ?_ _ | refine blk_drew ?_ | refine blk_alloc ?_ _)); exact BK136.out⟩, ⟨by (with_reducible repeat (first | refine blk_drewN ?_ _ | refine blk_drew ?_ | refine blk_alloc ?_ _)); exact BK137.out⟩, ⟨by repeat (first | (with_reducible first | exact HB.out | apply below_alloc | apply pw_below_drewN | apply below_drew1 | refine below_set ?_ GE136.out | refine below_set ?_ GE137.out) | exact HB.out)⟩⟩
      · replace c15 := Bool.eq_false_iff.mpr c15
        subst c15
        have H1 : (if a1_7 ≥ 0 then (fresh_State.j0 k t138 t139 (decide (a1_7 < t138)) a0_0 a0_1 false a0_3 a0_4 a0_5 a0_6 a0_7 a0_8 a0_9 a0_10 a0_11 a0_12 a0_13 a0_14 a0_15 a0_16 a0_17 a0_18 a0_19 a0_20 a1_0 false a1_2 a1_3 a1_4 a1_5 a1_6 a1_7 a1_8 a1_9 a1_10 a1_11 a1_12) else (fresh_State.j0 k t138 t139 false a0_0 a0_1 false a0_3 a0_4 a0_5 a0_6 a0_7 a0_8 a0_9 a0_10 a0_11 a0_12 a0_13 a0_14 a0_15 a0_16 a0_17 a0_18 a0_19 a0_20 a1_0 false a1_2 a1_3 a1_4 a1_5 a1_6 a1_7 a1_8 a1_9 a1_10 a1_11 a1_12)) = some r := by rw [if_neg (show ¬ (false = true) by decide)] at H; exact H
        clear H
        have H := H1
        clear H1
        by_cases c19 : a1_7 ≥ 0
        · rw [if_pos c19] at H
          have c19b0 : decide (0 ≤ a1_7) = true := decide_eq_true c19
          clear c19
          (first | rw [c19b0] | (simp only [i64_w, i32_w]; rw [c19b0]) | skip)
          have H' := Aside0.mk H
          clear H
          have hnb20 := NB137_136.out
          have hnc20 := NB136_137.out
          have hcz21_0 : w11.cell? ⟨gb137, 0, none⟩ = some (.bool a1_0) := (blk_cell BK137.out 0).trans rfl
          have hcz21_1 : w11.cell? ⟨gb137, 1, none⟩ = some (.bool false) := (blk_cell BK137.out 1).trans rfl
          have hcz21_2 : w11.cell? ⟨gb137, 2, none⟩ = some (.bool a1_2) := (blk_cell BK137.out 2).trans rfl
          have hcz21_3 : w11.cell? ⟨gb137, 3, none⟩ = some (.bool a1_3) := (blk_cell BK137.out 3).trans rfl
          have hcz21_4 : w11.cell? ⟨gb137, 4, none⟩ = some (.bool a1_4) := (blk_cell BK137.out 4).trans rfl
          have hcz21_5 : w11.cell? ⟨gb137, 5, none⟩ = some (.bool a1_5) := (blk_cell BK137.out 5).trans rfl
          have hcz21_6 : w11.cell? ⟨gb137, 6, none⟩ = some (.bool a1_6) := (blk_cell BK137.out 6).trans rfl
          have hcz21_7 : w11.cell? ⟨gb137, 7, none⟩ = some (.int .i64 a1_7) := (blk_cell BK137.out 7).trans rfl
          have hcz21_8 : w11.cell? ⟨gb137, 8, none⟩ = some (.int .i64 a1_8) := (blk_cell BK137.out 8).trans rfl
          have hcz21_9 : w11.cell? ⟨gb137, 9, none⟩ = some (.int .i64 a1_9) := (blk_cell BK137.out 9).trans rfl
          have hcz21_10 : w11.cell? ⟨gb137, 10, none⟩ = some (.int .i64 a1_10) := (blk_cell BK137.out 10).trans rfl
          have hcz21_11 : w11.cell? ⟨gb137, 11, none⟩ = some (.int .i64 a1_11) := (blk_cell BK137.out 11).trans rfl
          have hcz21_12 : w11.cell? ⟨gb137, 12, none⟩ = some (.int .i64 a1_12) := (blk_cell BK137.out 12).trans rfl
          have hfz21_0 := blk_frozen BK137.out 0
          have hfz21_1 := blk_frozen BK137.out 1
          have hfz21_2 := blk_frozen BK137.out 2
          have hfz21_3 := blk_frozen BK137.out 3
          have hfz21_4 := blk_frozen BK137.out 4
          have hfz21_5 := blk_frozen BK137.out 5
          have hfz21_6 := blk_frozen BK137.out 6
          have hfz21_7 := blk_frozen BK137.out 7
          have hfz21_8 := blk_frozen BK137.out 8
          have hfz21_9 := blk_frozen BK137.out 9
          have hfz21_10 := blk_frozen BK137.out 10
          have hfz21_11 := blk_frozen BK137.out 11
          have hfz21_12 := blk_frozen BK137.out 12
          have hcz22_0 : w11.cell? ⟨gb136, 0, none⟩ = some (.int .i64 a0_0) := (blk_cell BK136.out 0).trans rfl
          have hcz22_1 : w11.cell? ⟨gb136, 1, none⟩ = some (.bool a0_1) := (blk_cell BK136.out 1).trans rfl
          have hcz22_2 : w11.cell? ⟨gb136, 2, none⟩ = some (.bool false) := (blk_cell BK136.out 2).trans rfl
          have hcz22_3 : w11.cell? ⟨gb136, 3, none⟩ = some (.bool a0_3) := (blk_cell BK136.out 3).trans rfl
          have hcz22_4 : w11.cell? ⟨gb136, 4, none⟩ = some (.bool a0_4) := (blk_cell BK136.out 4).trans rfl
          have hcz22_5 : w11.cell? ⟨gb136, 5, none⟩ = some (.bool a0_5) := (blk_cell BK136.out 5).trans rfl
          have hcz22_6 : w11.cell? ⟨gb136, 6, none⟩ = some (.bool a0_6) := (blk_cell BK136.out 6).trans rfl
          have hcz22_7 : w11.cell? ⟨gb136, 7, none⟩ = some (.bool a0_7) := (blk_cell BK136.out 7).trans rfl
          have hcz22_8 : w11.cell? ⟨gb136, 8, none⟩ = some (.int .i64 a0_8) := (blk_cell BK136.out 8).trans rfl
          have hcz22_9 : w11.cell? ⟨gb136, 9, none⟩ = some (.int .i64 a0_9) := (blk_cell BK136.out 9).trans rfl
          have hcz22_10 : w11.cell? ⟨gb136, 10, none⟩ = some (.int .i64 a0_10) := (blk_cell BK136.out 10).trans rfl
          have hcz22_11 : w11.cell? ⟨gb136, 11, none⟩ = some (.int .i64 a0_11) := (blk_cell BK136.out 11).trans rfl
          have hcz22_12 : w11.cell? ⟨gb136, 12, none⟩ = some (.int .i64 a0_12) := (blk_cell BK136.out 12).trans rfl
          have hcz22_13 : w11.cell? ⟨gb136, 13, none⟩ = some (.int .i64 a0_13) := (blk_cell BK136.out 13).trans rfl
          have hcz22_14 : w11.cell? ⟨gb136, 14, none⟩ = some (.int .i64 a0_14) := (blk_cell BK136.out 14).trans rfl
          have hcz22_15 : w11.cell? ⟨gb136, 15, none⟩ = some (.int .i64 a0_15) := (blk_cell BK136.out 15).trans rfl
          have hcz22_16 : w11.cell? ⟨gb136, 16, none⟩ = some (.int .i64 a0_16) := (blk_cell BK136.out 16).trans rfl
          have hcz22_17 : w11.cell? ⟨gb136, 17, none⟩ = some (.int .i64 a0_17) := (blk_cell BK136.out 17).trans rfl
          have hcz22_18 : w11.cell? ⟨gb136, 18, none⟩ = some (.int .i64 a0_18) := (blk_cell BK136.out 18).trans rfl
          have hcz22_19 : w11.cell? ⟨gb136, 19, none⟩ = some (.int .i64 a0_19) := (blk_cell BK136.out 19).trans rfl
          have hcz22_20 : w11.cell? ⟨gb136, 20, none⟩ = some (.string a0_20) := (blk_cell BK136.out 20).trans rfl
          have hfz22_0 := blk_frozen BK136.out 0
          have hfz22_1 := blk_frozen BK136.out 1
          have hfz22_2 := blk_frozen BK136.out 2
          have hfz22_3 := blk_frozen BK136.out 3
          have hfz22_4 := blk_frozen BK136.out 4
          have hfz22_5 := blk_frozen BK136.out 5
          have hfz22_6 := blk_frozen BK136.out 6
          have hfz22_7 := blk_frozen BK136.out 7
          have hfz22_8 := blk_frozen BK136.out 8
          have hfz22_9 := blk_frozen BK136.out 9
          have hfz22_10 := blk_frozen BK136.out 10
          have hfz22_11 := blk_frozen BK136.out 11
          have hfz22_12 := blk_frozen BK136.out 12
          have hfz22_13 := blk_frozen BK136.out 13
          have hfz22_14 := blk_frozen BK136.out 14
          have hfz22_15 := blk_frozen BK136.out 15
          have hfz22_16 := blk_frozen BK136.out 16
          have hfz22_17 := blk_frozen BK136.out 17
          have hfz22_18 := blk_frozen BK136.out 18
          have hfz22_19 := blk_frozen BK136.out 19
          have hfz22_20 := blk_frozen BK136.out 20
          go_wp2_with (first | ((first | (with_reducible refine gate_dst (N := 9) rfl ?_) | (with_reducible refine gate_dst (N := 12) rfl ?_)); refine wpList_load_mid rfl 25 (.tmp 3) rfl _ _ (by rfl) [_, _, _, _, _, _, _, _, _, _, _, _, _, _, _, _, _, _, _, _, _] _ (cellsAt_range _ (by (repeat (refine ⟨by assumption, ?_⟩)); exact trivial)) Try.underlying25 rfl (by kernel_rfl) ?_) | ((with_reducible refine gate_dst (N := 39) rfl ?_); refine wpList_load_mid rfl 23 (.tmp 4) rfl _ _ (by rfl) [_, _, _, _, _, _, _, _, _, _, _, _, _] _ (cellsAt_range _ (by (repeat (refine ⟨by assumption, ?_⟩)); exact trivial)) Try.underlying23 rfl (by kernel_rfl) ?_))
          go_meet
          case rel => exact ⟨_, (decide (a1_7 < t138)), (by first | rfl | (simp; done) | exact ret_ne _ | (simp [*]; done)), H', ⟨by first | omega | exact Nat.le_refl _⟩, ⟨by (with_reducible repeat (first | refine blk_drewN ?_ _ | refine blk_drew ?_ | refine blk_alloc ?_ _)); exact BK136.out⟩, ⟨by (with_reducible repeat (first | refine blk_drewN ?_ _ | refine blk_drew ?_ | refine blk_alloc ?_ _)); exact BK137.out⟩, ⟨by repeat (first | (with_reducible first | exact HB.out | apply below_alloc | apply pw_below_drewN | apply below_drew1 | refine below_set ?_ GE136.out | refine below_set ?_ GE137.out) | exact HB.out)⟩⟩
        · rw [if_neg c19] at H
          have c19b0 : decide (0 ≤ a1_7) = false := decide_eq_false c19
          clear c19
          (first | rw [c19b0] | (simp only [i64_w, i32_w]; rw [c19b0]) | skip)
          have H' := Aside0.mk H
          clear H
          have hnb23 := NB137_136.out
          have hnc23 := NB136_137.out
          have hcz24_0 : w11.cell? ⟨gb137, 0, none⟩ = some (.bool a1_0) := (blk_cell BK137.out 0).trans rfl
          have hcz24_1 : w11.cell? ⟨gb137, 1, none⟩ = some (.bool false) := (blk_cell BK137.out 1).trans rfl
          have hcz24_2 : w11.cell? ⟨gb137, 2, none⟩ = some (.bool a1_2) := (blk_cell BK137.out 2).trans rfl
          have hcz24_3 : w11.cell? ⟨gb137, 3, none⟩ = some (.bool a1_3) := (blk_cell BK137.out 3).trans rfl
          have hcz24_4 : w11.cell? ⟨gb137, 4, none⟩ = some (.bool a1_4) := (blk_cell BK137.out 4).trans rfl
          have hcz24_5 : w11.cell? ⟨gb137, 5, none⟩ = some (.bool a1_5) := (blk_cell BK137.out 5).trans rfl
          have hcz24_6 : w11.cell? ⟨gb137, 6, none⟩ = some (.bool a1_6) := (blk_cell BK137.out 6).trans rfl
          have hcz24_7 : w11.cell? ⟨gb137, 7, none⟩ = some (.int .i64 a1_7) := (blk_cell BK137.out 7).trans rfl
          have hcz24_8 : w11.cell? ⟨gb137, 8, none⟩ = some (.int .i64 a1_8) := (blk_cell BK137.out 8).trans rfl
          have hcz24_9 : w11.cell? ⟨gb137, 9, none⟩ = some (.int .i64 a1_9) := (blk_cell BK137.out 9).trans rfl
          have hcz24_10 : w11.cell? ⟨gb137, 10, none⟩ = some (.int .i64 a1_10) := (blk_cell BK137.out 10).trans rfl
          have hcz24_11 : w11.cell? ⟨gb137, 11, none⟩ = some (.int .i64 a1_11) := (blk_cell BK137.out 11).trans rfl
          have hcz24_12 : w11.cell? ⟨gb137, 12, none⟩ = some (.int .i64 a1_12) := (blk_cell BK137.out 12).trans rfl
          have hfz24_0 := blk_frozen BK137.out 0
          have hfz24_1 := blk_frozen BK137.out 1
          have hfz24_2 := blk_frozen BK137.out 2
          have hfz24_3 := blk_frozen BK137.out 3
          have hfz24_4 := blk_frozen BK137.out 4
          have hfz24_5 := blk_frozen BK137.out 5
          have hfz24_6 := blk_frozen BK137.out 6
          have hfz24_7 := blk_frozen BK137.out 7
          have hfz24_8 := blk_frozen BK137.out 8
          have hfz24_9 := blk_frozen BK137.out 9
          have hfz24_10 := blk_frozen BK137.out 10
          have hfz24_11 := blk_frozen BK137.out 11
          have hfz24_12 := blk_frozen BK137.out 12
          have hcz25_0 : w11.cell? ⟨gb136, 0, none⟩ = some (.int .i64 a0_0) := (blk_cell BK136.out 0).trans rfl
          have hcz25_1 : w11.cell? ⟨gb136, 1, none⟩ = some (.bool a0_1) := (blk_cell BK136.out 1).trans rfl
          have hcz25_2 : w11.cell? ⟨gb136, 2, none⟩ = some (.bool false) := (blk_cell BK136.out 2).trans rfl
          have hcz25_3 : w11.cell? ⟨gb136, 3, none⟩ = some (.bool a0_3) := (blk_cell BK136.out 3).trans rfl
          have hcz25_4 : w11.cell? ⟨gb136, 4, none⟩ = some (.bool a0_4) := (blk_cell BK136.out 4).trans rfl
          have hcz25_5 : w11.cell? ⟨gb136, 5, none⟩ = some (.bool a0_5) := (blk_cell BK136.out 5).trans rfl
          have hcz25_6 : w11.cell? ⟨gb136, 6, none⟩ = some (.bool a0_6) := (blk_cell BK136.out 6).trans rfl
          have hcz25_7 : w11.cell? ⟨gb136, 7, none⟩ = some (.bool a0_7) := (blk_cell BK136.out 7).trans rfl
          have hcz25_8 : w11.cell? ⟨gb136, 8, none⟩ = some (.int .i64 a0_8) := (blk_cell BK136.out 8).trans rfl
          have hcz25_9 : w11.cell? ⟨gb136, 9, none⟩ = some (.int .i64 a0_9) := (blk_cell BK136.out 9).trans rfl
          have hcz25_10 : w11.cell? ⟨gb136, 10, none⟩ = some (.int .i64 a0_10) := (blk_cell BK136.out 10).trans rfl
          have hcz25_11 : w11.cell? ⟨gb136, 11, none⟩ = some (.int .i64 a0_11) := (blk_cell BK136.out 11).trans rfl
          have hcz25_12 : w11.cell? ⟨gb136, 12, none⟩ = some (.int .i64 a0_12) := (blk_cell BK136.out 12).trans rfl
          have hcz25_13 : w11.cell? ⟨gb136, 13, none⟩ = some (.int .i64 a0_13) := (blk_cell BK136.out 13).trans rfl
          have hcz25_14 : w11.cell? ⟨gb136, 14, none⟩ = some (.int .i64 a0_14) := (blk_cell BK136.out 14).trans rfl
          have hcz25_15 : w11.cell? ⟨gb136, 15, none⟩ = some (.int .i64 a0_15) := (blk_cell BK136.out 15).trans rfl
          have hcz25_16 : w11.cell? ⟨gb136, 16, none⟩ = some (.int .i64 a0_16) := (blk_cell BK136.out 16).trans rfl
          have hcz25_17 : w11.cell? ⟨gb136, 17, none⟩ = some (.int .i64 a0_17) := (blk_cell BK136.out 17).trans rfl
          have hcz25_18 : w11.cell? ⟨gb136, 18, none⟩ = some (.int .i64 a0_18) := (blk_cell BK136.out 18).trans rfl
          have hcz25_19 : w11.cell? ⟨gb136, 19, none⟩ = some (.int .i64 a0_19) := (blk_cell BK136.out 19).trans rfl
          have hcz25_20 : w11.cell? ⟨gb136, 20, none⟩ = some (.string a0_20) := (blk_cell BK136.out 20).trans rfl
          have hfz25_0 := blk_frozen BK136.out 0
          have hfz25_1 := blk_frozen BK136.out 1
          have hfz25_2 := blk_frozen BK136.out 2
          have hfz25_3 := blk_frozen BK136.out 3
          have hfz25_4 := blk_frozen BK136.out 4
          have hfz25_5 := blk_frozen BK136.out 5
          have hfz25_6 := blk_frozen BK136.out 6
          have hfz25_7 := blk_frozen BK136.out 7
          have hfz25_8 := blk_frozen BK136.out 8
          have hfz25_9 := blk_frozen BK136.out 9
          have hfz25_10 := blk_frozen BK136.out 10
          have hfz25_11 := blk_frozen BK136.out 11
          have hfz25_12 := blk_frozen BK136.out 12
          have hfz25_13 := blk_frozen BK136.out 13
          have hfz25_14 := blk_frozen BK136.out 14
          have hfz25_15 := blk_frozen BK136.out 15
          have hfz25_16 := blk_frozen BK136.out 16
          have hfz25_17 := blk_frozen BK136.out 17
          have hfz25_18 := blk_frozen BK136.out 18
          have hfz25_19 := blk_frozen BK136.out 19
          have hfz25_20 := blk_frozen BK136.out 20
          go_wp2_with (first | ((first | (with_reducible refine gate_dst (N := 9) rfl ?_) | (with_reducible refine gate_dst (N := 12) rfl ?_)); refine wpList_load_mid rfl 25 (.tmp 3) rfl _ _ (by rfl) [_, _, _, _, _, _, _, _, _, _, _, _, _, _, _, _, _, _, _, _, _] _ (cellsAt_range _ (by (repeat (refine ⟨by assumption, ?_⟩)); exact trivial)) Try.underlying25 rfl (by kernel_rfl) ?_) | ((with_reducible refine gate_dst (N := 39) rfl ?_); refine wpList_load_mid rfl 23 (.tmp 4) rfl _ _ (by rfl) [_, _, _, _, _, _, _, _, _, _, _, _, _] _ (cellsAt_range _ (by (repeat (refine ⟨by assumption, ?_⟩)); exact trivial)) Try.underlying23 rfl (by kernel_rfl) ?_))
          go_meet
          case rel => exact ⟨_, (false), (by first | rfl | (simp; done) | exact ret_ne _ | (simp [*]; done)), H', ⟨by first | omega | exact Nat.le_refl _⟩, ⟨by (with_reducible repeat (first | refine blk_drewN ?_ _ | refine blk_drew ?_ | refine blk_alloc ?_ _)); exact BK136.out⟩, ⟨by (with_reducible repeat (first | refine blk_drewN ?_ _ | refine blk_drew ?_ | refine blk_alloc ?_ _)); exact BK137.out⟩, ⟨by repeat (first | (with_reducible first | exact HB.out | apply below_alloc | apply pw_below_drewN | apply below_drew1 | refine below_set ?_ GE136.out | refine below_set ?_ GE137.out) | exact HB.out)⟩⟩
  case rest =>
    clear HC6
    try clear c1
    try clear c2
    try clear p2
    try clear c8
    try clear c11
    try clear c12
    try clear c13
    try clear c15
    try clear c16
    try clear c19
    try clear c19b0
    try clear c20
    try clear c23
    try clear hcz14_0
    try clear hcz14_1
    try clear hcz14_10
    try clear hcz14_11
    try clear hcz14_12
    try clear hcz14_2
    try clear hcz14_3
    try clear hcz14_4
    try clear hcz14_5
    try clear hcz14_6
    try clear hcz14_7
    try clear hcz14_8
    try clear hcz14_9
    try clear hcz17_0
    try clear hcz17_1
    try clear hcz17_10
    try clear hcz17_11
    try clear hcz17_12
    try clear hcz17_2
    try clear hcz17_3
    try clear hcz17_4
    try clear hcz17_5
    try clear hcz17_6
    try clear hcz17_7
    try clear hcz17_8
    try clear hcz17_9
    try clear hcz18_0
    try clear hcz18_1
    try clear hcz18_10
    try clear hcz18_11
    try clear hcz18_12
    try clear hcz18_13
    try clear hcz18_14
    try clear hcz18_15
    try clear hcz18_16
    try clear hcz18_17
    try clear hcz18_18
    try clear hcz18_19
    try clear hcz18_2
    try clear hcz18_20
    try clear hcz18_3
    try clear hcz18_4
    try clear hcz18_5
    try clear hcz18_6
    try clear hcz18_7
    try clear hcz18_8
    try clear hcz18_9
    try clear hcz21_0
    try clear hcz21_1
    try clear hcz21_10
    try clear hcz21_11
    try clear hcz21_12
    try clear hcz21_2
    try clear hcz21_3
    try clear hcz21_4
    try clear hcz21_5
    try clear hcz21_6
    try clear hcz21_7
    try clear hcz21_8
    try clear hcz21_9
    try clear hcz22_0
    try clear hcz22_1
    try clear hcz22_10
    try clear hcz22_11
    try clear hcz22_12
    try clear hcz22_13
    try clear hcz22_14
    try clear hcz22_15
    try clear hcz22_16
    try clear hcz22_17
    try clear hcz22_18
    try clear hcz22_19
    try clear hcz22_2
    try clear hcz22_20
    try clear hcz22_3
    try clear hcz22_4
    try clear hcz22_5
    try clear hcz22_6
    try clear hcz22_7
    try clear hcz22_8
    try clear hcz22_9
    try clear hcz24_0
    try clear hcz24_1
    try clear hcz24_10
    try clear hcz24_11
    try clear hcz24_12
    try clear hcz24_2
    try clear hcz24_3
    try clear hcz24_4
    try clear hcz24_5
    try clear hcz24_6
    try clear hcz24_7
    try clear hcz24_8
    try clear hcz24_9
    try clear hcz25_0
    try clear hcz25_1
    try clear hcz25_10
    try clear hcz25_11
    try clear hcz25_12
    try clear hcz25_13
    try clear hcz25_14
    try clear hcz25_15
    try clear hcz25_16
    try clear hcz25_17
    try clear hcz25_18
    try clear hcz25_19
    try clear hcz25_2
    try clear hcz25_20
    try clear hcz25_3
    try clear hcz25_4
    try clear hcz25_5
    try clear hcz25_6
    try clear hcz25_7
    try clear hcz25_8
    try clear hcz25_9
    try clear hfz14_0
    try clear hfz14_1
    try clear hfz14_10
    try clear hfz14_11
    try clear hfz14_12
    try clear hfz14_2
    try clear hfz14_3
    try clear hfz14_4
    try clear hfz14_5
    try clear hfz14_6
    try clear hfz14_7
    try clear hfz14_8
    try clear hfz14_9
    try clear hfz17_0
    try clear hfz17_1
    try clear hfz17_10
    try clear hfz17_11
    try clear hfz17_12
    try clear hfz17_2
    try clear hfz17_3
    try clear hfz17_4
    try clear hfz17_5
    try clear hfz17_6
    try clear hfz17_7
    try clear hfz17_8
    try clear hfz17_9
    try clear hfz18_0
    try clear hfz18_1
    try clear hfz18_10
    try clear hfz18_11
    try clear hfz18_12
    try clear hfz18_13
    try clear hfz18_14
    try clear hfz18_15
    try clear hfz18_16
    try clear hfz18_17
    try clear hfz18_18
    try clear hfz18_19
    try clear hfz18_2
    try clear hfz18_20
    try clear hfz18_3
    try clear hfz18_4
    try clear hfz18_5
    try clear hfz18_6
    try clear hfz18_7
    try clear hfz18_8
    try clear hfz18_9
    try clear hfz21_0
    try clear hfz21_1
    try clear hfz21_10
    try clear hfz21_11
    try clear hfz21_12
    try clear hfz21_2
    try clear hfz21_3
    try clear hfz21_4
    try clear hfz21_5
    try clear hfz21_6
    try clear hfz21_7
    try clear hfz21_8
    try clear hfz21_9
    try clear hfz22_0
    try clear hfz22_1
    try clear hfz22_10
    try clear hfz22_11
    try clear hfz22_12
    try clear hfz22_13
    try clear hfz22_14
    try clear hfz22_15
    try clear hfz22_16
    try clear hfz22_17
    try clear hfz22_18
    try clear hfz22_19
    try clear hfz22_2
    try clear hfz22_20
    try clear hfz22_3
    try clear hfz22_4
    try clear hfz22_5
    try clear hfz22_6
    try clear hfz22_7
    try clear hfz22_8
    try clear hfz22_9
    try clear hfz24_0
    try clear hfz24_1
    try clear hfz24_10
    try clear hfz24_11
    try clear hfz24_12
    try clear hfz24_2
    try clear hfz24_3
    try clear hfz24_4
    try clear hfz24_5
    try clear hfz24_6
    try clear hfz24_7
    try clear hfz24_8
    try clear hfz24_9
    try clear hfz25_0
    try clear hfz25_1
    try clear hfz25_10
    try clear hfz25_11
    try clear hfz25_12
    try clear hfz25_13
    try clear hfz25_14
    try clear hfz25_15
    try clear hfz25_16
    try clear hfz25_17
    try clear hfz25_18
    try clear hfz25_19
    try clear hfz25_2
    try clear hfz25_20
    try clear hfz25_3
    try clear hfz25_4
    try clear hfz25_5
    try clear hfz25_6
    try clear hfz25_7
    try clear hfz25_8
    try clear hfz25_9
    obtain ⟨kq, x14_5, rfl, HA, HJ5, BK136, BK137, HB⟩ := hcut
    cases kq with
    | zero => exact absurd HA.out (by simp [fresh_State.j0])
    | succ kj5 =>
      have H := HA.out
      clear HA
      simp only [fresh_State.j0] at H
      by_cases c26 : x14_5 = true
      · subst c26
        have H1 : (some 2) = some r := by rw [if_pos rfl] at H; exact H
        clear H
        have H := H1
        clear H1
        obtain rfl := Option.some.inj H
        go_wp2_with (first | ((first | (with_reducible refine gate_dst (N := 9) rfl ?_) | (with_reducible refine gate_dst (N := 12) rfl ?_)); refine wpList_load_mid rfl 25 (.tmp 3) rfl _ _ (by rfl) [_, _, _, _, _, _, _, _, _, _, _, _, _, _, _, _, _, _, _, _, _] _ (cellsAt_range _ (by (repeat (refine ⟨by assumption, ?_⟩)); exact trivial)) Try.underlying25 rfl (by kernel_rfl) ?_) | ((with_reducible refine gate_dst (N := 39) rfl ?_); refine wpList_load_mid rfl 23 (.tmp 4) rfl _ _ (by rfl) [_, _, _, _, _, _, _, _, _, _, _, _, _] _ (cellsAt_range _ (by (repeat (refine ⟨by assumption, ?_⟩)); exact trivial)) Try.underlying23 rfl (by kernel_rfl) ?_))
        go_ret
        exact ⟨by first | rfl | (simp [errW_none, errW_some] <;> rfl) | (simp [*, errW_none, errW_some] <;> rfl), by repeat (first | (with_reducible first | exact HB.out | apply below_alloc | apply pw_below_drewN | apply below_drew1 | refine below_set ?_ GE136.out | refine below_set ?_ GE137.out) | exact HB.out)⟩
      · replace c26 := Bool.eq_false_iff.mpr c26
        subst c26
        have H1 : (if t138 ≥ t139 then ((fresh_late.f kj5 a0_1 a0_2 a0_3 a0_4 a0_5 a0_6 a0_7 a0_8 a0_9 a0_10 a0_11 a0_12 a0_13 a1_0 a1_1 a1_2 a1_3 a1_4 a1_5 a1_6 a1_7 a1_8 a1_9 a1_10 a1_11 a1_12 (wrap64 (t138 - t139))).bind fun t140 => (some t140)) else (if a1_11 > (wrap64 (t139 - t138)) then (some 2) else (some 0))) = some r := by rw [if_neg (show ¬ (false = true) by decide)] at H; exact H
        clear H
        have H := H1
        clear H1
        by_cases c27 : t138 ≥ t139
        · rw [if_pos c27] at H
          have c27b0 : decide (t139 ≤ t138) = true := decide_eq_true c27
          clear c27
          replace H := Option.bind_eq_some_iff.mp H
          obtain ⟨t140, A280, H⟩ := H
          replace H : (some t140) = some r := H
          have A28 := Aside0.mk A280
          clear A280
          obtain rfl := Option.some.inj H
          have hnb29 := NB136_137.out
          have hnc29 := NB137_136.out
          have hcz30_0 : wc.cell? ⟨gb136, 0, none⟩ = some (.int .i64 a0_0) := (blk_cell BK136.out 0).trans rfl
          have hcz30_1 : wc.cell? ⟨gb136, 1, none⟩ = some (.bool a0_1) := (blk_cell BK136.out 1).trans rfl
          have hcz30_2 : wc.cell? ⟨gb136, 2, none⟩ = some (.bool a0_2) := (blk_cell BK136.out 2).trans rfl
          have hcz30_3 : wc.cell? ⟨gb136, 3, none⟩ = some (.bool a0_3) := (blk_cell BK136.out 3).trans rfl
          have hcz30_4 : wc.cell? ⟨gb136, 4, none⟩ = some (.bool a0_4) := (blk_cell BK136.out 4).trans rfl
          have hcz30_5 : wc.cell? ⟨gb136, 5, none⟩ = some (.bool a0_5) := (blk_cell BK136.out 5).trans rfl
          have hcz30_6 : wc.cell? ⟨gb136, 6, none⟩ = some (.bool a0_6) := (blk_cell BK136.out 6).trans rfl
          have hcz30_7 : wc.cell? ⟨gb136, 7, none⟩ = some (.bool a0_7) := (blk_cell BK136.out 7).trans rfl
          have hcz30_8 : wc.cell? ⟨gb136, 8, none⟩ = some (.int .i64 a0_8) := (blk_cell BK136.out 8).trans rfl
          have hcz30_9 : wc.cell? ⟨gb136, 9, none⟩ = some (.int .i64 a0_9) := (blk_cell BK136.out 9).trans rfl
          have hcz30_10 : wc.cell? ⟨gb136, 10, none⟩ = some (.int .i64 a0_10) := (blk_cell BK136.out 10).trans rfl
          have hcz30_11 : wc.cell? ⟨gb136, 11, none⟩ = some (.int .i64 a0_11) := (blk_cell BK136.out 11).trans rfl
          have hcz30_12 : wc.cell? ⟨gb136, 12, none⟩ = some (.int .i64 a0_12) := (blk_cell BK136.out 12).trans rfl
          have hcz30_13 : wc.cell? ⟨gb136, 13, none⟩ = some (.int .i64 a0_13) := (blk_cell BK136.out 13).trans rfl
          have hcz30_14 : wc.cell? ⟨gb136, 14, none⟩ = some (.int .i64 a0_14) := (blk_cell BK136.out 14).trans rfl
          have hcz30_15 : wc.cell? ⟨gb136, 15, none⟩ = some (.int .i64 a0_15) := (blk_cell BK136.out 15).trans rfl
          have hcz30_16 : wc.cell? ⟨gb136, 16, none⟩ = some (.int .i64 a0_16) := (blk_cell BK136.out 16).trans rfl
          have hcz30_17 : wc.cell? ⟨gb136, 17, none⟩ = some (.int .i64 a0_17) := (blk_cell BK136.out 17).trans rfl
          have hcz30_18 : wc.cell? ⟨gb136, 18, none⟩ = some (.int .i64 a0_18) := (blk_cell BK136.out 18).trans rfl
          have hcz30_19 : wc.cell? ⟨gb136, 19, none⟩ = some (.int .i64 a0_19) := (blk_cell BK136.out 19).trans rfl
          have hcz30_20 : wc.cell? ⟨gb136, 20, none⟩ = some (.string a0_20) := (blk_cell BK136.out 20).trans rfl
          have hfz30_0 := blk_frozen BK136.out 0
          have hfz30_1 := blk_frozen BK136.out 1
          have hfz30_2 := blk_frozen BK136.out 2
          have hfz30_3 := blk_frozen BK136.out 3
          have hfz30_4 := blk_frozen BK136.out 4
          have hfz30_5 := blk_frozen BK136.out 5
          have hfz30_6 := blk_frozen BK136.out 6
          have hfz30_7 := blk_frozen BK136.out 7
          have hfz30_8 := blk_frozen BK136.out 8
          have hfz30_9 := blk_frozen BK136.out 9
          have hfz30_10 := blk_frozen BK136.out 10
          have hfz30_11 := blk_frozen BK136.out 11
          have hfz30_12 := blk_frozen BK136.out 12
          have hfz30_13 := blk_frozen BK136.out 13
          have hfz30_14 := blk_frozen BK136.out 14
          have hfz30_15 := blk_frozen BK136.out 15
          have hfz30_16 := blk_frozen BK136.out 16
          have hfz30_17 := blk_frozen BK136.out 17
          have hfz30_18 := blk_frozen BK136.out 18
          have hfz30_19 := blk_frozen BK136.out 19
          have hfz30_20 := blk_frozen BK136.out 20
          have hcz31_0 : wc.cell? ⟨gb137, 0, none⟩ = some (.bool a1_0) := (blk_cell BK137.out 0).trans rfl
          have hcz31_1 : wc.cell? ⟨gb137, 1, none⟩ = some (.bool a1_1) := (blk_cell BK137.out 1).trans rfl
          have hcz31_2 : wc.cell? ⟨gb137, 2, none⟩ = some (.bool a1_2) := (blk_cell BK137.out 2).trans rfl
          have hcz31_3 : wc.cell? ⟨gb137, 3, none⟩ = some (.bool a1_3) := (blk_cell BK137.out 3).trans rfl
          have hcz31_4 : wc.cell? ⟨gb137, 4, none⟩ = some (.bool a1_4) := (blk_cell BK137.out 4).trans rfl
          have hcz31_5 : wc.cell? ⟨gb137, 5, none⟩ = some (.bool a1_5) := (blk_cell BK137.out 5).trans rfl
          have hcz31_6 : wc.cell? ⟨gb137, 6, none⟩ = some (.bool a1_6) := (blk_cell BK137.out 6).trans rfl
          have hcz31_7 : wc.cell? ⟨gb137, 7, none⟩ = some (.int .i64 a1_7) := (blk_cell BK137.out 7).trans rfl
          have hcz31_8 : wc.cell? ⟨gb137, 8, none⟩ = some (.int .i64 a1_8) := (blk_cell BK137.out 8).trans rfl
          have hcz31_9 : wc.cell? ⟨gb137, 9, none⟩ = some (.int .i64 a1_9) := (blk_cell BK137.out 9).trans rfl
          have hcz31_10 : wc.cell? ⟨gb137, 10, none⟩ = some (.int .i64 a1_10) := (blk_cell BK137.out 10).trans rfl
          have hcz31_11 : wc.cell? ⟨gb137, 11, none⟩ = some (.int .i64 a1_11) := (blk_cell BK137.out 11).trans rfl
          have hcz31_12 : wc.cell? ⟨gb137, 12, none⟩ = some (.int .i64 a1_12) := (blk_cell BK137.out 12).trans rfl
          have hfz31_0 := blk_frozen BK137.out 0
          have hfz31_1 := blk_frozen BK137.out 1
          have hfz31_2 := blk_frozen BK137.out 2
          have hfz31_3 := blk_frozen BK137.out 3
          have hfz31_4 := blk_frozen BK137.out 4
          have hfz31_5 := blk_frozen BK137.out 5
          have hfz31_6 := blk_frozen BK137.out 6
          have hfz31_7 := blk_frozen BK137.out 7
          have hfz31_8 := blk_frozen BK137.out 8
          have hfz31_9 := blk_frozen BK137.out 9
          have hfz31_10 := blk_frozen BK137.out 10
          have hfz31_11 := blk_frozen BK137.out 11
          have hfz31_12 := blk_frozen BK137.out 12
          go_wp2_with (first | ((with_reducible refine gate_callee (f := 22) rfl ?_); refine goesL_ (some 43) rfl rfl Try.func22 (by kernel_rfl) rfl #[.agg #[.bool a0_1, .bool a0_2, .bool a0_3, .bool a0_4, .bool a0_5, .bool a0_6, .bool a0_7, .int .i64 a0_8, .int .i64 a0_9, .int .i64 a0_10, .int .i64 a0_11, .int .i64 a0_12, .int .i64 a0_13], .agg #[.bool a1_0, .bool a1_1, .bool a1_2, .bool a1_3, .bool a1_4, .bool a1_5, .bool a1_6, .int .i64 a1_7, .int .i64 a1_8, .int .i64 a1_9, .int .i64 a1_10, .int .i64 a1_11, .int .i64 a1_12], .int .i64 (wrap64 (t138 - t139))] rfl (by (try simp only [List.map_toArray, List.map_cons, List.map_nil]); first | done | rfl | (simp only [List.length_drop, List.length_take]; rfl)) ?_; (with_reducible refine (fresh_late.calls kj5 a0_1 a0_2 a0_3 a0_4 a0_5 a0_6 a0_7 a0_8 a0_9 a0_10 a0_11 a0_12 a0_13 a1_0 a1_1 a1_2 a1_3 a1_4 a1_5 a1_6 a1_7 a1_8 a1_9 a1_10 a1_11 a1_12 (wrap64 (t138 - t139)) t140 _ A28.out).mono ?_); rintro e w32 ⟨rfl, hb⟩; refine ⟨_, rfl, ?_⟩; have n0_ := Aside0.mk (blk_below (g := gb136) (o := .cells #[.int .i64 a0_0, .bool a0_1, .bool a0_2, .bool a0_3, .bool a0_4, .bool a0_5, .bool a0_6, .bool a0_7, .int .i64 a0_8, .int .i64 a0_9, .int .i64 a0_10, .int .i64 a0_11, .int .i64 a0_12, .int .i64 a0_13, .int .i64 a0_14, .int .i64 a0_15, .int .i64 a0_16, .int .i64 a0_17, .int .i64 a0_18, .int .i64 a0_19, .string a0_20] 25 (0, 0)) (by (with_reducible repeat (first | refine blk_drewN ?_ _ | refine blk_drew ?_ | refine blk_alloc ?_ _)); exact BK136.out) hb); have n1_ := Aside0.mk (blk_below (g := gb137) (o := .cells #[.bool a1_0, .bool a1_1, .bool a1_2, .bool a1_3, .bool a1_4, .bool a1_5, .bool a1_6, .int .i64 a1_7, .int .i64 a1_8, .int .i64 a1_9, .int .i64 a1_10, .int .i64 a1_11, .int .i64 a1_12] 23 (0, 0)) (by (with_reducible repeat (first | refine blk_drewN ?_ _ | refine blk_drew ?_ | refine blk_alloc ?_ _)); exact BK137.out) hb); have n2_ := Aside0.mk (below_step (by repeat (first | (with_reducible first | exact HB.out | apply below_alloc | apply pw_below_drewN | apply below_drew1 | refine below_set ?_ GE136.out | refine below_set ?_ GE137.out) | exact HB.out)) hb); clear BK136; clear BK137; clear HB; have BK136 := n0_; have BK137 := n1_; have HB := n2_; clear n0_ n1_ n2_; (try clear hb); (try clear hb2); (try clear hk); (try clear hi)) | ((first | (with_reducible refine gate_dst (N := 9) rfl ?_) | (with_reducible refine gate_dst (N := 12) rfl ?_)); refine wpList_load_mid rfl 25 (.tmp 3) rfl _ _ (by rfl) [_, _, _, _, _, _, _, _, _, _, _, _, _, _, _, _, _, _, _, _, _] _ (cellsAt_range _ (by (repeat (refine ⟨by assumption, ?_⟩)); exact trivial)) Try.underlying25 rfl (by kernel_rfl) ?_) | ((with_reducible refine gate_dst (N := 39) rfl ?_); refine wpList_load_mid rfl 23 (.tmp 4) rfl _ _ (by rfl) [_, _, _, _, _, _, _, _, _, _, _, _, _] _ (cellsAt_range _ (by (repeat (refine ⟨by assumption, ?_⟩)); exact trivial)) Try.underlying23 rfl (by kernel_rfl) ?_))
          go_ret
          exact ⟨by first | rfl | (simp [errW_none, errW_some] <;> rfl) | (simp [*, errW_none, errW_some] <;> rfl), by repeat (first | (with_reducible first | exact HB.out | apply below_alloc | apply pw_below_drewN | apply below_drew1 | refine below_set ?_ GE136.out | refine below_set ?_ GE137.out) | exact HB.out)⟩
        · rw [if_neg c27] at H
          have c27b0 : decide (t139 ≤ t138) = false := decide_eq_false c27
          clear c27
          by_cases c33 : a1_11 > (wrap64 (t139 - t138))
          · rw [if_pos c33] at H
            have c33b0 : decide ((wrap64 (t139 - t138)) < a1_11) = true := decide_eq_true c33
            clear c33
            obtain rfl := Option.some.inj H
            have hnb34 := NB137_136.out
            have hnc34 := NB136_137.out
            have hcz35_0 : wc.cell? ⟨gb137, 0, none⟩ = some (.bool a1_0) := (blk_cell BK137.out 0).trans rfl
            have hcz35_1 : wc.cell? ⟨gb137, 1, none⟩ = some (.bool a1_1) := (blk_cell BK137.out 1).trans rfl
            have hcz35_2 : wc.cell? ⟨gb137, 2, none⟩ = some (.bool a1_2) := (blk_cell BK137.out 2).trans rfl
            have hcz35_3 : wc.cell? ⟨gb137, 3, none⟩ = some (.bool a1_3) := (blk_cell BK137.out 3).trans rfl
            have hcz35_4 : wc.cell? ⟨gb137, 4, none⟩ = some (.bool a1_4) := (blk_cell BK137.out 4).trans rfl
            have hcz35_5 : wc.cell? ⟨gb137, 5, none⟩ = some (.bool a1_5) := (blk_cell BK137.out 5).trans rfl
            have hcz35_6 : wc.cell? ⟨gb137, 6, none⟩ = some (.bool a1_6) := (blk_cell BK137.out 6).trans rfl
            have hcz35_7 : wc.cell? ⟨gb137, 7, none⟩ = some (.int .i64 a1_7) := (blk_cell BK137.out 7).trans rfl
            have hcz35_8 : wc.cell? ⟨gb137, 8, none⟩ = some (.int .i64 a1_8) := (blk_cell BK137.out 8).trans rfl
            have hcz35_9 : wc.cell? ⟨gb137, 9, none⟩ = some (.int .i64 a1_9) := (blk_cell BK137.out 9).trans rfl
            have hcz35_10 : wc.cell? ⟨gb137, 10, none⟩ = some (.int .i64 a1_10) := (blk_cell BK137.out 10).trans rfl
            have hcz35_11 : wc.cell? ⟨gb137, 11, none⟩ = some (.int .i64 a1_11) := (blk_cell BK137.out 11).trans rfl
            have hcz35_12 : wc.cell? ⟨gb137, 12, none⟩ = some (.int .i64 a1_12) := (blk_cell BK137.out 12).trans rfl
            have hfz35_0 := blk_frozen BK137.out 0
            have hfz35_1 := blk_frozen BK137.out 1
            have hfz35_2 := blk_frozen BK137.out 2
            have hfz35_3 := blk_frozen BK137.out 3
            have hfz35_4 := blk_frozen BK137.out 4
            have hfz35_5 := blk_frozen BK137.out 5
            have hfz35_6 := blk_frozen BK137.out 6
            have hfz35_7 := blk_frozen BK137.out 7
            have hfz35_8 := blk_frozen BK137.out 8
            have hfz35_9 := blk_frozen BK137.out 9
            have hfz35_10 := blk_frozen BK137.out 10
            have hfz35_11 := blk_frozen BK137.out 11
            have hfz35_12 := blk_frozen BK137.out 12
            go_wp2_with (first | ((first | (with_reducible refine gate_dst (N := 9) rfl ?_) | (with_reducible refine gate_dst (N := 12) rfl ?_)); refine wpList_load_mid rfl 25 (.tmp 3) rfl _ _ (by rfl) [_, _, _, _, _, _, _, _, _, _, _, _, _, _, _, _, _, _, _, _, _] _ (cellsAt_range _ (by (repeat (refine ⟨by assumption, ?_⟩)); exact trivial)) Try.underlying25 rfl (by kernel_rfl) ?_) | ((with_reducible refine gate_dst (N := 39) rfl ?_); refine wpList_load_mid rfl 23 (.tmp 4) rfl _ _ (by rfl) [_, _, _, _, _, _, _, _, _, _, _, _, _] _ (cellsAt_range _ (by (repeat (refine ⟨by assumption, ?_⟩)); exact trivial)) Try.underlying23 rfl (by kernel_rfl) ?_))
            go_ret
            exact ⟨by first | rfl | (simp [errW_none, errW_some] <;> rfl) | (simp [*, errW_none, errW_some] <;> rfl), by repeat (first | (with_reducible first | exact HB.out | apply below_alloc | apply pw_below_drewN | apply below_drew1 | refine below_set ?_ GE136.out | refine below_set ?_ GE137.out) | exact HB.out)⟩
          · rw [if_neg c33] at H
            have c33b0 : decide ((wrap64 (t139 - t138)) < a1_11) = false := decide_eq_false c33
            clear c33
            obtain rfl := Option.some.inj H
            have hnb36 := NB137_136.out
            have hnc36 := NB136_137.out
            have hcz37_0 : wc.cell? ⟨gb137, 0, none⟩ = some (.bool a1_0) := (blk_cell BK137.out 0).trans rfl
            have hcz37_1 : wc.cell? ⟨gb137, 1, none⟩ = some (.bool a1_1) := (blk_cell BK137.out 1).trans rfl
            have hcz37_2 : wc.cell? ⟨gb137, 2, none⟩ = some (.bool a1_2) := (blk_cell BK137.out 2).trans rfl
            have hcz37_3 : wc.cell? ⟨gb137, 3, none⟩ = some (.bool a1_3) := (blk_cell BK137.out 3).trans rfl
            have hcz37_4 : wc.cell? ⟨gb137, 4, none⟩ = some (.bool a1_4) := (blk_cell BK137.out 4).trans rfl
            have hcz37_5 : wc.cell? ⟨gb137, 5, none⟩ = some (.bool a1_5) := (blk_cell BK137.out 5).trans rfl
            have hcz37_6 : wc.cell? ⟨gb137, 6, none⟩ = some (.bool a1_6) := (blk_cell BK137.out 6).trans rfl
            have hcz37_7 : wc.cell? ⟨gb137, 7, none⟩ = some (.int .i64 a1_7) := (blk_cell BK137.out 7).trans rfl
            have hcz37_8 : wc.cell? ⟨gb137, 8, none⟩ = some (.int .i64 a1_8) := (blk_cell BK137.out 8).trans rfl
            have hcz37_9 : wc.cell? ⟨gb137, 9, none⟩ = some (.int .i64 a1_9) := (blk_cell BK137.out 9).trans rfl
            have hcz37_10 : wc.cell? ⟨gb137, 10, none⟩ = some (.int .i64 a1_10) := (blk_cell BK137.out 10).trans rfl
            have hcz37_11 : wc.cell? ⟨gb137, 11, none⟩ = some (.int .i64 a1_11) := (blk_cell BK137.out 11).trans rfl
            have hcz37_12 : wc.cell? ⟨gb137, 12, none⟩ = some (.int .i64 a1_12) := (blk_cell BK137.out 12).trans rfl
            have hfz37_0 := blk_frozen BK137.out 0
            have hfz37_1 := blk_frozen BK137.out 1
            have hfz37_2 := blk_frozen BK137.out 2
            have hfz37_3 := blk_frozen BK137.out 3
            have hfz37_4 := blk_frozen BK137.out 4
            have hfz37_5 := blk_frozen BK137.out 5
            have hfz37_6 := blk_frozen BK137.out 6
            have hfz37_7 := blk_frozen BK137.out 7
            have hfz37_8 := blk_frozen BK137.out 8
            have hfz37_9 := blk_frozen BK137.out 9
            have hfz37_10 := blk_frozen BK137.out 10
            have hfz37_11 := blk_frozen BK137.out 11
            have hfz37_12 := blk_frozen BK137.out 12
            go_wp2_with (first | ((first | (with_reducible refine gate_dst (N := 9) rfl ?_) | (with_reducible refine gate_dst (N := 12) rfl ?_)); refine wpList_load_mid rfl 25 (.tmp 3) rfl _ _ (by rfl) [_, _, _, _, _, _, _, _, _, _, _, _, _, _, _, _, _, _, _, _, _] _ (cellsAt_range _ (by (repeat (refine ⟨by assumption, ?_⟩)); exact trivial)) Try.underlying25 rfl (by kernel_rfl) ?_) | ((with_reducible refine gate_dst (N := 39) rfl ?_); refine wpList_load_mid rfl 23 (.tmp 4) rfl _ _ (by rfl) [_, _, _, _, _, _, _, _, _, _, _, _, _] _ (cellsAt_range _ (by (repeat (refine ⟨by assumption, ?_⟩)); exact trivial)) Try.underlying23 rfl (by kernel_rfl) ?_))
            go_ret
            exact ⟨by first | rfl | (simp [errW_none, errW_some] <;> rfl) | (simp [*, errW_none, errW_some] <;> rfl), by repeat (first | (with_reducible first | exact HB.out | apply below_alloc | apply pw_below_drewN | apply below_drew1 | refine below_set ?_ GE136.out | refine below_set ?_ GE137.out) | exact HB.out)⟩

end Go.Proofs.Ytebjbkbjmdnblaa.Hp
