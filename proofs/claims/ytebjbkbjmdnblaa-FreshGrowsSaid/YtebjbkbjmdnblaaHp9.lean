/- A text written by our program hprint.py (walks of the program, and the row of a law whose plain law is proved beside it). Lean checks it. -/
import Derived.Test.YtebjbkbjmdnblaaHp0
import Derived.Test.YtebjbkbjmdnblaaHp1
import Derived.Test.YtebjbkbjmdnblaaHp2
import Derived.Test.YtebjbkbjmdnblaaHp6
import Derived.Test.YtebjbkbjmdnblaaHHeur
import Derived.Test.YtebjbkbjmdnblaaHMore
import Derived.Test.YtebjbkbjmdnblaaHMoreG
namespace Go.Proofs.Ytebjbkbjmdnblaa.Hp
open Go.RowKit Go.Proofs.YtebjbkbjmdnblaaW.PrintWords Go.Proofs.YtebjbkbjmdnblaaW.PrintLast Go.Proofs.YtebjbkbjmdnblaaW.PrintMore
attribute [local go_sem] max2_int min2_int max_two min_two max_three min_three max_four min_four   -- for this text's walks alone
set_option linter.unusedVariables false
set_option linter.unusedSimpArgs false

/-! ### gatepostlaw09_FreshGrows: function 5 -/
mutual
def gatepostlaw09_FreshGrows.j0 : Nat → Bool → Int → Bool → Bool → Bool → Bool → Bool → Bool → Bool → Int → Int → Int → Int → Int → Int → Int → Int → Int → Int → Int → Int → ByteArray → Int → Int → Option (Bool)
  | 0, _, _, _, _, _, _, _, _, _, _, _, _, _, _, _, _, _, _, _, _, _, _, _, _ => none
  | k + 1, x35, x157000, x157001, x157002, x157003, x157004, x157005, x157006, x157007, x157008, x157009, x157010, x157011, x157012, x157013, x157014, x157015, x157016, x157017, x157018, x157019, x157020, x158000, x158001 => if x35 = true then (gatepostlaw09_FreshGrows.j1 k x157000 x157001 x157002 x157003 x157004 x157005 x157006 x157007 x157008 x157009 x157010 x157011 x157012 x157013 (Go.bits .and .i64 x157014 65535) x157015 x157016 (Go.bits .and .i64 x157017 255) (Go.bits .and .i64 x157018 65535) (Go.bits .and .i64 x157019 65535) x157020 x158000 x158001) else (gatepostlaw09_FreshGrows.j1 k x157000 x157001 x157002 x157003 x157004 x157005 x157006 x157007 x157008 x157009 x157010 x157011 x157012 x157013 x157014 x157015 x157016 x157017 x157018 x157019 x157020 x158000 x158001)
def gatepostlaw09_FreshGrows.j1 : Nat → Int → Bool → Bool → Bool → Bool → Bool → Bool → Bool → Int → Int → Int → Int → Int → Int → Int → Int → Int → Int → Int → Int → ByteArray → Int → Int → Option (Bool)
  | 0, _, _, _, _, _, _, _, _, _, _, _, _, _, _, _, _, _, _, _, _, _, _, _ => none
  | k + 1, x157000, x157001, x157002, x157003, x157004, x157005, x157006, x157007, x157008, x157009, x157010, x157011, x157012, x157013, x157014, x157015, x157016, x157017, x157018, x157019, x157020, x158000, x158001 => (fresh_Age.f x157000 x157001 x157002 x157003 x157004 x157005 x157006 x157007 x157008 x157009 x157010 x157011 x157012 x157013 x157014 x157015 x157016 x157017 x157018 x157019 x157020 (wrap64 (x157019 + (Go.bits .and .i64 x158000 1048575)))).bind fun t159 => ((fresh_Age.f x157000 x157001 x157002 x157003 x157004 x157005 x157006 x157007 x157008 x157009 x157010 x157011 x157012 x157013 x157014 x157015 x157016 x157017 x157018 x157019 x157020 (wrap64 ((wrap64 (x157019 + (Go.bits .and .i64 x158000 1048575))) + (Go.bits .and .i64 x158001 1048575)))).bind fun t160 => (if t160 = (wrap64 (t159 + (Go.bits .and .i64 x158001 1048575))) then ((fresh_Heuristic.f 200).bind fun t161 => (gatepostlaw09_FreshGrows.j2 k (Go.bits .and .i64 x158001 1048575) (wrap64 (x157019 + (Go.bits .and .i64 x158000 1048575))) t159 (!t161) x157000 x157001 x157002 x157003 x157004 x157005 x157006 x157007 x157008 x157009 x157010 x157011 x157012 x157013 x157014 x157015 x157016 x157017 x157018 x157019 x157020 false false false false false false false (-1) 0 0 0 (-1) (-1))) else (gatepostlaw09_FreshGrows.j2 k (Go.bits .and .i64 x158001 1048575) (wrap64 (x157019 + (Go.bits .and .i64 x158000 1048575))) t159 true x157000 x157001 x157002 x157003 x157004 x157005 x157006 x157007 x157008 x157009 x157010 x157011 x157012 x157013 x157014 x157015 x157016 x157017 x157018 x157019 x157020 false false false false false false false (-1) 0 0 0 (-1) (-1))))
def gatepostlaw09_FreshGrows.j2 : Nat → Int → Int → Int → Bool → Int → Bool → Bool → Bool → Bool → Bool → Bool → Bool → Int → Int → Int → Int → Int → Int → Int → Int → Int → Int → Int → Int → ByteArray → Bool → Bool → Bool → Bool → Bool → Bool → Bool → Int → Int → Int → Int → Int → Int → Option (Bool)
  | 0, _, _, _, _, _, _, _, _, _, _, _, _, _, _, _, _, _, _, _, _, _, _, _, _, _, _, _, _, _, _, _, _, _, _, _, _, _, _ => none
  | k + 1, x6, x7, x9, x79, x157000, x157001, x157002, x157003, x157004, x157005, x157006, x157007, x157008, x157009, x157010, x157011, x157012, x157013, x157014, x157015, x157016, x157017, x157018, x157019, x157020, x159000, x159001, x159002, x159003, x159004, x159005, x159006, x159007, x159008, x159009, x159010, x159011, x159012 => if x79 = true then (some false) else ((fresh_State.f k x157000 x157001 x157002 x157003 x157004 x157005 x157006 x157007 x157008 x157009 x157010 x157011 x157012 x157013 x157014 x157015 x157016 x157017 x157018 x157019 x157020 x159000 x159001 x159002 x159003 x159004 x159005 x159006 x159007 x159008 x159009 x159010 x159011 x159012 x7).bind fun t162 => ((fresh_State.f k x157000 x157001 x157002 x157003 x157004 x157005 x157006 x157007 x157008 x157009 x157010 x157011 x157012 x157013 x157014 x157015 x157016 x157017 x157018 x157019 x157020 x159000 x159001 x159002 x159003 x159004 x159005 x159006 x159007 x159008 x159009 x159010 x159011 x159012 (wrap64 (x7 + x6))).bind fun t163 => (if t163 < t162 then (some false) else (if x157002 = true then (some true) else ((fresh_Lifetime.f k x157000 x157001 x157002 x157003 x157004 x157005 x157006 x157007 x157008 x157009 x157010 x157011 x157012 x157013 x157014 x157015 x157016 x157017 x157018 x157019 x157020).bind fun t164 => (some ((t162 == 0) == (decide (x9 < t164)))))))))
end
def gatepostlaw09_FreshGrows.f (k : Nat) (a0_0 : Int) (a0_1 : Bool) (a0_2 : Bool) (a0_3 : Bool) (a0_4 : Bool) (a0_5 : Bool) (a0_6 : Bool) (a0_7 : Bool) (a0_8 : Int) (a0_9 : Int) (a0_10 : Int) (a0_11 : Int) (a0_12 : Int) (a0_13 : Int) (a0_14 : Int) (a0_15 : Int) (a0_16 : Int) (a0_17 : Int) (a0_18 : Int) (a0_19 : Int) (a0_20 : ByteArray) (a1_0 : Int) (a1_1 : Int) : Option (Bool) := if a0_19 < 0 then (gatepostlaw09_FreshGrows.j0 k true a0_0 a0_1 a0_2 a0_3 a0_4 a0_5 a0_6 a0_7 a0_8 a0_9 a0_10 a0_11 a0_12 a0_13 a0_14 a0_15 a0_16 a0_17 a0_18 a0_19 a0_20 a1_0 a1_1) else (if a0_19 > 1073741824 then (gatepostlaw09_FreshGrows.j0 k true a0_0 a0_1 a0_2 a0_3 a0_4 a0_5 a0_6 a0_7 a0_8 a0_9 a0_10 a0_11 a0_12 a0_13 a0_14 a0_15 a0_16 a0_17 a0_18 a0_19 a0_20 a1_0 a1_1) else (if a0_17 > 536870912 then (gatepostlaw09_FreshGrows.j0 k true a0_0 a0_1 a0_2 a0_3 a0_4 a0_5 a0_6 a0_7 a0_8 a0_9 a0_10 a0_11 a0_12 a0_13 a0_14 a0_15 a0_16 a0_17 a0_18 a0_19 a0_20 a1_0 a1_1) else (if a0_14 > 1073741824 then (gatepostlaw09_FreshGrows.j0 k true a0_0 a0_1 a0_2 a0_3 a0_4 a0_5 a0_6 a0_7 a0_8 a0_9 a0_10 a0_11 a0_12 a0_13 a0_14 a0_15 a0_16 a0_17 a0_18 a0_19 a0_20 a1_0 a1_1) else (gatepostlaw09_FreshGrows.j0 k (decide (a0_18 > 1073741824)) a0_0 a0_1 a0_2 a0_3 a0_4 a0_5 a0_6 a0_7 a0_8 a0_9 a0_10 a0_11 a0_12 a0_13 a0_14 a0_15 a0_16 a0_17 a0_18 a0_19 a0_20 a1_0 a1_1))))
theorem gatepostlaw09_FreshGrows.mono_l : ∀ k, (∀ y0 y1 y2 y3 y4 y5 y6 y7 y8 y9 y10 y11 y12 y13 y14 y15 y16 y17 y18 y19 y20 y21 y22 y23, LeO (gatepostlaw09_FreshGrows.j0 k y0 y1 y2 y3 y4 y5 y6 y7 y8 y9 y10 y11 y12 y13 y14 y15 y16 y17 y18 y19 y20 y21 y22 y23) (gatepostlaw09_FreshGrows.j0 (k + 1) y0 y1 y2 y3 y4 y5 y6 y7 y8 y9 y10 y11 y12 y13 y14 y15 y16 y17 y18 y19 y20 y21 y22 y23)) ∧ (∀ y0 y1 y2 y3 y4 y5 y6 y7 y8 y9 y10 y11 y12 y13 y14 y15 y16 y17 y18 y19 y20 y21 y22, LeO (gatepostlaw09_FreshGrows.j1 k y0 y1 y2 y3 y4 y5 y6 y7 y8 y9 y10 y11 y12 y13 y14 y15 y16 y17 y18 y19 y20 y21 y22) (gatepostlaw09_FreshGrows.j1 (k + 1) y0 y1 y2 y3 y4 y5 y6 y7 y8 y9 y10 y11 y12 y13 y14 y15 y16 y17 y18 y19 y20 y21 y22)) ∧ (∀ y0 y1 y2 y3 y4 y5 y6 y7 y8 y9 y10 y11 y12 y13 y14 y15 y16 y17 y18 y19 y20 y21 y22 y23 y24 y25 y26 y27 y28 y29 y30 y31 y32 y33 y34 y35 y36 y37, LeO (gatepostlaw09_FreshGrows.j2 k y0 y1 y2 y3 y4 y5 y6 y7 y8 y9 y10 y11 y12 y13 y14 y15 y16 y17 y18 y19 y20 y21 y22 y23 y24 y25 y26 y27 y28 y29 y30 y31 y32 y33 y34 y35 y36 y37) (gatepostlaw09_FreshGrows.j2 (k + 1) y0 y1 y2 y3 y4 y5 y6 y7 y8 y9 y10 y11 y12 y13 y14 y15 y16 y17 y18 y19 y20 y21 y22 y23 y24 y25 y26 y27 y28 y29 y30 y31 y32 y33 y34 y35 y36 y37))
  | 0 => ⟨fun _ _ _ _ _ _ _ _ _ _ _ _ _ _ _ _ _ _ _ _ _ _ _ _ r h => by simp [gatepostlaw09_FreshGrows.j0] at h, fun _ _ _ _ _ _ _ _ _ _ _ _ _ _ _ _ _ _ _ _ _ _ _ r h => by simp [gatepostlaw09_FreshGrows.j1] at h, fun _ _ _ _ _ _ _ _ _ _ _ _ _ _ _ _ _ _ _ _ _ _ _ _ _ _ _ _ _ _ _ _ _ _ _ _ _ _ r h => by simp [gatepostlaw09_FreshGrows.j2] at h⟩
  | k + 1 => by
    obtain ⟨ih0, ih1, ih2⟩ := gatepostlaw09_FreshGrows.mono_l k
    refine ⟨?_, ?_, ?_⟩
    · intro y0 y1 y2 y3 y4 y5 y6 y7 y8 y9 y10 y11 y12 y13 y14 y15 y16 y17 y18 y19 y20 y21 y22 y23
      unfold gatepostlaw09_FreshGrows.j0
      repeat' first
      | (with_reducible exact ih0 _ _ _ _ _ _ _ _ _ _ _ _ _ _ _ _ _ _ _ _ _ _ _ _)
      | (with_reducible exact ih1 _ _ _ _ _ _ _ _ _ _ _ _ _ _ _ _ _ _ _ _ _ _ _)
      | (with_reducible exact ih2 _ _ _ _ _ _ _ _ _ _ _ _ _ _ _ _ _ _ _ _ _ _ _ _ _ _ _ _ _ _ _ _ _ _ _ _ _ _)
      | (with_reducible exact fresh_Lifetime.mono _ _ _ _ _ _ _ _ _ _ _ _ _ _ _ _ _ _ _ _ _ _)
      | (with_reducible exact fresh_State.mono _ _ _ _ _ _ _ _ _ _ _ _ _ _ _ _ _ _ _ _ _ _ _ _ _ _ _ _ _ _ _ _ _ _ _ _)
      | (with_reducible exact LeO.refl _)
      | (with_reducible exact LeO.none _)
      | (with_reducible refine LeO.ite ?_ ?_)
      | (with_reducible refine LeO.bind ?_ (fun _ => ?_))
      | exact ih0 _ _ _ _ _ _ _ _ _ _ _ _ _ _ _ _ _ _ _ _ _ _ _ _
      | exact ih1 _ _ _ _ _ _ _ _ _ _ _ _ _ _ _ _ _ _ _ _ _ _ _
      | exact ih2 _ _ _ _ _ _ _ _ _ _ _ _ _ _ _ _ _ _ _ _ _ _ _ _ _ _ _ _ _ _ _ _ _ _ _ _ _ _
      | exact fresh_Lifetime.mono _ _ _ _ _ _ _ _ _ _ _ _ _ _ _ _ _ _ _ _ _ _
      | exact fresh_State.mono _ _ _ _ _ _ _ _ _ _ _ _ _ _ _ _ _ _ _ _ _ _ _ _ _ _ _ _ _ _ _ _ _ _ _ _
      | exact LeO.none _
      | refine LeO.ite ?_ ?_
      | refine LeO.bind ?_ (fun _ => ?_)
    · intro y0 y1 y2 y3 y4 y5 y6 y7 y8 y9 y10 y11 y12 y13 y14 y15 y16 y17 y18 y19 y20 y21 y22
      unfold gatepostlaw09_FreshGrows.j1
      repeat' first
      | (with_reducible exact ih0 _ _ _ _ _ _ _ _ _ _ _ _ _ _ _ _ _ _ _ _ _ _ _ _)
      | (with_reducible exact ih1 _ _ _ _ _ _ _ _ _ _ _ _ _ _ _ _ _ _ _ _ _ _ _)
      | (with_reducible exact ih2 _ _ _ _ _ _ _ _ _ _ _ _ _ _ _ _ _ _ _ _ _ _ _ _ _ _ _ _ _ _ _ _ _ _ _ _ _ _)
      | (with_reducible exact fresh_Lifetime.mono _ _ _ _ _ _ _ _ _ _ _ _ _ _ _ _ _ _ _ _ _ _)
      | (with_reducible exact fresh_State.mono _ _ _ _ _ _ _ _ _ _ _ _ _ _ _ _ _ _ _ _ _ _ _ _ _ _ _ _ _ _ _ _ _ _ _ _)
      | (with_reducible exact LeO.refl _)
      | (with_reducible exact LeO.none _)
      | (with_reducible refine LeO.ite ?_ ?_)
      | (with_reducible refine LeO.bind ?_ (fun _ => ?_))
      | exact ih0 _ _ _ _ _ _ _ _ _ _ _ _ _ _ _ _ _ _ _ _ _ _ _ _
      | exact ih1 _ _ _ _ _ _ _ _ _ _ _ _ _ _ _ _ _ _ _ _ _ _ _
      | exact ih2 _ _ _ _ _ _ _ _ _ _ _ _ _ _ _ _ _ _ _ _ _ _ _ _ _ _ _ _ _ _ _ _ _ _ _ _ _ _
      | exact fresh_Lifetime.mono _ _ _ _ _ _ _ _ _ _ _ _ _ _ _ _ _ _ _ _ _ _
      | exact fresh_State.mono _ _ _ _ _ _ _ _ _ _ _ _ _ _ _ _ _ _ _ _ _ _ _ _ _ _ _ _ _ _ _ _ _ _ _ _
      | exact LeO.none _
      | refine LeO.ite ?_ ?_
      | refine LeO.bind ?_ (fun _ => ?_)
    · intro y0 y1 y2 y3 y4 y5 y6 y7 y8 y9 y10 y11 y12 y13 y14 y15 y16 y17 y18 y19 y20 y21 y22 y23 y24 y25 y26 y27 y28 y29 y30 y31 y32 y33 y34 y35 y36 y37
      unfold gatepostlaw09_FreshGrows.j2
      repeat' first
      | (with_reducible exact ih0 _ _ _ _ _ _ _ _ _ _ _ _ _ _ _ _ _ _ _ _ _ _ _ _)
      | (with_reducible exact ih1 _ _ _ _ _ _ _ _ _ _ _ _ _ _ _ _ _ _ _ _ _ _ _)
      | (with_reducible exact ih2 _ _ _ _ _ _ _ _ _ _ _ _ _ _ _ _ _ _ _ _ _ _ _ _ _ _ _ _ _ _ _ _ _ _ _ _ _ _)
      | (with_reducible exact fresh_Lifetime.mono _ _ _ _ _ _ _ _ _ _ _ _ _ _ _ _ _ _ _ _ _ _)
      | (with_reducible exact fresh_State.mono _ _ _ _ _ _ _ _ _ _ _ _ _ _ _ _ _ _ _ _ _ _ _ _ _ _ _ _ _ _ _ _ _ _ _ _)
      | (with_reducible exact LeO.refl _)
      | (with_reducible exact LeO.none _)
      | (with_reducible refine LeO.ite ?_ ?_)
      | (with_reducible refine LeO.bind ?_ (fun _ => ?_))
      | exact ih0 _ _ _ _ _ _ _ _ _ _ _ _ _ _ _ _ _ _ _ _ _ _ _ _
      | exact ih1 _ _ _ _ _ _ _ _ _ _ _ _ _ _ _ _ _ _ _ _ _ _ _
      | exact ih2 _ _ _ _ _ _ _ _ _ _ _ _ _ _ _ _ _ _ _ _ _ _ _ _ _ _ _ _ _ _ _ _ _ _ _ _ _ _
      | exact fresh_Lifetime.mono _ _ _ _ _ _ _ _ _ _ _ _ _ _ _ _ _ _ _ _ _ _
      | exact fresh_State.mono _ _ _ _ _ _ _ _ _ _ _ _ _ _ _ _ _ _ _ _ _ _ _ _ _ _ _ _ _ _ _ _ _ _ _ _
      | exact LeO.none _
      | refine LeO.ite ?_ ?_
      | refine LeO.bind ?_ (fun _ => ?_)
theorem gatepostlaw09_FreshGrows.mono : ∀ a0 a1 a2 a3 a4 a5 a6 a7 a8 a9 a10 a11 a12 a13 a14 a15 a16 a17 a18 a19 a20 a21 a22 k, LeO (gatepostlaw09_FreshGrows.f k a0 a1 a2 a3 a4 a5 a6 a7 a8 a9 a10 a11 a12 a13 a14 a15 a16 a17 a18 a19 a20 a21 a22) (gatepostlaw09_FreshGrows.f (k + 1) a0 a1 a2 a3 a4 a5 a6 a7 a8 a9 a10 a11 a12 a13 a14 a15 a16 a17 a18 a19 a20 a21 a22) := by
  intro a0 a1 a2 a3 a4 a5 a6 a7 a8 a9 a10 a11 a12 a13 a14 a15 a16 a17 a18 a19 a20 a21 a22 k
  obtain ⟨ih0, ih1, ih2⟩ := gatepostlaw09_FreshGrows.mono_l k
  unfold gatepostlaw09_FreshGrows.f
  repeat' first
      | (with_reducible exact ih0 _ _ _ _ _ _ _ _ _ _ _ _ _ _ _ _ _ _ _ _ _ _ _ _)
      | (with_reducible exact ih1 _ _ _ _ _ _ _ _ _ _ _ _ _ _ _ _ _ _ _ _ _ _ _)
      | (with_reducible exact ih2 _ _ _ _ _ _ _ _ _ _ _ _ _ _ _ _ _ _ _ _ _ _ _ _ _ _ _ _ _ _ _ _ _ _ _ _ _ _)
      | (with_reducible exact fresh_Lifetime.mono _ _ _ _ _ _ _ _ _ _ _ _ _ _ _ _ _ _ _ _ _ _)
      | (with_reducible exact fresh_State.mono _ _ _ _ _ _ _ _ _ _ _ _ _ _ _ _ _ _ _ _ _ _ _ _ _ _ _ _ _ _ _ _ _ _ _ _)
      | (with_reducible exact LeO.refl _)
      | (with_reducible exact LeO.none _)
      | (with_reducible refine LeO.ite ?_ ?_)
      | (with_reducible refine LeO.bind ?_ (fun _ => ?_))
      | exact ih0 _ _ _ _ _ _ _ _ _ _ _ _ _ _ _ _ _ _ _ _ _ _ _ _
      | exact ih1 _ _ _ _ _ _ _ _ _ _ _ _ _ _ _ _ _ _ _ _ _ _ _
      | exact ih2 _ _ _ _ _ _ _ _ _ _ _ _ _ _ _ _ _ _ _ _ _ _ _ _ _ _ _ _ _ _ _ _ _ _ _ _ _ _
      | exact fresh_Lifetime.mono _ _ _ _ _ _ _ _ _ _ _ _ _ _ _ _ _ _ _ _ _ _
      | exact fresh_State.mono _ _ _ _ _ _ _ _ _ _ _ _ _ _ _ _ _ _ _ _ _ _ _ _ _ _ _ _ _ _ _ _ _ _ _ _
      | exact LeO.none _
      | refine LeO.ite ?_ ?_
      | refine LeO.bind ?_ (fun _ => ?_)
def gatepostlaw09_FreshGrows.T3 : Bool × List (List Nat × List Nat) := (true, [([], []), ([0], [0]), ([1], [1]), ([], []), ([3], [3]), ([4], [4]), ([2, 0, 1, 2], [2]), ([5, 6, 0, 1, 2, 3, 4, 5, 6], [5])])
def gatepostlaw09_FreshGrows.B3 : List Nat := [0, 1, 3, 0, 8, 24, 7, 127]
theorem gatepostlaw09_FreshGrows.tab3 : rtab .any (opsOf Try.f5 3) = gatepostlaw09_FreshGrows.T3 := by kernel_rfl
theorem gatepostlaw09_FreshGrows.bits3 : waitsOk gatepostlaw09_FreshGrows.T3.2 gatepostlaw09_FreshGrows.B3 = true := by kernel_rfl
def gatepostlaw09_FreshGrows.T6 : Bool × List (List Nat × List Nat) := (true, [([], []), ([], []), ([0, 1], [0, 1]), ([], []), ([], []), ([], []), ([4, 5], [4, 5]), ([3, 6, 2], [3, 6]), ([2, 7, 0, 1, 2], [2]), ([7, 8, 0, 1, 2, 3, 4, 5, 6, 7, 8], [7])])
def gatepostlaw09_FreshGrows.B6 : List Nat := [0, 0, 3, 0, 0, 0, 48, 127, 255, 511]
theorem gatepostlaw09_FreshGrows.tab6 : rtab .any (opsOf Try.f5 6) = gatepostlaw09_FreshGrows.T6 := by kernel_rfl
theorem gatepostlaw09_FreshGrows.bits6 : waitsOk gatepostlaw09_FreshGrows.T6.2 gatepostlaw09_FreshGrows.B6 = true := by kernel_rfl
def gatepostlaw09_FreshGrows.T9 : Bool × List (List Nat × List Nat) := (true, [([], []), ([], []), ([], []), ([0, 1, 2], [0, 1, 2]), ([], []), ([], []), ([], []), ([], []), ([6, 7], [6, 7]), ([4, 5, 8, 3], [4, 5, 8]), ([3, 9, 0, 1, 2, 3], [3]), ([9, 10, 0, 1, 2, 3, 4, 5, 6, 7, 8, 9, 10], [9])])
def gatepostlaw09_FreshGrows.B9 : List Nat := [0, 0, 0, 7, 0, 0, 0, 0, 192, 511, 1023, 2047]
theorem gatepostlaw09_FreshGrows.tab9 : rtab .any (opsOf Try.f5 9) = gatepostlaw09_FreshGrows.T9 := by kernel_rfl
theorem gatepostlaw09_FreshGrows.bits9 : waitsOk gatepostlaw09_FreshGrows.T9.2 gatepostlaw09_FreshGrows.B9 = true := by kernel_rfl
set_option maxHeartbeats 8000000 in
set_option maxRecDepth 100000 in
theorem gatepostlaw09_FreshGrows.calls (k : Nat) (a0_0 : Int) (a0_1 : Bool) (a0_2 : Bool) (a0_3 : Bool) (a0_4 : Bool) (a0_5 : Bool) (a0_6 : Bool) (a0_7 : Bool) (a0_8 : Int) (a0_9 : Int) (a0_10 : Int) (a0_11 : Int) (a0_12 : Int) (a0_13 : Int) (a0_14 : Int) (a0_15 : Int) (a0_16 : Int) (a0_17 : Int) (a0_18 : Int) (a0_19 : Int) (a0_20 : ByteArray) (a1_0 : Int) (a1_1 : Int) (r : Bool) (w : World) (h : gatepostlaw09_FreshGrows.f k a0_0 a0_1 a0_2 a0_3 a0_4 a0_5 a0_6 a0_7 a0_8 a0_9 a0_10 a0_11 a0_12 a0_13 a0_14 a0_15 a0_16 a0_17 a0_18 a0_19 a0_20 a1_0 a1_1 = some r) :
    Calls Try.prog 5 #[.agg #[.int .i64 a0_0, .bool a0_1, .bool a0_2, .bool a0_3, .bool a0_4, .bool a0_5, .bool a0_6, .bool a0_7, .int .i64 a0_8, .int .i64 a0_9, .int .i64 a0_10, .int .i64 a0_11, .int .i64 a0_12, .int .i64 a0_13, .int .i64 a0_14, .int .i64 a0_15, .int .i64 a0_16, .int .i64 a0_17, .int .i64 a0_18, .int .i64 a0_19, .string a0_20], .agg #[.int .i64 a1_0, .int .i64 a1_1]] w fun e w' => e = .returned (.bool r) ∧ Below w.heap.size w w' := by
  have hu25 := Try.underlying25
  have hu32 := Try.underlying32
  have hu23 := Try.underlying23
  have HB := Aside0.mk (Below.refl w.heap.size w)
  have H : (if a0_19 < 0 then (gatepostlaw09_FreshGrows.j0 k true a0_0 a0_1 a0_2 a0_3 a0_4 a0_5 a0_6 a0_7 a0_8 a0_9 a0_10 a0_11 a0_12 a0_13 a0_14 a0_15 a0_16 a0_17 a0_18 a0_19 a0_20 a1_0 a1_1) else (if a0_19 > 1073741824 then (gatepostlaw09_FreshGrows.j0 k true a0_0 a0_1 a0_2 a0_3 a0_4 a0_5 a0_6 a0_7 a0_8 a0_9 a0_10 a0_11 a0_12 a0_13 a0_14 a0_15 a0_16 a0_17 a0_18 a0_19 a0_20 a1_0 a1_1) else (if a0_17 > 536870912 then (gatepostlaw09_FreshGrows.j0 k true a0_0 a0_1 a0_2 a0_3 a0_4 a0_5 a0_6 a0_7 a0_8 a0_9 a0_10 a0_11 a0_12 a0_13 a0_14 a0_15 a0_16 a0_17 a0_18 a0_19 a0_20 a1_0 a1_1) else (if a0_14 > 1073741824 then (gatepostlaw09_FreshGrows.j0 k true a0_0 a0_1 a0_2 a0_3 a0_4 a0_5 a0_6 a0_7 a0_8 a0_9 a0_10 a0_11 a0_12 a0_13 a0_14 a0_15 a0_16 a0_17 a0_18 a0_19 a0_20 a1_0 a1_1) else (gatepostlaw09_FreshGrows.j0 k (decide (a0_18 > 1073741824)) a0_0 a0_1 a0_2 a0_3 a0_4 a0_5 a0_6 a0_7 a0_8 a0_9 a0_10 a0_11 a0_12 a0_13 a0_14 a0_15 a0_16 a0_17 a0_18 a0_19 a0_20 a1_0 a1_1))))) = some r := h
  clear h
  have HC3 := Aside0.mk H
  clear H
  go_enter Try.func5, Try.ntmps5
  go_upto_region 1 with (first | ((with_reducible refine gate_dst (N := 2) rfl ?_); refine box_event ?hg (N := 2) ?hd (cs := #[.int .i64 a0_0, .bool a0_1, .bool a0_2, .bool a0_3, .bool a0_4, .bool a0_5, .bool a0_6, .bool a0_7, .int .i64 a0_8, .int .i64 a0_9, .int .i64 a0_10, .int .i64 a0_11, .int .i64 a0_12, .int .i64 a0_13, .int .i64 a0_14, .int .i64 a0_15, .int .i64 a0_16, .int .i64 a0_17, .int .i64 a0_18, .int .i64 a0_19, .string a0_20]) (t := 25) ?hr ?_; (case hd => rfl); (case hg => rfl); (case hr => first | (go_simp; done) | (go_simp; rfl)); intro gb156 hg w4 hbox hb; have n0_ := Aside0.mk (below_step (by repeat (first | (with_reducible first | exact HB.out | apply below_alloc | apply pw_below_drewN | apply below_drew1) | exact HB.out)) hb); have n1_ := Aside0.mk (hbox); have n2_ := Aside0.mk ((by rw [hg]; exact (below_size (by repeat (first | (with_reducible first | exact HB.out | apply below_alloc | apply pw_below_drewN | apply below_drew1) | exact HB.out))) : w.heap.size ≤ gb156)); have n3_ := Aside0.mk ((by rw [hg]; exact (below_size (by repeat (first | (with_reducible first | exact HB.out | apply below_alloc | apply pw_below_drewN | apply below_drew1) | exact HB.out))) : w.heap.size ≤ gb156)); clear HB; have HB := n0_; have BK156 := n1_; have GW156 := n2_; have GE156 := n3_; clear n0_ n1_ n2_ n3_; clear hb hbox hg) | ((with_reducible refine gate_dst (N := 3) rfl ?_); refine box_event ?hg (N := 3) ?hd (cs := #[.int .i64 a1_0, .int .i64 a1_1]) (t := 32) ?hr ?_; (case hd => rfl); (case hg => rfl); (case hr => first | (go_simp; done) | (go_simp; rfl)); intro gb157 hg w5 hbox hb; have n0_ := Aside0.mk (blk_below (g := gb156) (o := .cells #[.int .i64 a0_0, .bool a0_1, .bool a0_2, .bool a0_3, .bool a0_4, .bool a0_5, .bool a0_6, .bool a0_7, .int .i64 a0_8, .int .i64 a0_9, .int .i64 a0_10, .int .i64 a0_11, .int .i64 a0_12, .int .i64 a0_13, .int .i64 a0_14, .int .i64 a0_15, .int .i64 a0_16, .int .i64 a0_17, .int .i64 a0_18, .int .i64 a0_19, .string a0_20] 25 (0, 0)) (by (with_reducible repeat (first | refine blk_drewN ?_ _ | refine blk_drew ?_ | refine blk_alloc ?_ _)); exact BK156.out) hb); have n1_ := Aside0.mk (below_step (by repeat (first | (with_reducible first | exact HB.out | apply below_alloc | apply pw_below_drewN | apply below_drew1 | refine below_set ?_ GE156.out) | exact HB.out)) hb); have n2_ := Aside0.mk (hbox); have n3_ := Aside0.mk ((by rw [hg]; exact (below_size (by repeat (first | (with_reducible first | exact HB.out | apply below_alloc | apply pw_below_drewN | apply below_drew1 | refine below_set ?_ GE156.out) | exact HB.out))) : w.heap.size ≤ gb157)); have n4_ := Aside0.mk ((by rw [hg]; exact (below_size (by repeat (first | (with_reducible first | exact HB.out | apply below_alloc | apply pw_below_drewN | apply below_drew1 | refine below_set ?_ GE156.out) | exact HB.out))) : w.heap.size ≤ gb157)); have n5_ := Aside0.mk ((by rw [hg]; exact Nat.ne_of_lt (blk_lt (g := gb156) (o := .cells #[.int .i64 a0_0, .bool a0_1, .bool a0_2, .bool a0_3, .bool a0_4, .bool a0_5, .bool a0_6, .bool a0_7, .int .i64 a0_8, .int .i64 a0_9, .int .i64 a0_10, .int .i64 a0_11, .int .i64 a0_12, .int .i64 a0_13, .int .i64 a0_14, .int .i64 a0_15, .int .i64 a0_16, .int .i64 a0_17, .int .i64 a0_18, .int .i64 a0_19, .string a0_20] 25 (0, 0)) (by (with_reducible repeat (first | refine blk_drewN ?_ _ | refine blk_drew ?_ | refine blk_alloc ?_ _)); exact BK156.out)) : gb156 ≠ gb157)); have n6_ := Aside0.mk ((by rw [hg]; exact Nat.ne_of_gt (blk_lt (g := gb156) (o := .cells #[.int .i64 a0_0, .bool a0_1, .bool a0_2, .bool a0_3, .bool a0_4, .bool a0_5, .bool a0_6, .bool a0_7, .int .i64 a0_8, .int .i64 a0_9, .int .i64 a0_10, .int .i64 a0_11, .int .i64 a0_12, .int .i64 a0_13, .int .i64 a0_14, .int .i64 a0_15, .int .i64 a0_16, .int .i64 a0_17, .int .i64 a0_18, .int .i64 a0_19, .string a0_20] 25 (0, 0)) (by (with_reducible repeat (first | refine blk_drewN ?_ _ | refine blk_drew ?_ | refine blk_alloc ?_ _)); exact BK156.out)) : gb157 ≠ gb156)); clear BK156; clear HB; have BK156 := n0_; have HB := n1_; have BK157 := n2_; have GW157 := n3_; have GE157 := n4_; have NB156_157 := n5_; have NB157_156 := n6_; clear n0_ n1_ n2_ n3_ n4_ n5_ n6_; clear hb hbox hg) | ((first | (with_reducible refine gate_dst (N := 63) rfl ?_) | (with_reducible refine gate_dst (N := 66) rfl ?_) | (with_reducible refine gate_dst (N := 80) rfl ?_) | (with_reducible refine gate_dst (N := 84) rfl ?_)); refine wpList_load_mid rfl 25 (.tmp 2) rfl _ _ (by rfl) [_, _, _, _, _, _, _, _, _, _, _, _, _, _, _, _, _, _, _, _, _] _ (cellsAt_range _ (by (repeat (refine ⟨by assumption, ?_⟩)); exact trivial)) Try.underlying25 rfl (by kernel_rfl) ?_) | ((first | (with_reducible refine gate_dst (N := 81) rfl ?_) | (with_reducible refine gate_dst (N := 85) rfl ?_)); refine wpList_load_mid rfl 23 (.tmp 8) rfl _ _ (by rfl) [_, _, _, _, _, _, _, _, _, _, _, _, _] _ (cellsAt_range _ (by (repeat (refine ⟨by assumption, ?_⟩)); exact trivial)) Try.underlying23 rfl (by kernel_rfl) ?_) | ((with_reducible refine gate_dst (N := 100) rfl ?_); refine wpList_load_midG rfl 25 (.tmp 2) rfl _ _ (by rfl) [_, _, _, _, _, _, _, _, _, _, _, _, _, _, _, _, _, _, _, _, _] _ (cellsAt_range _ (by (repeat (refine ⟨by assumption, ?_⟩)); exact trivial)) Try.underlying25 rfl (by kernel_rfl) ?_))
  (try simp only [Act.put, List.setIfInBounds_toArray, List.set_cons_zero, List.set_cons_succ])
  go_cut [35] (fun v35 wc => ∃ (kq : Nat) (x35_2 : Bool), v35 = .bool x35_2 ∧ Aside0 (gatepostlaw09_FreshGrows.j0 kq x35_2 a0_0 a0_1 a0_2 a0_3 a0_4 a0_5 a0_6 a0_7 a0_8 a0_9 a0_10 a0_11 a0_12 a0_13 a0_14 a0_15 a0_16 a0_17 a0_18 a0_19 a0_20 a1_0 a1_1 = some r) ∧ Aside0 (kq ≤ k) ∧ Aside0 (wc.heap[gb156]? = some (.cells #[.int .i64 a0_0, .bool a0_1, .bool a0_2, .bool a0_3, .bool a0_4, .bool a0_5, .bool a0_6, .bool a0_7, .int .i64 a0_8, .int .i64 a0_9, .int .i64 a0_10, .int .i64 a0_11, .int .i64 a0_12, .int .i64 a0_13, .int .i64 a0_14, .int .i64 a0_15, .int .i64 a0_16, .int .i64 a0_17, .int .i64 a0_18, .int .i64 a0_19, .string a0_20] 25 (0, 0))) ∧ Aside0 (wc.heap[gb157]? = some (.cells #[.int .i64 a1_0, .int .i64 a1_1] 32 (0, 0))) ∧ Aside0 (Below w.heap.size w wc))
  case first =>
    have H := HC3.out
    clear HC3
    by_cases c6 : a0_19 < 0
    · rw [if_pos c6] at H
      have c6b0 : decide (a0_19 < 0) = true := decide_eq_true c6
      clear c6
      (first | rw [c6b0] | (simp only [i64_w, i32_w]; rw [c6b0]) | skip)
      have H' := Aside0.mk H
      clear H
      have hnb7 := NB156_157.out
      have hnc7 := NB157_156.out
      have hcz8_0 : w5.cell? ⟨gb156, 0, none⟩ = some (.int .i64 a0_0) := (blk_cell BK156.out 0).trans rfl
      have hcz8_1 : w5.cell? ⟨gb156, 1, none⟩ = some (.bool a0_1) := (blk_cell BK156.out 1).trans rfl
      have hcz8_2 : w5.cell? ⟨gb156, 2, none⟩ = some (.bool a0_2) := (blk_cell BK156.out 2).trans rfl
      have hcz8_3 : w5.cell? ⟨gb156, 3, none⟩ = some (.bool a0_3) := (blk_cell BK156.out 3).trans rfl
      have hcz8_4 : w5.cell? ⟨gb156, 4, none⟩ = some (.bool a0_4) := (blk_cell BK156.out 4).trans rfl
      have hcz8_5 : w5.cell? ⟨gb156, 5, none⟩ = some (.bool a0_5) := (blk_cell BK156.out 5).trans rfl
      have hcz8_6 : w5.cell? ⟨gb156, 6, none⟩ = some (.bool a0_6) := (blk_cell BK156.out 6).trans rfl
      have hcz8_7 : w5.cell? ⟨gb156, 7, none⟩ = some (.bool a0_7) := (blk_cell BK156.out 7).trans rfl
      have hcz8_8 : w5.cell? ⟨gb156, 8, none⟩ = some (.int .i64 a0_8) := (blk_cell BK156.out 8).trans rfl
      have hcz8_9 : w5.cell? ⟨gb156, 9, none⟩ = some (.int .i64 a0_9) := (blk_cell BK156.out 9).trans rfl
      have hcz8_10 : w5.cell? ⟨gb156, 10, none⟩ = some (.int .i64 a0_10) := (blk_cell BK156.out 10).trans rfl
      have hcz8_11 : w5.cell? ⟨gb156, 11, none⟩ = some (.int .i64 a0_11) := (blk_cell BK156.out 11).trans rfl
      have hcz8_12 : w5.cell? ⟨gb156, 12, none⟩ = some (.int .i64 a0_12) := (blk_cell BK156.out 12).trans rfl
      have hcz8_13 : w5.cell? ⟨gb156, 13, none⟩ = some (.int .i64 a0_13) := (blk_cell BK156.out 13).trans rfl
      have hcz8_14 : w5.cell? ⟨gb156, 14, none⟩ = some (.int .i64 a0_14) := (blk_cell BK156.out 14).trans rfl
      have hcz8_15 : w5.cell? ⟨gb156, 15, none⟩ = some (.int .i64 a0_15) := (blk_cell BK156.out 15).trans rfl
      have hcz8_16 : w5.cell? ⟨gb156, 16, none⟩ = some (.int .i64 a0_16) := (blk_cell BK156.out 16).trans rfl
      have hcz8_17 : w5.cell? ⟨gb156, 17, none⟩ = some (.int .i64 a0_17) := (blk_cell BK156.out 17).trans rfl
      have hcz8_18 : w5.cell? ⟨gb156, 18, none⟩ = some (.int .i64 a0_18) := (blk_cell BK156.out 18).trans rfl
      have hcz8_19 : w5.cell? ⟨gb156, 19, none⟩ = some (.int .i64 a0_19) := (blk_cell BK156.out 19).trans rfl
      have hcz8_20 : w5.cell? ⟨gb156, 20, none⟩ = some (.string a0_20) := (blk_cell BK156.out 20).trans rfl
      have hfz8_0 := blk_frozen BK156.out 0
      have hfz8_1 := blk_frozen BK156.out 1
      have hfz8_2 := blk_frozen BK156.out 2
      have hfz8_3 := blk_frozen BK156.out 3
      have hfz8_4 := blk_frozen BK156.out 4
      have hfz8_5 := blk_frozen BK156.out 5
      have hfz8_6 := blk_frozen BK156.out 6
      have hfz8_7 := blk_frozen BK156.out 7
      have hfz8_8 := blk_frozen BK156.out 8
      have hfz8_9 := blk_frozen BK156.out 9
      have hfz8_10 := blk_frozen BK156.out 10
      have hfz8_11 := blk_frozen BK156.out 11
      have hfz8_12 := blk_frozen BK156.out 12
      have hfz8_13 := blk_frozen BK156.out 13
      have hfz8_14 := blk_frozen BK156.out 14
      have hfz8_15 := blk_frozen BK156.out 15
      have hfz8_16 := blk_frozen BK156.out 16
      have hfz8_17 := blk_frozen BK156.out 17
      have hfz8_18 := blk_frozen BK156.out 18
      have hfz8_19 := blk_frozen BK156.out 19
      have hfz8_20 := blk_frozen BK156.out 20
      go_wp2_with (first | ((first | (with_reducible refine gate_dst (N := 63) rfl ?_) | (with_reducible refine gate_dst (N := 66) rfl ?_) | (with_reducible refine gate_dst (N := 80) rfl ?_) | (with_reducible refine gate_dst (N := 84) rfl ?_)); refine wpList_load_mid rfl 25 (.tmp 2) rfl _ _ (by rfl) [_, _, _, _, _, _, _, _, _, _, _, _, _, _, _, _, _, _, _, _, _] _ (cellsAt_range _ (by (repeat (refine ⟨by assumption, ?_⟩)); exact trivial)) Try.underlying25 rfl (by kernel_rfl) ?_) | ((first | (with_reducible refine gate_dst (N := 81) rfl ?_) | (with_reducible refine gate_dst (N := 85) rfl ?_)); refine wpList_load_mid rfl 23 (.tmp 8) rfl _ _ (by rfl) [_, _, _, _, _, _, _, _, _, _, _, _, _] _ (cellsAt_range _ (by (repeat (refine ⟨by assumption, ?_⟩)); exact trivial)) Try.underlying23 rfl (by kernel_rfl) ?_) | ((with_reducible refine gate_dst (N := 100) rfl ?_); refine wpList_load_midG rfl 25 (.tmp 2) rfl _ _ (by rfl) [_, _, _, _, _, _, _, _, _, _, _, _, _, _, _, _, _, _, _, _, _] _ (cellsAt_range _ (by (repeat (refine ⟨by assumption, ?_⟩)); exact trivial)) Try.underlying25 rfl (by kernel_rfl) ?_))
      go_meet
      case rel => exact ⟨_, (true), (by first | rfl | (simp; done) | exact ret_ne _ | (simp [*]; done)), H', ⟨by first | omega | exact Nat.le_refl _⟩, ⟨by (with_reducible repeat (first | refine blk_drewN ?_ _ | refine blk_drew ?_ | refine blk_alloc ?_ _)); exact BK156.out⟩, ⟨by (with_reducible repeat (first | refine blk_drewN ?_ _ | refine blk_drew ?_ | refine blk_alloc ?_ _)); exact BK157.out⟩, ⟨by repeat (first | (with_reducible first | exact HB.out | apply below_alloc | apply pw_below_drewN | apply below_drew1 | refine below_set ?_ GE156.out | refine below_set ?_ GE157.out) | exact HB.out)⟩⟩
    · rw [if_neg c6] at H
      have c6b0 : decide (a0_19 < 0) = false := decide_eq_false c6
      clear c6
      (first | rw [c6b0] | (simp only [i64_w, i32_w]; rw [c6b0]) | skip)
      by_cases c9 : a0_19 > 1073741824
      · rw [if_pos c9] at H
        have c9b0 : decide (1073741824 < a0_19) = true := decide_eq_true c9
        clear c9
        have H' := Aside0.mk H
        clear H
        have hnb10 := NB156_157.out
        have hnc10 := NB157_156.out
        have hcz11_0 : w5.cell? ⟨gb156, 0, none⟩ = some (.int .i64 a0_0) := (blk_cell BK156.out 0).trans rfl
        have hcz11_1 : w5.cell? ⟨gb156, 1, none⟩ = some (.bool a0_1) := (blk_cell BK156.out 1).trans rfl
        have hcz11_2 : w5.cell? ⟨gb156, 2, none⟩ = some (.bool a0_2) := (blk_cell BK156.out 2).trans rfl
        have hcz11_3 : w5.cell? ⟨gb156, 3, none⟩ = some (.bool a0_3) := (blk_cell BK156.out 3).trans rfl
        have hcz11_4 : w5.cell? ⟨gb156, 4, none⟩ = some (.bool a0_4) := (blk_cell BK156.out 4).trans rfl
        have hcz11_5 : w5.cell? ⟨gb156, 5, none⟩ = some (.bool a0_5) := (blk_cell BK156.out 5).trans rfl
        have hcz11_6 : w5.cell? ⟨gb156, 6, none⟩ = some (.bool a0_6) := (blk_cell BK156.out 6).trans rfl
        have hcz11_7 : w5.cell? ⟨gb156, 7, none⟩ = some (.bool a0_7) := (blk_cell BK156.out 7).trans rfl
        have hcz11_8 : w5.cell? ⟨gb156, 8, none⟩ = some (.int .i64 a0_8) := (blk_cell BK156.out 8).trans rfl
        have hcz11_9 : w5.cell? ⟨gb156, 9, none⟩ = some (.int .i64 a0_9) := (blk_cell BK156.out 9).trans rfl
        have hcz11_10 : w5.cell? ⟨gb156, 10, none⟩ = some (.int .i64 a0_10) := (blk_cell BK156.out 10).trans rfl
        have hcz11_11 : w5.cell? ⟨gb156, 11, none⟩ = some (.int .i64 a0_11) := (blk_cell BK156.out 11).trans rfl
        have hcz11_12 : w5.cell? ⟨gb156, 12, none⟩ = some (.int .i64 a0_12) := (blk_cell BK156.out 12).trans rfl
        have hcz11_13 : w5.cell? ⟨gb156, 13, none⟩ = some (.int .i64 a0_13) := (blk_cell BK156.out 13).trans rfl
        have hcz11_14 : w5.cell? ⟨gb156, 14, none⟩ = some (.int .i64 a0_14) := (blk_cell BK156.out 14).trans rfl
        have hcz11_15 : w5.cell? ⟨gb156, 15, none⟩ = some (.int .i64 a0_15) := (blk_cell BK156.out 15).trans rfl
        have hcz11_16 : w5.cell? ⟨gb156, 16, none⟩ = some (.int .i64 a0_16) := (blk_cell BK156.out 16).trans rfl
        have hcz11_17 : w5.cell? ⟨gb156, 17, none⟩ = some (.int .i64 a0_17) := (blk_cell BK156.out 17).trans rfl
        have hcz11_18 : w5.cell? ⟨gb156, 18, none⟩ = some (.int .i64 a0_18) := (blk_cell BK156.out 18).trans rfl
        have hcz11_19 : w5.cell? ⟨gb156, 19, none⟩ = some (.int .i64 a0_19) := (blk_cell BK156.out 19).trans rfl
        have hcz11_20 : w5.cell? ⟨gb156, 20, none⟩ = some (.string a0_20) := (blk_cell BK156.out 20).trans rfl
        have hfz11_0 := blk_frozen BK156.out 0
        have hfz11_1 := blk_frozen BK156.out 1
        have hfz11_2 := blk_frozen BK156.out 2
        have hfz11_3 := blk_frozen BK156.out 3
        have hfz11_4 := blk_frozen BK156.out 4
        have hfz11_5 := blk_frozen BK156.out 5
        have hfz11_6 := blk_frozen BK156.out 6
        have hfz11_7 := blk_frozen BK156.out 7
        have hfz11_8 := blk_frozen BK156.out 8
        have hfz11_9 := blk_frozen BK156.out 9
        have hfz11_10 := blk_frozen BK156.out 10
        have hfz11_11 := blk_frozen BK156.out 11
        have hfz11_12 := blk_frozen BK156.out 12
        have hfz11_13 := blk_frozen BK156.out 13
        have hfz11_14 := blk_frozen BK156.out 14
        have hfz11_15 := blk_frozen BK156.out 15
        have hfz11_16 := blk_frozen BK156.out 16
        have hfz11_17 := blk_frozen BK156.out 17
        have hfz11_18 := blk_frozen BK156.out 18
        have hfz11_19 := blk_frozen BK156.out 19
        have hfz11_20 := blk_frozen BK156.out 20
        go_wp2_with (first | ((first | (with_reducible refine gate_dst (N := 63) rfl ?_) | (with_reducible refine gate_dst (N := 66) rfl ?_) | (with_reducible refine gate_dst (N := 80) rfl ?_) | (with_reducible refine gate_dst (N := 84) rfl ?_)); refine wpList_load_mid rfl 25 (.tmp 2) rfl _ _ (by rfl) [_, _, _, _, _, _, _, _, _, _, _, _, _, _, _, _, _, _, _, _, _] _ (cellsAt_range _ (by (repeat (refine ⟨by assumption, ?_⟩)); exact trivial)) Try.underlying25 rfl (by kernel_rfl) ?_) | ((first | (with_reducible refine gate_dst (N := 81) rfl ?_) | (with_reducible refine gate_dst (N := 85) rfl ?_)); refine wpList_load_mid rfl 23 (.tmp 8) rfl _ _ (by rfl) [_, _, _, _, _, _, _, _, _, _, _, _, _] _ (cellsAt_range _ (by (repeat (refine ⟨by assumption, ?_⟩)); exact trivial)) Try.underlying23 rfl (by kernel_rfl) ?_) | ((with_reducible refine gate_dst (N := 100) rfl ?_); refine wpList_load_midG rfl 25 (.tmp 2) rfl _ _ (by rfl) [_, _, _, _, _, _, _, _, _, _, _, _, _, _, _, _, _, _, _, _, _] _ (cellsAt_range _ (by (repeat (refine ⟨by assumption, ?_⟩)); exact trivial)) Try.underlying25 rfl (by kernel_rfl) ?_))
        go_meet
        case rel => exact ⟨_, (true), (by first | rfl | (simp; done) | exact ret_ne _ | (simp [*]; done)), H', ⟨by first | omega | exact Nat.le_refl _⟩, ⟨by (with_reducible repeat (first | refine blk_drewN ?_ _ | refine blk_drew ?_ | refine blk_alloc ?_ _)); exact BK156.out⟩, ⟨by (with_reducible repeat (first | refine blk_drewN ?_ _ | refine blk_drew ?_ | refine blk_alloc ?_ _)); exact BK157.out⟩, ⟨by repeat (first | (with_reducible first | exact HB.out | apply below_alloc | apply pw_below_drewN | apply below_drew1 | refine below_set ?_ GE156.out | refine below_set ?_ GE157.out) | exact HB.out)⟩⟩
      · rw [if_neg c9] at H
        have c9b0 : decide (1073741824 < a0_19) = false := decide_eq_false c9
        clear c9
        by_cases c12 : a0_17 > 536870912
        · rw [if_pos c12] at H
          have c12b0 : decide (536870912 < a0_17) = true := decide_eq_true c12
          clear c12
          have H' := Aside0.mk H
          clear H
          have hnb13 := NB156_157.out
          have hnc13 := NB157_156.out
          have hcz14_0 : w5.cell? ⟨gb156, 0, none⟩ = some (.int .i64 a0_0) := (blk_cell BK156.out 0).trans rfl
          have hcz14_1 : w5.cell? ⟨gb156, 1, none⟩ = some (.bool a0_1) := (blk_cell BK156.out 1).trans rfl
          have hcz14_2 : w5.cell? ⟨gb156, 2, none⟩ = some (.bool a0_2) := (blk_cell BK156.out 2).trans rfl
          have hcz14_3 : w5.cell? ⟨gb156, 3, none⟩ = some (.bool a0_3) := (blk_cell BK156.out 3).trans rfl
          have hcz14_4 : w5.cell? ⟨gb156, 4, none⟩ = some (.bool a0_4) := (blk_cell BK156.out 4).trans rfl
          have hcz14_5 : w5.cell? ⟨gb156, 5, none⟩ = some (.bool a0_5) := (blk_cell BK156.out 5).trans rfl
          have hcz14_6 : w5.cell? ⟨gb156, 6, none⟩ = some (.bool a0_6) := (blk_cell BK156.out 6).trans rfl
          have hcz14_7 : w5.cell? ⟨gb156, 7, none⟩ = some (.bool a0_7) := (blk_cell BK156.out 7).trans rfl
          have hcz14_8 : w5.cell? ⟨gb156, 8, none⟩ = some (.int .i64 a0_8) := (blk_cell BK156.out 8).trans rfl
          have hcz14_9 : w5.cell? ⟨gb156, 9, none⟩ = some (.int .i64 a0_9) := (blk_cell BK156.out 9).trans rfl
          have hcz14_10 : w5.cell? ⟨gb156, 10, none⟩ = some (.int .i64 a0_10) := (blk_cell BK156.out 10).trans rfl
          have hcz14_11 : w5.cell? ⟨gb156, 11, none⟩ = some (.int .i64 a0_11) := (blk_cell BK156.out 11).trans rfl
          have hcz14_12 : w5.cell? ⟨gb156, 12, none⟩ = some (.int .i64 a0_12) := (blk_cell BK156.out 12).trans rfl
          have hcz14_13 : w5.cell? ⟨gb156, 13, none⟩ = some (.int .i64 a0_13) := (blk_cell BK156.out 13).trans rfl
          have hcz14_14 : w5.cell? ⟨gb156, 14, none⟩ = some (.int .i64 a0_14) := (blk_cell BK156.out 14).trans rfl
          have hcz14_15 : w5.cell? ⟨gb156, 15, none⟩ = some (.int .i64 a0_15) := (blk_cell BK156.out 15).trans rfl
          have hcz14_16 : w5.cell? ⟨gb156, 16, none⟩ = some (.int .i64 a0_16) := (blk_cell BK156.out 16).trans rfl
          have hcz14_17 : w5.cell? ⟨gb156, 17, none⟩ = some (.int .i64 a0_17) := (blk_cell BK156.out 17).trans rfl
          have hcz14_18 : w5.cell? ⟨gb156, 18, none⟩ = some (.int .i64 a0_18) := (blk_cell BK156.out 18).trans rfl
          have hcz14_19 : w5.cell? ⟨gb156, 19, none⟩ = some (.int .i64 a0_19) := (blk_cell BK156.out 19).trans rfl
          have hcz14_20 : w5.cell? ⟨gb156, 20, none⟩ = some (.string a0_20) := (blk_cell BK156.out 20).trans rfl
          have hfz14_0 := blk_frozen BK156.out 0
          have hfz14_1 := blk_frozen BK156.out 1
          have hfz14_2 := blk_frozen BK156.out 2
          have hfz14_3 := blk_frozen BK156.out 3
          have hfz14_4 := blk_frozen BK156.out 4
          have hfz14_5 := blk_frozen BK156.out 5
          have hfz14_6 := blk_frozen BK156.out 6
          have hfz14_7 := blk_frozen BK156.out 7
          have hfz14_8 := blk_frozen BK156.out 8
          have hfz14_9 := blk_frozen BK156.out 9
          have hfz14_10 := blk_frozen BK156.out 10
          have hfz14_11 := blk_frozen BK156.out 11
          have hfz14_12 := blk_frozen BK156.out 12
          have hfz14_13 := blk_frozen BK156.out 13
          have hfz14_14 := blk_frozen BK156.out 14
          have hfz14_15 := blk_frozen BK156.out 15
          have hfz14_16 := blk_frozen BK156.out 16
          have hfz14_17 := blk_frozen BK156.out 17
          have hfz14_18 := blk_frozen BK156.out 18
          have hfz14_19 := blk_frozen BK156.out 19
          have hfz14_20 := blk_frozen BK156.out 20
          go_wp2_with (first | ((first | (with_reducible refine gate_dst (N := 63) rfl ?_) | (with_reducible refine gate_dst (N := 66) rfl ?_) | (with_reducible refine gate_dst (N := 80) rfl ?_) | (with_reducible refine gate_dst (N := 84) rfl ?_)); refine wpList_load_mid rfl 25 (.tmp 2) rfl _ _ (by rfl) [_, _, _, _, _, _, _, _, _, _, _, _, _, _, _, _, _, _, _, _, _] _ (cellsAt_range _ (by (repeat (refine ⟨by assumption, ?_⟩)); exact trivial)) Try.underlying25 rfl (by kernel_rfl) ?_) | ((first | (with_reducible refine gate_dst (N := 81) rfl ?_) | (with_reducible refine gate_dst (N := 85) rfl ?_)); refine wpList_load_mid rfl 23 (.tmp 8) rfl _ _ (by rfl) [_, _, _, _, _, _, _, _, _, _, _, _, _] _ (cellsAt_range _ (by (repeat (refine ⟨by assumption, ?_⟩)); exact trivial)) Try.underlying23 rfl (by kernel_rfl) ?_) | ((with_reducible refine gate_dst (N := 100) rfl ?_); refine wpList_load_midG rfl 25 (.tmp 2) rfl _ _ (by rfl) [_, _, _, _, _, _, _, _, _, _, _, _, _, _, _, _, _, _, _, _, _] _ (cellsAt_range _ (by (repeat (refine ⟨by assumption, ?_⟩)); exact trivial)) Try.underlying25 rfl (by kernel_rfl) ?_))
          go_meet
          case rel => exact ⟨_, (true), (by first | rfl | (simp; done) | exact ret_ne _ | (simp [*]; done)), H', ⟨by first | omega | exact Nat.le_refl _⟩, ⟨by (with_reducible repeat (first | refine blk_drewN ?_ _ | refine blk_drew ?_ | refine blk_alloc ?_ _)); exact BK156.out⟩, ⟨by (with_reducible repeat (first | refine blk_drewN ?_ _ | refine blk_drew ?_ | refine blk_alloc ?_ _)); exact BK157.out⟩, ⟨by repeat (first | (with_reducible first | exact HB.out | apply below_alloc | apply pw_below_drewN | apply below_drew1 | refine below_set ?_ GE156.out | refine below_set ?_ GE157.out) | exact HB.out)⟩⟩
        · rw [if_neg c12] at H
          have c12b0 : decide (536870912 < a0_17) = false := decide_eq_false c12
          clear c12
          by_cases c15 : a0_14 > 1073741824
          · rw [if_pos c15] at H
            have c15b0 : decide (1073741824 < a0_14) = true := decide_eq_true c15
            clear c15
            have H' := Aside0.mk H
            clear H
            have hnb16 := NB156_157.out
            have hnc16 := NB157_156.out
            have hcz17_0 : w5.cell? ⟨gb156, 0, none⟩ = some (.int .i64 a0_0) := (blk_cell BK156.out 0).trans rfl
            have hcz17_1 : w5.cell? ⟨gb156, 1, none⟩ = some (.bool a0_1) := (blk_cell BK156.out 1).trans rfl
            have hcz17_2 : w5.cell? ⟨gb156, 2, none⟩ = some (.bool a0_2) := (blk_cell BK156.out 2).trans rfl
            have hcz17_3 : w5.cell? ⟨gb156, 3, none⟩ = some (.bool a0_3) := (blk_cell BK156.out 3).trans rfl
            have hcz17_4 : w5.cell? ⟨gb156, 4, none⟩ = some (.bool a0_4) := (blk_cell BK156.out 4).trans rfl
            have hcz17_5 : w5.cell? ⟨gb156, 5, none⟩ = some (.bool a0_5) := (blk_cell BK156.out 5).trans rfl
            have hcz17_6 : w5.cell? ⟨gb156, 6, none⟩ = some (.bool a0_6) := (blk_cell BK156.out 6).trans rfl
            have hcz17_7 : w5.cell? ⟨gb156, 7, none⟩ = some (.bool a0_7) := (blk_cell BK156.out 7).trans rfl
            have hcz17_8 : w5.cell? ⟨gb156, 8, none⟩ = some (.int .i64 a0_8) := (blk_cell BK156.out 8).trans rfl
            have hcz17_9 : w5.cell? ⟨gb156, 9, none⟩ = some (.int .i64 a0_9) := (blk_cell BK156.out 9).trans rfl
            have hcz17_10 : w5.cell? ⟨gb156, 10, none⟩ = some (.int .i64 a0_10) := (blk_cell BK156.out 10).trans rfl
            have hcz17_11 : w5.cell? ⟨gb156, 11, none⟩ = some (.int .i64 a0_11) := (blk_cell BK156.out 11).trans rfl
            have hcz17_12 : w5.cell? ⟨gb156, 12, none⟩ = some (.int .i64 a0_12) := (blk_cell BK156.out 12).trans rfl
            have hcz17_13 : w5.cell? ⟨gb156, 13, none⟩ = some (.int .i64 a0_13) := (blk_cell BK156.out 13).trans rfl
            have hcz17_14 : w5.cell? ⟨gb156, 14, none⟩ = some (.int .i64 a0_14) := (blk_cell BK156.out 14).trans rfl
            have hcz17_15 : w5.cell? ⟨gb156, 15, none⟩ = some (.int .i64 a0_15) := (blk_cell BK156.out 15).trans rfl
            have hcz17_16 : w5.cell? ⟨gb156, 16, none⟩ = some (.int .i64 a0_16) := (blk_cell BK156.out 16).trans rfl
            have hcz17_17 : w5.cell? ⟨gb156, 17, none⟩ = some (.int .i64 a0_17) := (blk_cell BK156.out 17).trans rfl
            have hcz17_18 : w5.cell? ⟨gb156, 18, none⟩ = some (.int .i64 a0_18) := (blk_cell BK156.out 18).trans rfl
            have hcz17_19 : w5.cell? ⟨gb156, 19, none⟩ = some (.int .i64 a0_19) := (blk_cell BK156.out 19).trans rfl
            have hcz17_20 : w5.cell? ⟨gb156, 20, none⟩ = some (.string a0_20) := (blk_cell BK156.out 20).trans rfl
            have hfz17_0 := blk_frozen BK156.out 0
            have hfz17_1 := blk_frozen BK156.out 1
            have hfz17_2 := blk_frozen BK156.out 2
            have hfz17_3 := blk_frozen BK156.out 3
            have hfz17_4 := blk_frozen BK156.out 4
            have hfz17_5 := blk_frozen BK156.out 5
            have hfz17_6 := blk_frozen BK156.out 6
            have hfz17_7 := blk_frozen BK156.out 7
            have hfz17_8 := blk_frozen BK156.out 8
            have hfz17_9 := blk_frozen BK156.out 9
            have hfz17_10 := blk_frozen BK156.out 10
            have hfz17_11 := blk_frozen BK156.out 11
            have hfz17_12 := blk_frozen BK156.out 12
            have hfz17_13 := blk_frozen BK156.out 13
            have hfz17_14 := blk_frozen BK156.out 14
            have hfz17_15 := blk_frozen BK156.out 15
            have hfz17_16 := blk_frozen BK156.out 16
            have hfz17_17 := blk_frozen BK156.out 17
            have hfz17_18 := blk_frozen BK156.out 18
            have hfz17_19 := blk_frozen BK156.out 19
            have hfz17_20 := blk_frozen BK156.out 20
            go_wp2_with (first | ((first | (with_reducible refine gate_dst (N := 63) rfl ?_) | (with_reducible refine gate_dst (N := 66) rfl ?_) | (with_reducible refine gate_dst (N := 80) rfl ?_) | (with_reducible refine gate_dst (N := 84) rfl ?_)); refine wpList_load_mid rfl 25 (.tmp 2) rfl _ _ (by rfl) [_, _, _, _, _, _, _, _, _, _, _, _, _, _, _, _, _, _, _, _, _] _ (cellsAt_range _ (by (repeat (refine ⟨by assumption, ?_⟩)); exact trivial)) Try.underlying25 rfl (by kernel_rfl) ?_) | ((first | (with_reducible refine gate_dst (N := 81) rfl ?_) | (with_reducible refine gate_dst (N := 85) rfl ?_)); refine wpList_load_mid rfl 23 (.tmp 8) rfl _ _ (by rfl) [_, _, _, _, _, _, _, _, _, _, _, _, _] _ (cellsAt_range _ (by (repeat (refine ⟨by assumption, ?_⟩)); exact trivial)) Try.underlying23 rfl (by kernel_rfl) ?_) | ((with_reducible refine gate_dst (N := 100) rfl ?_); refine wpList_load_midG rfl 25 (.tmp 2) rfl _ _ (by rfl) [_, _, _, _, _, _, _, _, _, _, _, _, _, _, _, _, _, _, _, _, _] _ (cellsAt_range _ (by (repeat (refine ⟨by assumption, ?_⟩)); exact trivial)) Try.underlying25 rfl (by kernel_rfl) ?_))
            go_meet
            case rel => exact ⟨_, (true), (by first | rfl | (simp; done) | exact ret_ne _ | (simp [*]; done)), H', ⟨by first | omega | exact Nat.le_refl _⟩, ⟨by (with_reducible repeat (first | refine blk_drewN ?_ _ | refine blk_drew ?_ | refine blk_alloc ?_ _)); exact BK156.out⟩, ⟨by (with_reducible repeat (first | refine blk_drewN ?_ _ | refine blk_drew ?_ | refine blk_alloc ?_ _)); exact BK157.out⟩, ⟨by repeat (first | (with_reducible first | exact HB.out | apply below_alloc | apply pw_below_drewN | apply below_drew1 | refine below_set ?_ GE156.out | refine below_set ?_ GE157.out) | exact HB.out)⟩⟩
          · rw [if_neg c15] at H
            have c15b0 : decide (1073741824 < a0_14) = false := decide_eq_false c15
            clear c15
            have H' := Aside0.mk H
            clear H
            have hnb18 := NB156_157.out
            have hnc18 := NB157_156.out
            have hcz19_0 : w5.cell? ⟨gb156, 0, none⟩ = some (.int .i64 a0_0) := (blk_cell BK156.out 0).trans rfl
            have hcz19_1 : w5.cell? ⟨gb156, 1, none⟩ = some (.bool a0_1) := (blk_cell BK156.out 1).trans rfl
            have hcz19_2 : w5.cell? ⟨gb156, 2, none⟩ = some (.bool a0_2) := (blk_cell BK156.out 2).trans rfl
            have hcz19_3 : w5.cell? ⟨gb156, 3, none⟩ = some (.bool a0_3) := (blk_cell BK156.out 3).trans rfl
            have hcz19_4 : w5.cell? ⟨gb156, 4, none⟩ = some (.bool a0_4) := (blk_cell BK156.out 4).trans rfl
            have hcz19_5 : w5.cell? ⟨gb156, 5, none⟩ = some (.bool a0_5) := (blk_cell BK156.out 5).trans rfl
            have hcz19_6 : w5.cell? ⟨gb156, 6, none⟩ = some (.bool a0_6) := (blk_cell BK156.out 6).trans rfl
            have hcz19_7 : w5.cell? ⟨gb156, 7, none⟩ = some (.bool a0_7) := (blk_cell BK156.out 7).trans rfl
            have hcz19_8 : w5.cell? ⟨gb156, 8, none⟩ = some (.int .i64 a0_8) := (blk_cell BK156.out 8).trans rfl
            have hcz19_9 : w5.cell? ⟨gb156, 9, none⟩ = some (.int .i64 a0_9) := (blk_cell BK156.out 9).trans rfl
            have hcz19_10 : w5.cell? ⟨gb156, 10, none⟩ = some (.int .i64 a0_10) := (blk_cell BK156.out 10).trans rfl
            have hcz19_11 : w5.cell? ⟨gb156, 11, none⟩ = some (.int .i64 a0_11) := (blk_cell BK156.out 11).trans rfl
            have hcz19_12 : w5.cell? ⟨gb156, 12, none⟩ = some (.int .i64 a0_12) := (blk_cell BK156.out 12).trans rfl
            have hcz19_13 : w5.cell? ⟨gb156, 13, none⟩ = some (.int .i64 a0_13) := (blk_cell BK156.out 13).trans rfl
            have hcz19_14 : w5.cell? ⟨gb156, 14, none⟩ = some (.int .i64 a0_14) := (blk_cell BK156.out 14).trans rfl
            have hcz19_15 : w5.cell? ⟨gb156, 15, none⟩ = some (.int .i64 a0_15) := (blk_cell BK156.out 15).trans rfl
            have hcz19_16 : w5.cell? ⟨gb156, 16, none⟩ = some (.int .i64 a0_16) := (blk_cell BK156.out 16).trans rfl
            have hcz19_17 : w5.cell? ⟨gb156, 17, none⟩ = some (.int .i64 a0_17) := (blk_cell BK156.out 17).trans rfl
            have hcz19_18 : w5.cell? ⟨gb156, 18, none⟩ = some (.int .i64 a0_18) := (blk_cell BK156.out 18).trans rfl
            have hcz19_19 : w5.cell? ⟨gb156, 19, none⟩ = some (.int .i64 a0_19) := (blk_cell BK156.out 19).trans rfl
            have hcz19_20 : w5.cell? ⟨gb156, 20, none⟩ = some (.string a0_20) := (blk_cell BK156.out 20).trans rfl
            have hfz19_0 := blk_frozen BK156.out 0
            have hfz19_1 := blk_frozen BK156.out 1
            have hfz19_2 := blk_frozen BK156.out 2
            have hfz19_3 := blk_frozen BK156.out 3
            have hfz19_4 := blk_frozen BK156.out 4
            have hfz19_5 := blk_frozen BK156.out 5
            have hfz19_6 := blk_frozen BK156.out 6
            have hfz19_7 := blk_frozen BK156.out 7
            have hfz19_8 := blk_frozen BK156.out 8
            have hfz19_9 := blk_frozen BK156.out 9
            have hfz19_10 := blk_frozen BK156.out 10
            have hfz19_11 := blk_frozen BK156.out 11
            have hfz19_12 := blk_frozen BK156.out 12
            have hfz19_13 := blk_frozen BK156.out 13
            have hfz19_14 := blk_frozen BK156.out 14
            have hfz19_15 := blk_frozen BK156.out 15
            have hfz19_16 := blk_frozen BK156.out 16
            have hfz19_17 := blk_frozen BK156.out 17
            have hfz19_18 := blk_frozen BK156.out 18
            have hfz19_19 := blk_frozen BK156.out 19
            have hfz19_20 := blk_frozen BK156.out 20
            go_wp2_with (first | ((first | (with_reducible refine gate_dst (N := 63) rfl ?_) | (with_reducible refine gate_dst (N := 66) rfl ?_) | (with_reducible refine gate_dst (N := 80) rfl ?_) | (with_reducible refine gate_dst (N := 84) rfl ?_)); refine wpList_load_mid rfl 25 (.tmp 2) rfl _ _ (by rfl) [_, _, _, _, _, _, _, _, _, _, _, _, _, _, _, _, _, _, _, _, _] _ (cellsAt_range _ (by (repeat (refine ⟨by assumption, ?_⟩)); exact trivial)) Try.underlying25 rfl (by kernel_rfl) ?_) | ((first | (with_reducible refine gate_dst (N := 81) rfl ?_) | (with_reducible refine gate_dst (N := 85) rfl ?_)); refine wpList_load_mid rfl 23 (.tmp 8) rfl _ _ (by rfl) [_, _, _, _, _, _, _, _, _, _, _, _, _] _ (cellsAt_range _ (by (repeat (refine ⟨by assumption, ?_⟩)); exact trivial)) Try.underlying23 rfl (by kernel_rfl) ?_) | ((with_reducible refine gate_dst (N := 100) rfl ?_); refine wpList_load_midG rfl 25 (.tmp 2) rfl _ _ (by rfl) [_, _, _, _, _, _, _, _, _, _, _, _, _, _, _, _, _, _, _, _, _] _ (cellsAt_range _ (by (repeat (refine ⟨by assumption, ?_⟩)); exact trivial)) Try.underlying25 rfl (by kernel_rfl) ?_))
            go_meet
            case rel => exact ⟨_, (decide (a0_18 > 1073741824)), (by first | rfl | (simp; done) | exact ret_ne _ | (simp [*]; done)), H', ⟨by first | omega | exact Nat.le_refl _⟩, ⟨by (with_reducible repeat (first | refine blk_drewN ?_ _ | refine blk_drew ?_ | refine blk_alloc ?_ _)); exact BK156.out⟩, ⟨by (with_reducible repeat (first | refine blk_drewN ?_ _ | refine blk_drew ?_ | refine blk_alloc ?_ _)); exact BK157.out⟩, ⟨by repeat (first | (with_reducible first | exact HB.out | apply below_alloc | apply pw_below_drewN | apply below_drew1 | refine below_set ?_ GE156.out | refine below_set ?_ GE157.out) | exact HB.out)⟩⟩
  case rest =>
    clear HC3
    try clear c1
    try clear p2
    try clear c5
    try clear c6
    try clear c6b0
    try clear c7
    try clear c9
    try clear c9b0
    try clear c10
    try clear c12
    try clear c12b0
    try clear c13
    try clear c15
    try clear c15b0
    try clear c16
    try clear c18
    try clear hcz11_0
    try clear hcz11_1
    try clear hcz11_10
    try clear hcz11_11
    try clear hcz11_12
    try clear hcz11_13
    try clear hcz11_14
    try clear hcz11_15
    try clear hcz11_16
    try clear hcz11_17
    try clear hcz11_18
    try clear hcz11_19
    try clear hcz11_2
    try clear hcz11_20
    try clear hcz11_3
    try clear hcz11_4
    try clear hcz11_5
    try clear hcz11_6
    try clear hcz11_7
    try clear hcz11_8
    try clear hcz11_9
    try clear hcz14_0
    try clear hcz14_1
    try clear hcz14_10
    try clear hcz14_11
    try clear hcz14_12
    try clear hcz14_13
    try clear hcz14_14
    try clear hcz14_15
    try clear hcz14_16
    try clear hcz14_17
    try clear hcz14_18
    try clear hcz14_19
    try clear hcz14_2
    try clear hcz14_20
    try clear hcz14_3
    try clear hcz14_4
    try clear hcz14_5
    try clear hcz14_6
    try clear hcz14_7
    try clear hcz14_8
    try clear hcz14_9
    try clear hcz17_0
    try clear hcz17_1
    try clear hcz17_10
    try clear hcz17_11
    try clear hcz17_12
    try clear hcz17_13
    try clear hcz17_14
    try clear hcz17_15
    try clear hcz17_16
    try clear hcz17_17
    try clear hcz17_18
    try clear hcz17_19
    try clear hcz17_2
    try clear hcz17_20
    try clear hcz17_3
    try clear hcz17_4
    try clear hcz17_5
    try clear hcz17_6
    try clear hcz17_7
    try clear hcz17_8
    try clear hcz17_9
    try clear hcz19_0
    try clear hcz19_1
    try clear hcz19_10
    try clear hcz19_11
    try clear hcz19_12
    try clear hcz19_13
    try clear hcz19_14
    try clear hcz19_15
    try clear hcz19_16
    try clear hcz19_17
    try clear hcz19_18
    try clear hcz19_19
    try clear hcz19_2
    try clear hcz19_20
    try clear hcz19_3
    try clear hcz19_4
    try clear hcz19_5
    try clear hcz19_6
    try clear hcz19_7
    try clear hcz19_8
    try clear hcz19_9
    try clear hcz8_0
    try clear hcz8_1
    try clear hcz8_10
    try clear hcz8_11
    try clear hcz8_12
    try clear hcz8_13
    try clear hcz8_14
    try clear hcz8_15
    try clear hcz8_16
    try clear hcz8_17
    try clear hcz8_18
    try clear hcz8_19
    try clear hcz8_2
    try clear hcz8_20
    try clear hcz8_3
    try clear hcz8_4
    try clear hcz8_5
    try clear hcz8_6
    try clear hcz8_7
    try clear hcz8_8
    try clear hcz8_9
    try clear hfz11_0
    try clear hfz11_1
    try clear hfz11_10
    try clear hfz11_11
    try clear hfz11_12
    try clear hfz11_13
    try clear hfz11_14
    try clear hfz11_15
    try clear hfz11_16
    try clear hfz11_17
    try clear hfz11_18
    try clear hfz11_19
    try clear hfz11_2
    try clear hfz11_20
    try clear hfz11_3
    try clear hfz11_4
    try clear hfz11_5
    try clear hfz11_6
    try clear hfz11_7
    try clear hfz11_8
    try clear hfz11_9
    try clear hfz14_0
    try clear hfz14_1
    try clear hfz14_10
    try clear hfz14_11
    try clear hfz14_12
    try clear hfz14_13
    try clear hfz14_14
    try clear hfz14_15
    try clear hfz14_16
    try clear hfz14_17
    try clear hfz14_18
    try clear hfz14_19
    try clear hfz14_2
    try clear hfz14_20
    try clear hfz14_3
    try clear hfz14_4
    try clear hfz14_5
    try clear hfz14_6
    try clear hfz14_7
    try clear hfz14_8
    try clear hfz14_9
    try clear hfz17_0
    try clear hfz17_1
    try clear hfz17_10
    try clear hfz17_11
    try clear hfz17_12
    try clear hfz17_13
    try clear hfz17_14
    try clear hfz17_15
    try clear hfz17_16
    try clear hfz17_17
    try clear hfz17_18
    try clear hfz17_19
    try clear hfz17_2
    try clear hfz17_20
    try clear hfz17_3
    try clear hfz17_4
    try clear hfz17_5
    try clear hfz17_6
    try clear hfz17_7
    try clear hfz17_8
    try clear hfz17_9
    try clear hfz19_0
    try clear hfz19_1
    try clear hfz19_10
    try clear hfz19_11
    try clear hfz19_12
    try clear hfz19_13
    try clear hfz19_14
    try clear hfz19_15
    try clear hfz19_16
    try clear hfz19_17
    try clear hfz19_18
    try clear hfz19_19
    try clear hfz19_2
    try clear hfz19_20
    try clear hfz19_3
    try clear hfz19_4
    try clear hfz19_5
    try clear hfz19_6
    try clear hfz19_7
    try clear hfz19_8
    try clear hfz19_9
    try clear hfz8_0
    try clear hfz8_1
    try clear hfz8_10
    try clear hfz8_11
    try clear hfz8_12
    try clear hfz8_13
    try clear hfz8_14
    try clear hfz8_15
    try clear hfz8_16
    try clear hfz8_17
    try clear hfz8_18
    try clear hfz8_19
    try clear hfz8_2
    try clear hfz8_20
    try clear hfz8_3
    try clear hfz8_4
    try clear hfz8_5
    try clear hfz8_6
    try clear hfz8_7
    try clear hfz8_8
    try clear hfz8_9
    obtain ⟨kq, x35_2, rfl, HA, HJ2, BK156, BK157, HB⟩ := hcut
    cases kq with
    | zero => exact absurd HA.out (by simp [gatepostlaw09_FreshGrows.j0])
    | succ kj2 =>
      have H := HA.out
      clear HA
      simp only [gatepostlaw09_FreshGrows.j0] at H
      have HC20 := Aside0.mk H
      clear H
      go_upto_if 35 with (first | ((first | (with_reducible refine gate_dst (N := 63) rfl ?_) | (with_reducible refine gate_dst (N := 66) rfl ?_) | (with_reducible refine gate_dst (N := 80) rfl ?_) | (with_reducible refine gate_dst (N := 84) rfl ?_)); refine wpList_load_mid rfl 25 (.tmp 2) rfl _ _ (by rfl) [_, _, _, _, _, _, _, _, _, _, _, _, _, _, _, _, _, _, _, _, _] _ (cellsAt_range _ (by (repeat (refine ⟨by assumption, ?_⟩)); exact trivial)) Try.underlying25 rfl (by kernel_rfl) ?_) | ((first | (with_reducible refine gate_dst (N := 81) rfl ?_) | (with_reducible refine gate_dst (N := 85) rfl ?_)); refine wpList_load_mid rfl 23 (.tmp 8) rfl _ _ (by rfl) [_, _, _, _, _, _, _, _, _, _, _, _, _] _ (cellsAt_range _ (by (repeat (refine ⟨by assumption, ?_⟩)); exact trivial)) Try.underlying23 rfl (by kernel_rfl) ?_) | ((with_reducible refine gate_dst (N := 100) rfl ?_); refine wpList_load_midG rfl 25 (.tmp 2) rfl _ _ (by rfl) [_, _, _, _, _, _, _, _, _, _, _, _, _, _, _, _, _, _, _, _, _] _ (cellsAt_range _ (by (repeat (refine ⟨by assumption, ?_⟩)); exact trivial)) Try.underlying25 rfl (by kernel_rfl) ?_))
      go_cut [] (fun wc => ∃ (kq : Nat) (x157014_19 : Int) (x157017_19 : Int) (x157018_19 : Int) (x157019_19 : Int), Aside0 (gatepostlaw09_FreshGrows.j1 kq a0_0 a0_1 a0_2 a0_3 a0_4 a0_5 a0_6 a0_7 a0_8 a0_9 a0_10 a0_11 a0_12 a0_13 x157014_19 a0_15 a0_16 x157017_19 x157018_19 x157019_19 a0_20 a1_0 a1_1 = some r) ∧ Aside0 (kq ≤ kj2) ∧ Aside0 (wc.heap[gb156]? = some (.cells #[.int .i64 a0_0, .bool a0_1, .bool a0_2, .bool a0_3, .bool a0_4, .bool a0_5, .bool a0_6, .bool a0_7, .int .i64 a0_8, .int .i64 a0_9, .int .i64 a0_10, .int .i64 a0_11, .int .i64 a0_12, .int .i64 a0_13, .int .i64 x157014_19, .int .i64 a0_15, .int .i64 a0_16, .int .i64 x157017_19, .int .i64 x157018_19, .int .i64 x157019_19, .string a0_20] 25 (0, 0))) ∧ Aside0 (wc.heap[gb157]? = some (.cells #[.int .i64 a1_0, .int .i64 a1_1] 32 (0, 0))) ∧ Aside0 (Below w.heap.size w wc))
      case first =>
        have H := HC20.out
        clear HC20
        by_cases c21 : x35_2 = true
        · subst c21
          have H1 : (gatepostlaw09_FreshGrows.j1 kj2 a0_0 a0_1 a0_2 a0_3 a0_4 a0_5 a0_6 a0_7 a0_8 a0_9 a0_10 a0_11 a0_12 a0_13 (Go.bits .and .i64 a0_14 65535) a0_15 a0_16 (Go.bits .and .i64 a0_17 255) (Go.bits .and .i64 a0_18 65535) (Go.bits .and .i64 a0_19 65535) a0_20 a1_0 a1_1) = some r := by rw [if_pos rfl] at H; exact H
          clear H
          have H := H1
          clear H1
          have H' := Aside0.mk H
          clear H
          have hnb22 := NB156_157.out
          have hnc22 := NB157_156.out
          have hcz23_0 : wc.cell? ⟨gb156, 0, none⟩ = some (.int .i64 a0_0) := (blk_cell BK156.out 0).trans rfl
          have hcz23_1 : wc.cell? ⟨gb156, 1, none⟩ = some (.bool a0_1) := (blk_cell BK156.out 1).trans rfl
          have hcz23_2 : wc.cell? ⟨gb156, 2, none⟩ = some (.bool a0_2) := (blk_cell BK156.out 2).trans rfl
          have hcz23_3 : wc.cell? ⟨gb156, 3, none⟩ = some (.bool a0_3) := (blk_cell BK156.out 3).trans rfl
          have hcz23_4 : wc.cell? ⟨gb156, 4, none⟩ = some (.bool a0_4) := (blk_cell BK156.out 4).trans rfl
          have hcz23_5 : wc.cell? ⟨gb156, 5, none⟩ = some (.bool a0_5) := (blk_cell BK156.out 5).trans rfl
          have hcz23_6 : wc.cell? ⟨gb156, 6, none⟩ = some (.bool a0_6) := (blk_cell BK156.out 6).trans rfl
          have hcz23_7 : wc.cell? ⟨gb156, 7, none⟩ = some (.bool a0_7) := (blk_cell BK156.out 7).trans rfl
          have hcz23_8 : wc.cell? ⟨gb156, 8, none⟩ = some (.int .i64 a0_8) := (blk_cell BK156.out 8).trans rfl
          have hcz23_9 : wc.cell? ⟨gb156, 9, none⟩ = some (.int .i64 a0_9) := (blk_cell BK156.out 9).trans rfl
          have hcz23_10 : wc.cell? ⟨gb156, 10, none⟩ = some (.int .i64 a0_10) := (blk_cell BK156.out 10).trans rfl
          have hcz23_11 : wc.cell? ⟨gb156, 11, none⟩ = some (.int .i64 a0_11) := (blk_cell BK156.out 11).trans rfl
          have hcz23_12 : wc.cell? ⟨gb156, 12, none⟩ = some (.int .i64 a0_12) := (blk_cell BK156.out 12).trans rfl
          have hcz23_13 : wc.cell? ⟨gb156, 13, none⟩ = some (.int .i64 a0_13) := (blk_cell BK156.out 13).trans rfl
          have hcz23_14 : wc.cell? ⟨gb156, 14, none⟩ = some (.int .i64 a0_14) := (blk_cell BK156.out 14).trans rfl
          have hcz23_15 : wc.cell? ⟨gb156, 15, none⟩ = some (.int .i64 a0_15) := (blk_cell BK156.out 15).trans rfl
          have hcz23_16 : wc.cell? ⟨gb156, 16, none⟩ = some (.int .i64 a0_16) := (blk_cell BK156.out 16).trans rfl
          have hcz23_17 : wc.cell? ⟨gb156, 17, none⟩ = some (.int .i64 a0_17) := (blk_cell BK156.out 17).trans rfl
          have hcz23_18 : wc.cell? ⟨gb156, 18, none⟩ = some (.int .i64 a0_18) := (blk_cell BK156.out 18).trans rfl
          have hcz23_19 : wc.cell? ⟨gb156, 19, none⟩ = some (.int .i64 a0_19) := (blk_cell BK156.out 19).trans rfl
          have hcz23_20 : wc.cell? ⟨gb156, 20, none⟩ = some (.string a0_20) := (blk_cell BK156.out 20).trans rfl
          have hfz23_0 := blk_frozen BK156.out 0
          have hfz23_1 := blk_frozen BK156.out 1
          have hfz23_2 := blk_frozen BK156.out 2
          have hfz23_3 := blk_frozen BK156.out 3
          have hfz23_4 := blk_frozen BK156.out 4
          have hfz23_5 := blk_frozen BK156.out 5
          have hfz23_6 := blk_frozen BK156.out 6
          have hfz23_7 := blk_frozen BK156.out 7
          have hfz23_8 := blk_frozen BK156.out 8
          have hfz23_9 := blk_frozen BK156.out 9
          have hfz23_10 := blk_frozen BK156.out 10
          have hfz23_11 := blk_frozen BK156.out 11
          have hfz23_12 := blk_frozen BK156.out 12
          have hfz23_13 := blk_frozen BK156.out 13
          have hfz23_14 := blk_frozen BK156.out 14
          have hfz23_15 := blk_frozen BK156.out 15
          have hfz23_16 := blk_frozen BK156.out 16
          have hfz23_17 := blk_frozen BK156.out 17
          have hfz23_18 := blk_frozen BK156.out 18
          have hfz23_19 := blk_frozen BK156.out 19
          have hfz23_20 := blk_frozen BK156.out 20
          go_wp2_with (first | ((first | (with_reducible refine gate_dst (N := 63) rfl ?_) | (with_reducible refine gate_dst (N := 66) rfl ?_) | (with_reducible refine gate_dst (N := 80) rfl ?_) | (with_reducible refine gate_dst (N := 84) rfl ?_)); refine wpList_load_mid rfl 25 (.tmp 2) rfl _ _ (by rfl) [_, _, _, _, _, _, _, _, _, _, _, _, _, _, _, _, _, _, _, _, _] _ (cellsAt_range _ (by (repeat (refine ⟨by assumption, ?_⟩)); exact trivial)) Try.underlying25 rfl (by kernel_rfl) ?_) | ((first | (with_reducible refine gate_dst (N := 81) rfl ?_) | (with_reducible refine gate_dst (N := 85) rfl ?_)); refine wpList_load_mid rfl 23 (.tmp 8) rfl _ _ (by rfl) [_, _, _, _, _, _, _, _, _, _, _, _, _] _ (cellsAt_range _ (by (repeat (refine ⟨by assumption, ?_⟩)); exact trivial)) Try.underlying23 rfl (by kernel_rfl) ?_) | ((with_reducible refine gate_dst (N := 100) rfl ?_); refine wpList_load_midG rfl 25 (.tmp 2) rfl _ _ (by rfl) [_, _, _, _, _, _, _, _, _, _, _, _, _, _, _, _, _, _, _, _, _] _ (cellsAt_range _ (by (repeat (refine ⟨by assumption, ?_⟩)); exact trivial)) Try.underlying25 rfl (by kernel_rfl) ?_))
          go_meet
          case rel => exact ⟨_, (Go.bits .and .i64 a0_14 65535), (Go.bits .and .i64 a0_17 255), (Go.bits .and .i64 a0_18 65535), (Go.bits .and .i64 a0_19 65535), H', ⟨by have := HJ2.out; first | omega | exact Nat.le_refl _⟩, ⟨by (with_reducible repeat (first | refine blk_drewN ?_ _ | refine blk_drew ?_ | refine blk_alloc ?_ _)); refine blk_put (cs := #[.int .i64 a0_0, .bool a0_1, .bool a0_2, .bool a0_3, .bool a0_4, .bool a0_5, .bool a0_6, .bool a0_7, .int .i64 a0_8, .int .i64 a0_9, .int .i64 a0_10, .int .i64 a0_11, .int .i64 a0_12, .int .i64 a0_13, .int .i64 (Go.bits .and .i64 a0_14 65535), .int .i64 a0_15, .int .i64 a0_16, .int .i64 (Go.bits .and .i64 a0_17 255), .int .i64 a0_18, .int .i64 (Go.bits .and .i64 a0_19 65535), .string a0_20]) ?_ 18 _ rfl; (with_reducible repeat (first | refine blk_drewN ?_ _ | refine blk_drew ?_ | refine blk_alloc ?_ _)); refine blk_put (cs := #[.int .i64 a0_0, .bool a0_1, .bool a0_2, .bool a0_3, .bool a0_4, .bool a0_5, .bool a0_6, .bool a0_7, .int .i64 a0_8, .int .i64 a0_9, .int .i64 a0_10, .int .i64 a0_11, .int .i64 a0_12, .int .i64 a0_13, .int .i64 a0_14, .int .i64 a0_15, .int .i64 a0_16, .int .i64 (Go.bits .and .i64 a0_17 255), .int .i64 a0_18, .int .i64 (Go.bits .and .i64 a0_19 65535), .string a0_20]) ?_ 14 _ rfl; (with_reducible repeat (first | refine blk_drewN ?_ _ | refine blk_drew ?_ | refine blk_alloc ?_ _)); refine blk_put (cs := #[.int .i64 a0_0, .bool a0_1, .bool a0_2, .bool a0_3, .bool a0_4, .bool a0_5, .bool a0_6, .bool a0_7, .int .i64 a0_8, .int .i64 a0_9, .int .i64 a0_10, .int .i64 a0_11, .int .i64 a0_12, .int .i64 a0_13, .int .i64 a0_14, .int .i64 a0_15, .int .i64 a0_16, .int .i64 a0_17, .int .i64 a0_18, .int .i64 (Go.bits .and .i64 a0_19 65535), .string a0_20]) ?_ 17 _ rfl; (with_reducible repeat (first | refine blk_drewN ?_ _ | refine blk_drew ?_ | refine blk_alloc ?_ _)); refine blk_put (cs := #[.int .i64 a0_0, .bool a0_1, .bool a0_2, .bool a0_3, .bool a0_4, .bool a0_5, .bool a0_6, .bool a0_7, .int .i64 a0_8, .int .i64 a0_9, .int .i64 a0_10, .int .i64 a0_11, .int .i64 a0_12, .int .i64 a0_13, .int .i64 a0_14, .int .i64 a0_15, .int .i64 a0_16, .int .i64 a0_17, .int .i64 a0_18, .int .i64 a0_19, .string a0_20]) ?_ 19 _ rfl; (with_reducible repeat (first | refine blk_drewN ?_ _ | refine blk_drew ?_ | refine blk_alloc ?_ _)); exact BK156.out⟩, ⟨by (with_reducible repeat (first | refine blk_drewN ?_ _ | refine blk_drew ?_ | refine blk_alloc ?_ _)); refine blk_far ?_ NB157_156.out _; (with_reducible repeat (first | refine blk_drewN ?_ _ | refine blk_drew ?_ | refine blk_alloc ?_ _)); refine blk_far ?_ NB157_156.out _; (with_reducible repeat (first | refine blk_drewN ?_ _ | refine blk_drew ?_ | refine blk_alloc ?_ _)); refine blk_far ?_ NB157_156.out _; (with_reducible repeat (first | refine blk_drewN ?_ _ | refine blk_drew ?_ | refine blk_alloc ?_ _)); refine blk_far ?_ NB157_156.out _; (with_reducible repeat (first | refine blk_drewN ?_ _ | refine blk_drew ?_ | refine blk_alloc ?_ _)); exact BK157.out⟩, ⟨by repeat (first | (with_reducible first | exact HB.out | apply below_alloc | apply pw_below_drewN | apply below_drew1 | refine below_set ?_ GE156.out | refine below_set ?_ GE157.out) | exact HB.out)⟩⟩
        · replace c21 := Bool.eq_false_iff.mpr c21
          subst c21
          have H1 : (gatepostlaw09_FreshGrows.j1 kj2 a0_0 a0_1 a0_2 a0_3 a0_4 a0_5 a0_6 a0_7 a0_8 a0_9 a0_10 a0_11 a0_12 a0_13 a0_14 a0_15 a0_16 a0_17 a0_18 a0_19 a0_20 a1_0 a1_1) = some r := by rw [if_neg (show ¬ (false = true) by decide)] at H; exact H
          clear H
          have H := H1
          clear H1
          have H' := Aside0.mk H
          clear H
          go_wp2_with (first | ((first | (with_reducible refine gate_dst (N := 63) rfl ?_) | (with_reducible refine gate_dst (N := 66) rfl ?_) | (with_reducible refine gate_dst (N := 80) rfl ?_) | (with_reducible refine gate_dst (N := 84) rfl ?_)); refine wpList_load_mid rfl 25 (.tmp 2) rfl _ _ (by rfl) [_, _, _, _, _, _, _, _, _, _, _, _, _, _, _, _, _, _, _, _, _] _ (cellsAt_range _ (by (repeat (refine ⟨by assumption, ?_⟩)); exact trivial)) Try.underlying25 rfl (by kernel_rfl) ?_) | ((first | (with_reducible refine gate_dst (N := 81) rfl ?_) | (with_reducible refine gate_dst (N := 85) rfl ?_)); refine wpList_load_mid rfl 23 (.tmp 8) rfl _ _ (by rfl) [_, _, _, _, _, _, _, _, _, _, _, _, _] _ (cellsAt_range _ (by (repeat (refine ⟨by assumption, ?_⟩)); exact trivial)) Try.underlying23 rfl (by kernel_rfl) ?_) | ((with_reducible refine gate_dst (N := 100) rfl ?_); refine wpList_load_midG rfl 25 (.tmp 2) rfl _ _ (by rfl) [_, _, _, _, _, _, _, _, _, _, _, _, _, _, _, _, _, _, _, _, _] _ (cellsAt_range _ (by (repeat (refine ⟨by assumption, ?_⟩)); exact trivial)) Try.underlying25 rfl (by kernel_rfl) ?_))
          go_meet
          case rel => exact ⟨_, (a0_14), (a0_17), (a0_18), (a0_19), H', ⟨by have := HJ2.out; first | omega | exact Nat.le_refl _⟩, ⟨by (with_reducible repeat (first | refine blk_drewN ?_ _ | refine blk_drew ?_ | refine blk_alloc ?_ _)); exact BK156.out⟩, ⟨by (with_reducible repeat (first | refine blk_drewN ?_ _ | refine blk_drew ?_ | refine blk_alloc ?_ _)); exact BK157.out⟩, ⟨by repeat (first | (with_reducible first | exact HB.out | apply below_alloc | apply pw_below_drewN | apply below_drew1 | refine below_set ?_ GE156.out | refine below_set ?_ GE157.out) | exact HB.out)⟩⟩
      case rest =>
        clear HC20
        try clear c1
        try clear c2
        try clear p2
        try clear c5
        try clear c6
        try clear c6b0
        try clear c7
        try clear c9
        try clear c9b0
        try clear c10
        try clear c12
        try clear c12b0
        try clear c13
        try clear c15
        try clear c15b0
        try clear c16
        try clear c18
        try clear c21
        try clear c22
        try clear hcz11_0
        try clear hcz11_1
        try clear hcz11_10
        try clear hcz11_11
        try clear hcz11_12
        try clear hcz11_13
        try clear hcz11_14
        try clear hcz11_15
        try clear hcz11_16
        try clear hcz11_17
        try clear hcz11_18
        try clear hcz11_19
        try clear hcz11_2
        try clear hcz11_20
        try clear hcz11_3
        try clear hcz11_4
        try clear hcz11_5
        try clear hcz11_6
        try clear hcz11_7
        try clear hcz11_8
        try clear hcz11_9
        try clear hcz14_0
        try clear hcz14_1
        try clear hcz14_10
        try clear hcz14_11
        try clear hcz14_12
        try clear hcz14_13
        try clear hcz14_14
        try clear hcz14_15
        try clear hcz14_16
        try clear hcz14_17
        try clear hcz14_18
        try clear hcz14_19
        try clear hcz14_2
        try clear hcz14_20
        try clear hcz14_3
        try clear hcz14_4
        try clear hcz14_5
        try clear hcz14_6
        try clear hcz14_7
        try clear hcz14_8
        try clear hcz14_9
        try clear hcz17_0
        try clear hcz17_1
        try clear hcz17_10
        try clear hcz17_11
        try clear hcz17_12
        try clear hcz17_13
        try clear hcz17_14
        try clear hcz17_15
        try clear hcz17_16
        try clear hcz17_17
        try clear hcz17_18
        try clear hcz17_19
        try clear hcz17_2
        try clear hcz17_20
        try clear hcz17_3
        try clear hcz17_4
        try clear hcz17_5
        try clear hcz17_6
        try clear hcz17_7
        try clear hcz17_8
        try clear hcz17_9
        try clear hcz19_0
        try clear hcz19_1
        try clear hcz19_10
        try clear hcz19_11
        try clear hcz19_12
        try clear hcz19_13
        try clear hcz19_14
        try clear hcz19_15
        try clear hcz19_16
        try clear hcz19_17
        try clear hcz19_18
        try clear hcz19_19
        try clear hcz19_2
        try clear hcz19_20
        try clear hcz19_3
        try clear hcz19_4
        try clear hcz19_5
        try clear hcz19_6
        try clear hcz19_7
        try clear hcz19_8
        try clear hcz19_9
        try clear hcz23_0
        try clear hcz23_1
        try clear hcz23_10
        try clear hcz23_11
        try clear hcz23_12
        try clear hcz23_13
        try clear hcz23_14
        try clear hcz23_15
        try clear hcz23_16
        try clear hcz23_17
        try clear hcz23_18
        try clear hcz23_19
        try clear hcz23_2
        try clear hcz23_20
        try clear hcz23_3
        try clear hcz23_4
        try clear hcz23_5
        try clear hcz23_6
        try clear hcz23_7
        try clear hcz23_8
        try clear hcz23_9
        try clear hcz8_0
        try clear hcz8_1
        try clear hcz8_10
        try clear hcz8_11
        try clear hcz8_12
        try clear hcz8_13
        try clear hcz8_14
        try clear hcz8_15
        try clear hcz8_16
        try clear hcz8_17
        try clear hcz8_18
        try clear hcz8_19
        try clear hcz8_2
        try clear hcz8_20
        try clear hcz8_3
        try clear hcz8_4
        try clear hcz8_5
        try clear hcz8_6
        try clear hcz8_7
        try clear hcz8_8
        try clear hcz8_9
        try clear hfz11_0
        try clear hfz11_1
        try clear hfz11_10
        try clear hfz11_11
        try clear hfz11_12
        try clear hfz11_13
        try clear hfz11_14
        try clear hfz11_15
        try clear hfz11_16
        try clear hfz11_17
        try clear hfz11_18
        try clear hfz11_19
        try clear hfz11_2
        try clear hfz11_20
        try clear hfz11_3
        try clear hfz11_4
        try clear hfz11_5
        try clear hfz11_6
        try clear hfz11_7
        try clear hfz11_8
        try clear hfz11_9
        try clear hfz14_0
        try clear hfz14_1
        try clear hfz14_10
        try clear hfz14_11
        try clear hfz14_12
        try clear hfz14_13
        try clear hfz14_14
        try clear hfz14_15
        try clear hfz14_16
        try clear hfz14_17
        try clear hfz14_18
        try clear hfz14_19
        try clear hfz14_2
        try clear hfz14_20
        try clear hfz14_3
        try clear hfz14_4
        try clear hfz14_5
        try clear hfz14_6
        try clear hfz14_7
        try clear hfz14_8
        try clear hfz14_9
        try clear hfz17_0
        try clear hfz17_1
        try clear hfz17_10
        try clear hfz17_11
        try clear hfz17_12
        try clear hfz17_13
        try clear hfz17_14
        try clear hfz17_15
        try clear hfz17_16
        try clear hfz17_17
        try clear hfz17_18
        try clear hfz17_19
        try clear hfz17_2
        try clear hfz17_20
        try clear hfz17_3
        try clear hfz17_4
        try clear hfz17_5
        try clear hfz17_6
        try clear hfz17_7
        try clear hfz17_8
        try clear hfz17_9
        try clear hfz19_0
        try clear hfz19_1
        try clear hfz19_10
        try clear hfz19_11
        try clear hfz19_12
        try clear hfz19_13
        try clear hfz19_14
        try clear hfz19_15
        try clear hfz19_16
        try clear hfz19_17
        try clear hfz19_18
        try clear hfz19_19
        try clear hfz19_2
        try clear hfz19_20
        try clear hfz19_3
        try clear hfz19_4
        try clear hfz19_5
        try clear hfz19_6
        try clear hfz19_7
        try clear hfz19_8
        try clear hfz19_9
        try clear hfz23_0
        try clear hfz23_1
        try clear hfz23_10
        try clear hfz23_11
        try clear hfz23_12
        try clear hfz23_13
        try clear hfz23_14
        try clear hfz23_15
        try clear hfz23_16
        try clear hfz23_17
        try clear hfz23_18
        try clear hfz23_19
        try clear hfz23_2
        try clear hfz23_20
        try clear hfz23_3
        try clear hfz23_4
        try clear hfz23_5
        try clear hfz23_6
        try clear hfz23_7
        try clear hfz23_8
        try clear hfz23_9
        try clear hfz8_0
        try clear hfz8_1
        try clear hfz8_10
        try clear hfz8_11
        try clear hfz8_12
        try clear hfz8_13
        try clear hfz8_14
        try clear hfz8_15
        try clear hfz8_16
        try clear hfz8_17
        try clear hfz8_18
        try clear hfz8_19
        try clear hfz8_2
        try clear hfz8_20
        try clear hfz8_3
        try clear hfz8_4
        try clear hfz8_5
        try clear hfz8_6
        try clear hfz8_7
        try clear hfz8_8
        try clear hfz8_9
        try clear p2
        obtain ⟨kq, x157014_19, x157017_19, x157018_19, x157019_19, HA, HJ19, BK156, BK157, HB⟩ := hcut
        cases kq with
        | zero => exact absurd HA.out (by simp [gatepostlaw09_FreshGrows.j1])
        | succ kj19 =>
          have H := HA.out
          clear HA
          simp only [gatepostlaw09_FreshGrows.j1] at H
          replace H := Option.bind_eq_some_iff.mp H
          obtain ⟨t159, A240, H⟩ := H
          replace H : ((fresh_Age.f a0_0 a0_1 a0_2 a0_3 a0_4 a0_5 a0_6 a0_7 a0_8 a0_9 a0_10 a0_11 a0_12 a0_13 x157014_19 a0_15 a0_16 x157017_19 x157018_19 x157019_19 a0_20 (wrap64 ((wrap64 (x157019_19 + (Go.bits .and .i64 a1_0 1048575))) + (Go.bits .and .i64 a1_1 1048575)))).bind fun t160 => (if t160 = (wrap64 (t159 + (Go.bits .and .i64 a1_1 1048575))) then ((fresh_Heuristic.f 200).bind fun t161 => (gatepostlaw09_FreshGrows.j2 kj19 (Go.bits .and .i64 a1_1 1048575) (wrap64 (x157019_19 + (Go.bits .and .i64 a1_0 1048575))) t159 (!t161) a0_0 a0_1 a0_2 a0_3 a0_4 a0_5 a0_6 a0_7 a0_8 a0_9 a0_10 a0_11 a0_12 a0_13 x157014_19 a0_15 a0_16 x157017_19 x157018_19 x157019_19 a0_20 false false false false false false false (-1) 0 0 0 (-1) (-1))) else (gatepostlaw09_FreshGrows.j2 kj19 (Go.bits .and .i64 a1_1 1048575) (wrap64 (x157019_19 + (Go.bits .and .i64 a1_0 1048575))) t159 true a0_0 a0_1 a0_2 a0_3 a0_4 a0_5 a0_6 a0_7 a0_8 a0_9 a0_10 a0_11 a0_12 a0_13 x157014_19 a0_15 a0_16 x157017_19 x157018_19 x157019_19 a0_20 false false false false false false false (-1) 0 0 0 (-1) (-1)))) = some r := H
          have A24 := Aside0.mk A240
          clear A240
          replace H := Option.bind_eq_some_iff.mp H
          obtain ⟨t160, A250, H⟩ := H
          replace H : (if t160 = (wrap64 (t159 + (Go.bits .and .i64 a1_1 1048575))) then ((fresh_Heuristic.f 200).bind fun t161 => (gatepostlaw09_FreshGrows.j2 kj19 (Go.bits .and .i64 a1_1 1048575) (wrap64 (x157019_19 + (Go.bits .and .i64 a1_0 1048575))) t159 (!t161) a0_0 a0_1 a0_2 a0_3 a0_4 a0_5 a0_6 a0_7 a0_8 a0_9 a0_10 a0_11 a0_12 a0_13 x157014_19 a0_15 a0_16 x157017_19 x157018_19 x157019_19 a0_20 false false false false false false false (-1) 0 0 0 (-1) (-1))) else (gatepostlaw09_FreshGrows.j2 kj19 (Go.bits .and .i64 a1_1 1048575) (wrap64 (x157019_19 + (Go.bits .and .i64 a1_0 1048575))) t159 true a0_0 a0_1 a0_2 a0_3 a0_4 a0_5 a0_6 a0_7 a0_8 a0_9 a0_10 a0_11 a0_12 a0_13 x157014_19 a0_15 a0_16 x157017_19 x157018_19 x157019_19 a0_20 false false false false false false false (-1) 0 0 0 (-1) (-1))) = some r := H
          have A25 := Aside0.mk A250
          clear A250
          have HC26 := Aside0.mk H
          clear H
          try go_wp2
          have n0_ := Aside0.mk (blk_drew BK156.out)
          have n1_ := Aside0.mk (blk_drew BK157.out)
          have n2_ := Aside0.mk (below_drew1 HB.out)
          clear BK156
          clear BK157
          clear HB
          have BK156 := n0_
          have BK157 := n1_
          have HB := n2_
          clear n0_ n1_ n2_
          refine start_ (n := 8) (S := fun w' => w'.cell? ⟨gb157, 0, none⟩ = some (.int .i64 a1_0) ∧ w'.cell? ⟨gb157, 1, none⟩ = some (.int .i64 a1_1)) (ds := []) #[false, false, false, false, false, false, false, false] (by kernel_rfl) rfl rfl ⟨(blk_cell BK157.out 0).trans rfl, (blk_cell BK157.out 1).trans rfl⟩ (fun hHeld => ?_); refine with_tabW gatepostlaw09_FreshGrows.tab3 gatepostlaw09_FreshGrows.bits3 (fun HT_ HW_ => ?_)
          generalize wc.drew = w27 at BK156 BK157 HB hHeld ⊢
          refine pure_ (i := 0) (N := some 52) (v := ?_) (a' := ?_) #[true, false, false, false, false, false, false, false] rfl rfl (any_of HT_.out (by kernel_rfl)) (fun _ _ _ h => h) (Or.inl ⟨by rfl, ?_⟩) ?_ ?_
          rotate_left
          · intro w'
            go_simp
            with_reducible rfl
          rotate_left
          · simp only [Act.put, List.setIfInBounds_toArray, List.set_cons_zero, List.set_cons_succ, i64_w, i32_w]
            rfl
          refine pure_ (i := 3) (N := some 55) (v := ?_) (a' := ?_) #[true, false, false, true, false, false, false, false] rfl rfl (any_of HT_.out (by kernel_rfl)) (fun _ _ _ h => h) (Or.inl ⟨by rfl, ?_⟩) ?_ ?_
          rotate_left
          · intro w'
            go_simp
            with_reducible rfl
          rotate_left
          · simp only [Act.put, List.setIfInBounds_toArray, List.set_cons_zero, List.set_cons_succ, i64_w, i32_w]
            rfl
          refine take_ (i := 1) (N := some 53) (v := ?_) (a' := ?_) #[true, true, false, true, false, false, false, false] rfl rfl (take_ofW HT_.out HW_.out (by kernel_rfl)) (fun _ _ _ h => h) (Or.inl ⟨by rfl, ?_⟩) hHeld ?_ ?_
          rotate_left
          · rintro w' ⟨s0, s1⟩
            go_simp
            with_reducible rfl
          rotate_left
          · simp only [Act.put, List.setIfInBounds_toArray, List.set_cons_zero, List.set_cons_succ, i64_w, i32_w]
            rfl
          refine pure_ (i := 2) (N := some 54) (v := ?_) (a' := ?_) #[true, true, true, true, false, false, false, false] rfl rfl (any_of HT_.out (by kernel_rfl)) (fun _ _ _ h => h) (Or.inl ⟨by rfl, ?_⟩) ?_ ?_
          rotate_left
          · intro w'
            go_simp
            with_reducible rfl
          rotate_left
          · simp only [Act.put, List.setIfInBounds_toArray, List.set_cons_zero, List.set_cons_succ, i64_w, i32_w]
            rfl
          refine pure_ (i := 6) (N := some 5) (v := ?_) (a' := ?_) #[true, true, true, true, false, false, true, false] rfl rfl (any_of HT_.out (by kernel_rfl)) (fun _ _ _ h => h) (Or.inl ⟨by rfl, ?_⟩) ?_ ?_
          rotate_left
          · intro w'
            go_simp
            with_reducible rfl
          rotate_left
          · simp only [Act.put, List.setIfInBounds_toArray, List.set_cons_zero, List.set_cons_succ, i64_w, i32_w]
            rfl
          refine take_ (i := 4) (N := some 56) (v := ?_) (a' := ?_) #[true, true, true, true, true, false, true, false] rfl rfl (take_ofW HT_.out HW_.out (by kernel_rfl)) (fun _ _ _ h => h) (Or.inl ⟨by rfl, ?_⟩) hHeld ?_ ?_
          rotate_left
          · rintro w' ⟨s0, s1⟩
            go_simp
            with_reducible rfl
          rotate_left
          · simp only [Act.put, List.setIfInBounds_toArray, List.set_cons_zero, List.set_cons_succ, i64_w, i32_w]
            rfl
          refine pure_ (i := 5) (N := some 57) (v := ?_) (a' := ?_) #[true, true, true, true, true, true, true, false] rfl rfl (any_of HT_.out (by kernel_rfl)) (fun _ _ _ h => h) (Or.inl ⟨by rfl, ?_⟩) ?_ ?_
          rotate_left
          · intro w'
            go_simp
            with_reducible rfl
          rotate_left
          · simp only [Act.put, List.setIfInBounds_toArray, List.set_cons_zero, List.set_cons_succ, i64_w, i32_w]
            rfl
          refine pure_ (i := 7) (N := some 6) (v := ?_) (a' := ?_) #[true, true, true, true, true, true, true, true] rfl rfl (any_of HT_.out (by kernel_rfl)) (fun _ _ _ h => h) (Or.inl ⟨by rfl, ?_⟩) ?_ ?_
          rotate_left
          · intro w'
            go_simp
            with_reducible rfl
          rotate_left
          · simp only [Act.put, List.setIfInBounds_toArray, List.set_cons_zero, List.set_cons_succ, i64_w, i32_w]
            rfl
          refine done_ (done_of HT_.out (by kernel_rfl)) ?_
          have hnb28 := NB156_157.out
          have hnc28 := NB157_156.out
          have hcz29_0 : w27.cell? ⟨gb156, 0, none⟩ = some (.int .i64 a0_0) := (blk_cell BK156.out 0).trans rfl
          have hcz29_1 : w27.cell? ⟨gb156, 1, none⟩ = some (.bool a0_1) := (blk_cell BK156.out 1).trans rfl
          have hcz29_2 : w27.cell? ⟨gb156, 2, none⟩ = some (.bool a0_2) := (blk_cell BK156.out 2).trans rfl
          have hcz29_3 : w27.cell? ⟨gb156, 3, none⟩ = some (.bool a0_3) := (blk_cell BK156.out 3).trans rfl
          have hcz29_4 : w27.cell? ⟨gb156, 4, none⟩ = some (.bool a0_4) := (blk_cell BK156.out 4).trans rfl
          have hcz29_5 : w27.cell? ⟨gb156, 5, none⟩ = some (.bool a0_5) := (blk_cell BK156.out 5).trans rfl
          have hcz29_6 : w27.cell? ⟨gb156, 6, none⟩ = some (.bool a0_6) := (blk_cell BK156.out 6).trans rfl
          have hcz29_7 : w27.cell? ⟨gb156, 7, none⟩ = some (.bool a0_7) := (blk_cell BK156.out 7).trans rfl
          have hcz29_8 : w27.cell? ⟨gb156, 8, none⟩ = some (.int .i64 a0_8) := (blk_cell BK156.out 8).trans rfl
          have hcz29_9 : w27.cell? ⟨gb156, 9, none⟩ = some (.int .i64 a0_9) := (blk_cell BK156.out 9).trans rfl
          have hcz29_10 : w27.cell? ⟨gb156, 10, none⟩ = some (.int .i64 a0_10) := (blk_cell BK156.out 10).trans rfl
          have hcz29_11 : w27.cell? ⟨gb156, 11, none⟩ = some (.int .i64 a0_11) := (blk_cell BK156.out 11).trans rfl
          have hcz29_12 : w27.cell? ⟨gb156, 12, none⟩ = some (.int .i64 a0_12) := (blk_cell BK156.out 12).trans rfl
          have hcz29_13 : w27.cell? ⟨gb156, 13, none⟩ = some (.int .i64 a0_13) := (blk_cell BK156.out 13).trans rfl
          have hcz29_14 : w27.cell? ⟨gb156, 14, none⟩ = some (.int .i64 x157014_19) := (blk_cell BK156.out 14).trans rfl
          have hcz29_15 : w27.cell? ⟨gb156, 15, none⟩ = some (.int .i64 a0_15) := (blk_cell BK156.out 15).trans rfl
          have hcz29_16 : w27.cell? ⟨gb156, 16, none⟩ = some (.int .i64 a0_16) := (blk_cell BK156.out 16).trans rfl
          have hcz29_17 : w27.cell? ⟨gb156, 17, none⟩ = some (.int .i64 x157017_19) := (blk_cell BK156.out 17).trans rfl
          have hcz29_18 : w27.cell? ⟨gb156, 18, none⟩ = some (.int .i64 x157018_19) := (blk_cell BK156.out 18).trans rfl
          have hcz29_19 : w27.cell? ⟨gb156, 19, none⟩ = some (.int .i64 x157019_19) := (blk_cell BK156.out 19).trans rfl
          have hcz29_20 : w27.cell? ⟨gb156, 20, none⟩ = some (.string a0_20) := (blk_cell BK156.out 20).trans rfl
          have hfz29_0 := blk_frozen BK156.out 0
          have hfz29_1 := blk_frozen BK156.out 1
          have hfz29_2 := blk_frozen BK156.out 2
          have hfz29_3 := blk_frozen BK156.out 3
          have hfz29_4 := blk_frozen BK156.out 4
          have hfz29_5 := blk_frozen BK156.out 5
          have hfz29_6 := blk_frozen BK156.out 6
          have hfz29_7 := blk_frozen BK156.out 7
          have hfz29_8 := blk_frozen BK156.out 8
          have hfz29_9 := blk_frozen BK156.out 9
          have hfz29_10 := blk_frozen BK156.out 10
          have hfz29_11 := blk_frozen BK156.out 11
          have hfz29_12 := blk_frozen BK156.out 12
          have hfz29_13 := blk_frozen BK156.out 13
          have hfz29_14 := blk_frozen BK156.out 14
          have hfz29_15 := blk_frozen BK156.out 15
          have hfz29_16 := blk_frozen BK156.out 16
          have hfz29_17 := blk_frozen BK156.out 17
          have hfz29_18 := blk_frozen BK156.out 18
          have hfz29_19 := blk_frozen BK156.out 19
          have hfz29_20 := blk_frozen BK156.out 20
          try go_wp2_with (first | ((with_reducible refine gate_dst (N := 8) rfl ?_); refine box_event ?hg (N := 8) ?hd (cs := #[.bool false, .bool false, .bool false, .bool false, .bool false, .bool false, .bool false, .int .i64 0, .int .i64 0, .int .i64 0, .int .i64 0, .int .i64 0, .int .i64 0]) (t := 23) ?hr ?_; (case hd => rfl); (case hg => rfl); (case hr => first | (go_simp; done) | (go_simp; rfl)); intro gb158 hg w30 hbox hb; have n0_ := Aside0.mk (blk_below (g := gb156) (o := .cells #[.int .i64 a0_0, .bool a0_1, .bool a0_2, .bool a0_3, .bool a0_4, .bool a0_5, .bool a0_6, .bool a0_7, .int .i64 a0_8, .int .i64 a0_9, .int .i64 a0_10, .int .i64 a0_11, .int .i64 a0_12, .int .i64 a0_13, .int .i64 x157014_19, .int .i64 a0_15, .int .i64 a0_16, .int .i64 x157017_19, .int .i64 x157018_19, .int .i64 x157019_19, .string a0_20] 25 (0, 0)) (by (with_reducible repeat (first | refine blk_drewN ?_ _ | refine blk_drew ?_ | refine blk_alloc ?_ _)); exact BK156.out) hb); have n1_ := Aside0.mk (blk_below (g := gb157) (o := .cells #[.int .i64 a1_0, .int .i64 a1_1] 32 (0, 0)) (by (with_reducible repeat (first | refine blk_drewN ?_ _ | refine blk_drew ?_ | refine blk_alloc ?_ _)); exact BK157.out) hb); have n2_ := Aside0.mk (below_step (by repeat (first | (with_reducible first | exact HB.out | apply below_alloc | apply pw_below_drewN | apply below_drew1 | refine below_set ?_ GE156.out | refine below_set ?_ GE157.out) | exact HB.out)) hb); have n3_ := Aside0.mk (hbox); have n4_ := Aside0.mk ((by rw [hg]; exact (below_size (by repeat (first | (with_reducible first | exact HB.out | apply below_alloc | apply pw_below_drewN | apply below_drew1 | refine below_set ?_ GE156.out | refine below_set ?_ GE157.out) | exact HB.out))) : w.heap.size ≤ gb158)); have n5_ := Aside0.mk ((by rw [hg]; exact (below_size (by repeat (first | (with_reducible first | exact HB.out | apply below_alloc | apply pw_below_drewN | apply below_drew1 | refine below_set ?_ GE156.out | refine below_set ?_ GE157.out) | exact HB.out))) : w.heap.size ≤ gb158)); have n6_ := Aside0.mk ((by rw [hg]; exact Nat.ne_of_lt (blk_lt (g := gb156) (o := .cells #[.int .i64 a0_0, .bool a0_1, .bool a0_2, .bool a0_3, .bool a0_4, .bool a0_5, .bool a0_6, .bool a0_7, .int .i64 a0_8, .int .i64 a0_9, .int .i64 a0_10, .int .i64 a0_11, .int .i64 a0_12, .int .i64 a0_13, .int .i64 x157014_19, .int .i64 a0_15, .int .i64 a0_16, .int .i64 x157017_19, .int .i64 x157018_19, .int .i64 x157019_19, .string a0_20] 25 (0, 0)) (by (with_reducible repeat (first | refine blk_drewN ?_ _ | refine blk_drew ?_ | refine blk_alloc ?_ _)); exact BK156.out)) : gb156 ≠ gb158)); have n7_ := Aside0.mk ((by rw [hg]; exact Nat.ne_of_gt (blk_lt (g := gb156) (o := .cells #[.int .i64 a0_0, .bool a0_1, .bool a0_2, .bool a0_3, .bool a0_4, .bool a0_5, .bool a0_6, .bool a0_7, .int .i64 a0_8, .int .i64 a0_9, .int .i64 a0_10, .int .i64 a0_11, .int .i64 a0_12, .int .i64 a0_13, .int .i64 x157014_19, .int .i64 a0_15, .int .i64 a0_16, .int .i64 x157017_19, .int .i64 x157018_19, .int .i64 x157019_19, .string a0_20] 25 (0, 0)) (by (with_reducible repeat (first | refine blk_drewN ?_ _ | refine blk_drew ?_ | refine blk_alloc ?_ _)); exact BK156.out)) : gb158 ≠ gb156)); have n8_ := Aside0.mk ((by rw [hg]; exact Nat.ne_of_lt (blk_lt (g := gb157) (o := .cells #[.int .i64 a1_0, .int .i64 a1_1] 32 (0, 0)) (by (with_reducible repeat (first | refine blk_drewN ?_ _ | refine blk_drew ?_ | refine blk_alloc ?_ _)); exact BK157.out)) : gb157 ≠ gb158)); have n9_ := Aside0.mk ((by rw [hg]; exact Nat.ne_of_gt (blk_lt (g := gb157) (o := .cells #[.int .i64 a1_0, .int .i64 a1_1] 32 (0, 0)) (by (with_reducible repeat (first | refine blk_drewN ?_ _ | refine blk_drew ?_ | refine blk_alloc ?_ _)); exact BK157.out)) : gb158 ≠ gb157)); clear BK156; clear BK157; clear HB; have BK156 := n0_; have BK157 := n1_; have HB := n2_; have BK158 := n3_; have GW158 := n4_; have GE158 := n5_; have NB156_158 := n6_; have NB158_156 := n7_; have NB157_158 := n8_; have NB158_157 := n9_; clear n0_ n1_ n2_ n3_ n4_ n5_ n6_ n7_ n8_ n9_; clear hb hbox hg; have hnb31 := NB158_156.out; have hnc31 := NB156_158.out; have hnb32 := NB158_157.out; have hnc32 := NB157_158.out; have hcz33_0 : w30.cell? ⟨gb158, 0, none⟩ = some (.bool false) := (blk_cell BK158.out 0).trans rfl; have hcz33_1 : w30.cell? ⟨gb158, 1, none⟩ = some (.bool false) := (blk_cell BK158.out 1).trans rfl; have hcz33_2 : w30.cell? ⟨gb158, 2, none⟩ = some (.bool false) := (blk_cell BK158.out 2).trans rfl; have hcz33_3 : w30.cell? ⟨gb158, 3, none⟩ = some (.bool false) := (blk_cell BK158.out 3).trans rfl; have hcz33_4 : w30.cell? ⟨gb158, 4, none⟩ = some (.bool false) := (blk_cell BK158.out 4).trans rfl; have hcz33_5 : w30.cell? ⟨gb158, 5, none⟩ = some (.bool false) := (blk_cell BK158.out 5).trans rfl; have hcz33_6 : w30.cell? ⟨gb158, 6, none⟩ = some (.bool false) := (blk_cell BK158.out 6).trans rfl; have hcz33_7 : w30.cell? ⟨gb158, 7, none⟩ = some (.int .i64 0) := (blk_cell BK158.out 7).trans rfl; have hcz33_8 : w30.cell? ⟨gb158, 8, none⟩ = some (.int .i64 0) := (blk_cell BK158.out 8).trans rfl; have hcz33_9 : w30.cell? ⟨gb158, 9, none⟩ = some (.int .i64 0) := (blk_cell BK158.out 9).trans rfl; have hcz33_10 : w30.cell? ⟨gb158, 10, none⟩ = some (.int .i64 0) := (blk_cell BK158.out 10).trans rfl; have hcz33_11 : w30.cell? ⟨gb158, 11, none⟩ = some (.int .i64 0) := (blk_cell BK158.out 11).trans rfl; have hcz33_12 : w30.cell? ⟨gb158, 12, none⟩ = some (.int .i64 0) := (blk_cell BK158.out 12).trans rfl; have hfz33_0 := blk_frozen BK158.out 0; have hfz33_1 := blk_frozen BK158.out 1; have hfz33_2 := blk_frozen BK158.out 2; have hfz33_3 := blk_frozen BK158.out 3; have hfz33_4 := blk_frozen BK158.out 4; have hfz33_5 := blk_frozen BK158.out 5; have hfz33_6 := blk_frozen BK158.out 6; have hfz33_7 := blk_frozen BK158.out 7; have hfz33_8 := blk_frozen BK158.out 8; have hfz33_9 := blk_frozen BK158.out 9; have hfz33_10 := blk_frozen BK158.out 10; have hfz33_11 := blk_frozen BK158.out 11; have hfz33_12 := blk_frozen BK158.out 12))
          have n0_ : Aside0 ((((((((((((((w30.setCell ⟨gb158, 0, none⟩ (.bool false)).setCell ⟨gb158, 1, none⟩ (.bool false)).setCell ⟨gb158, 2, none⟩ (.bool false)).setCell ⟨gb158, 3, none⟩ (.bool false)).setCell ⟨gb158, 4, none⟩ (.bool false)).setCell ⟨gb158, 5, none⟩ (.bool false)).setCell ⟨gb158, 6, none⟩ (.bool false)).setCell ⟨gb158, 7, none⟩ (.int .i64 (-1))).setCell ⟨gb158, 8, none⟩ (.int .i64 0)).setCell ⟨gb158, 9, none⟩ (.int .i64 0)).setCell ⟨gb158, 10, none⟩ (.int .i64 0)).setCell ⟨gb158, 11, none⟩ (.int .i64 (-1))).setCell ⟨gb158, 12, none⟩ (.int .i64 (-1))).heap[gb156]? = some (.cells #[.int .i64 a0_0, .bool a0_1, .bool a0_2, .bool a0_3, .bool a0_4, .bool a0_5, .bool a0_6, .bool a0_7, .int .i64 a0_8, .int .i64 a0_9, .int .i64 a0_10, .int .i64 a0_11, .int .i64 a0_12, .int .i64 a0_13, .int .i64 x157014_19, .int .i64 a0_15, .int .i64 a0_16, .int .i64 x157017_19, .int .i64 x157018_19, .int .i64 x157019_19, .string a0_20] 25 (0, 0))) := ⟨by (with_reducible repeat (first | refine blk_drewN ?_ _ | refine blk_drew ?_ | refine blk_alloc ?_ _)); refine blk_far ?_ NB156_158.out _; (with_reducible repeat (first | refine blk_drewN ?_ _ | refine blk_drew ?_ | refine blk_alloc ?_ _)); refine blk_far ?_ NB156_158.out _; (with_reducible repeat (first | refine blk_drewN ?_ _ | refine blk_drew ?_ | refine blk_alloc ?_ _)); refine blk_far ?_ NB156_158.out _; (with_reducible repeat (first | refine blk_drewN ?_ _ | refine blk_drew ?_ | refine blk_alloc ?_ _)); refine blk_far ?_ NB156_158.out _; (with_reducible repeat (first | refine blk_drewN ?_ _ | refine blk_drew ?_ | refine blk_alloc ?_ _)); refine blk_far ?_ NB156_158.out _; (with_reducible repeat (first | refine blk_drewN ?_ _ | refine blk_drew ?_ | refine blk_alloc ?_ _)); refine blk_far ?_ NB156_158.out _; (with_reducible repeat (first | refine blk_drewN ?_ _ | refine blk_drew ?_ | refine blk_alloc ?_ _)); refine blk_far ?_ NB156_158.out _; (with_reducible repeat (first | refine blk_drewN ?_ _ | refine blk_drew ?_ | refine blk_alloc ?_ _)); refine blk_far ?_ NB156_158.out _; (with_reducible repeat (first | refine blk_drewN ?_ _ | refine blk_drew ?_ | refine blk_alloc ?_ _)); refine blk_far ?_ NB156_158.out _; (with_reducible repeat (first | refine blk_drewN ?_ _ | refine blk_drew ?_ | refine blk_alloc ?_ _)); refine blk_far ?_ NB156_158.out _; (with_reducible repeat (first | refine blk_drewN ?_ _ | refine blk_drew ?_ | refine blk_alloc ?_ _)); refine blk_far ?_ NB156_158.out _; (with_reducible repeat (first | refine blk_drewN ?_ _ | refine blk_drew ?_ | refine blk_alloc ?_ _)); refine blk_far ?_ NB156_158.out _; (with_reducible repeat (first | refine blk_drewN ?_ _ | refine blk_drew ?_ | refine blk_alloc ?_ _)); refine blk_far ?_ NB156_158.out _; (with_reducible repeat (first | refine blk_drewN ?_ _ | refine blk_drew ?_ | refine blk_alloc ?_ _)); exact BK156.out⟩
          have n1_ : Aside0 ((((((((((((((w30.setCell ⟨gb158, 0, none⟩ (.bool false)).setCell ⟨gb158, 1, none⟩ (.bool false)).setCell ⟨gb158, 2, none⟩ (.bool false)).setCell ⟨gb158, 3, none⟩ (.bool false)).setCell ⟨gb158, 4, none⟩ (.bool false)).setCell ⟨gb158, 5, none⟩ (.bool false)).setCell ⟨gb158, 6, none⟩ (.bool false)).setCell ⟨gb158, 7, none⟩ (.int .i64 (-1))).setCell ⟨gb158, 8, none⟩ (.int .i64 0)).setCell ⟨gb158, 9, none⟩ (.int .i64 0)).setCell ⟨gb158, 10, none⟩ (.int .i64 0)).setCell ⟨gb158, 11, none⟩ (.int .i64 (-1))).setCell ⟨gb158, 12, none⟩ (.int .i64 (-1))).heap[gb157]? = some (.cells #[.int .i64 a1_0, .int .i64 a1_1] 32 (0, 0))) := ⟨by (with_reducible repeat (first | refine blk_drewN ?_ _ | refine blk_drew ?_ | refine blk_alloc ?_ _)); refine blk_far ?_ NB157_158.out _; (with_reducible repeat (first | refine blk_drewN ?_ _ | refine blk_drew ?_ | refine blk_alloc ?_ _)); refine blk_far ?_ NB157_158.out _; (with_reducible repeat (first | refine blk_drewN ?_ _ | refine blk_drew ?_ | refine blk_alloc ?_ _)); refine blk_far ?_ NB157_158.out _; (with_reducible repeat (first | refine blk_drewN ?_ _ | refine blk_drew ?_ | refine blk_alloc ?_ _)); refine blk_far ?_ NB157_158.out _; (with_reducible repeat (first | refine blk_drewN ?_ _ | refine blk_drew ?_ | refine blk_alloc ?_ _)); refine blk_far ?_ NB157_158.out _; (with_reducible repeat (first | refine blk_drewN ?_ _ | refine blk_drew ?_ | refine blk_alloc ?_ _)); refine blk_far ?_ NB157_158.out _; (with_reducible repeat (first | refine blk_drewN ?_ _ | refine blk_drew ?_ | refine blk_alloc ?_ _)); refine blk_far ?_ NB157_158.out _; (with_reducible repeat (first | refine blk_drewN ?_ _ | refine blk_drew ?_ | refine blk_alloc ?_ _)); refine blk_far ?_ NB157_158.out _; (with_reducible repeat (first | refine blk_drewN ?_ _ | refine blk_drew ?_ | refine blk_alloc ?_ _)); refine blk_far ?_ NB157_158.out _; (with_reducible repeat (first | refine blk_drewN ?_ _ | refine blk_drew ?_ | refine blk_alloc ?_ _)); refine blk_far ?_ NB157_158.out _; (with_reducible repeat (first | refine blk_drewN ?_ _ | refine blk_drew ?_ | refine blk_alloc ?_ _)); refine blk_far ?_ NB157_158.out _; (with_reducible repeat (first | refine blk_drewN ?_ _ | refine blk_drew ?_ | refine blk_alloc ?_ _)); refine blk_far ?_ NB157_158.out _; (with_reducible repeat (first | refine blk_drewN ?_ _ | refine blk_drew ?_ | refine blk_alloc ?_ _)); refine blk_far ?_ NB157_158.out _; (with_reducible repeat (first | refine blk_drewN ?_ _ | refine blk_drew ?_ | refine blk_alloc ?_ _)); exact BK157.out⟩
          have n2_ : Aside0 ((((((((((((((w30.setCell ⟨gb158, 0, none⟩ (.bool false)).setCell ⟨gb158, 1, none⟩ (.bool false)).setCell ⟨gb158, 2, none⟩ (.bool false)).setCell ⟨gb158, 3, none⟩ (.bool false)).setCell ⟨gb158, 4, none⟩ (.bool false)).setCell ⟨gb158, 5, none⟩ (.bool false)).setCell ⟨gb158, 6, none⟩ (.bool false)).setCell ⟨gb158, 7, none⟩ (.int .i64 (-1))).setCell ⟨gb158, 8, none⟩ (.int .i64 0)).setCell ⟨gb158, 9, none⟩ (.int .i64 0)).setCell ⟨gb158, 10, none⟩ (.int .i64 0)).setCell ⟨gb158, 11, none⟩ (.int .i64 (-1))).setCell ⟨gb158, 12, none⟩ (.int .i64 (-1))).heap[gb158]? = some (.cells #[.bool false, .bool false, .bool false, .bool false, .bool false, .bool false, .bool false, .int .i64 (-1), .int .i64 0, .int .i64 0, .int .i64 0, .int .i64 (-1), .int .i64 (-1)] 23 (0, 0))) := ⟨by (with_reducible repeat (first | refine blk_drewN ?_ _ | refine blk_drew ?_ | refine blk_alloc ?_ _)); refine blk_put (cs := #[.bool false, .bool false, .bool false, .bool false, .bool false, .bool false, .bool false, .int .i64 (-1), .int .i64 0, .int .i64 0, .int .i64 0, .int .i64 (-1), .int .i64 0]) ?_ 12 _ rfl; (with_reducible repeat (first | refine blk_drewN ?_ _ | refine blk_drew ?_ | refine blk_alloc ?_ _)); refine blk_put (cs := #[.bool false, .bool false, .bool false, .bool false, .bool false, .bool false, .bool false, .int .i64 (-1), .int .i64 0, .int .i64 0, .int .i64 0, .int .i64 0, .int .i64 0]) ?_ 11 _ rfl; (with_reducible repeat (first | refine blk_drewN ?_ _ | refine blk_drew ?_ | refine blk_alloc ?_ _)); refine blk_put (cs := #[.bool false, .bool false, .bool false, .bool false, .bool false, .bool false, .bool false, .int .i64 (-1), .int .i64 0, .int .i64 0, .int .i64 0, .int .i64 0, .int .i64 0]) ?_ 10 _ rfl; (with_reducible repeat (first | refine blk_drewN ?_ _ | refine blk_drew ?_ | refine blk_alloc ?_ _)); refine blk_put (cs := #[.bool false, .bool false, .bool false, .bool false, .bool false, .bool false, .bool false, .int .i64 (-1), .int .i64 0, .int .i64 0, .int .i64 0, .int .i64 0, .int .i64 0]) ?_ 9 _ rfl; (with_reducible repeat (first | refine blk_drewN ?_ _ | refine blk_drew ?_ | refine blk_alloc ?_ _)); refine blk_put (cs := #[.bool false, .bool false, .bool false, .bool false, .bool false, .bool false, .bool false, .int .i64 (-1), .int .i64 0, .int .i64 0, .int .i64 0, .int .i64 0, .int .i64 0]) ?_ 8 _ rfl; (with_reducible repeat (first | refine blk_drewN ?_ _ | refine blk_drew ?_ | refine blk_alloc ?_ _)); refine blk_put (cs := #[.bool false, .bool false, .bool false, .bool false, .bool false, .bool false, .bool false, .int .i64 0, .int .i64 0, .int .i64 0, .int .i64 0, .int .i64 0, .int .i64 0]) ?_ 7 _ rfl; (with_reducible repeat (first | refine blk_drewN ?_ _ | refine blk_drew ?_ | refine blk_alloc ?_ _)); refine blk_put (cs := #[.bool false, .bool false, .bool false, .bool false, .bool false, .bool false, .bool false, .int .i64 0, .int .i64 0, .int .i64 0, .int .i64 0, .int .i64 0, .int .i64 0]) ?_ 6 _ rfl; (with_reducible repeat (first | refine blk_drewN ?_ _ | refine blk_drew ?_ | refine blk_alloc ?_ _)); refine blk_put (cs := #[.bool false, .bool false, .bool false, .bool false, .bool false, .bool false, .bool false, .int .i64 0, .int .i64 0, .int .i64 0, .int .i64 0, .int .i64 0, .int .i64 0]) ?_ 5 _ rfl; (with_reducible repeat (first | refine blk_drewN ?_ _ | refine blk_drew ?_ | refine blk_alloc ?_ _)); refine blk_put (cs := #[.bool false, .bool false, .bool false, .bool false, .bool false, .bool false, .bool false, .int .i64 0, .int .i64 0, .int .i64 0, .int .i64 0, .int .i64 0, .int .i64 0]) ?_ 4 _ rfl; (with_reducible repeat (first | refine blk_drewN ?_ _ | refine blk_drew ?_ | refine blk_alloc ?_ _)); refine blk_put (cs := #[.bool false, .bool false, .bool false, .bool false, .bool false, .bool false, .bool false, .int .i64 0, .int .i64 0, .int .i64 0, .int .i64 0, .int .i64 0, .int .i64 0]) ?_ 3 _ rfl; (with_reducible repeat (first | refine blk_drewN ?_ _ | refine blk_drew ?_ | refine blk_alloc ?_ _)); refine blk_put (cs := #[.bool false, .bool false, .bool false, .bool false, .bool false, .bool false, .bool false, .int .i64 0, .int .i64 0, .int .i64 0, .int .i64 0, .int .i64 0, .int .i64 0]) ?_ 2 _ rfl; (with_reducible repeat (first | refine blk_drewN ?_ _ | refine blk_drew ?_ | refine blk_alloc ?_ _)); refine blk_put (cs := #[.bool false, .bool false, .bool false, .bool false, .bool false, .bool false, .bool false, .int .i64 0, .int .i64 0, .int .i64 0, .int .i64 0, .int .i64 0, .int .i64 0]) ?_ 1 _ rfl; (with_reducible repeat (first | refine blk_drewN ?_ _ | refine blk_drew ?_ | refine blk_alloc ?_ _)); refine blk_put (cs := #[.bool false, .bool false, .bool false, .bool false, .bool false, .bool false, .bool false, .int .i64 0, .int .i64 0, .int .i64 0, .int .i64 0, .int .i64 0, .int .i64 0]) ?_ 0 _ rfl; (with_reducible repeat (first | refine blk_drewN ?_ _ | refine blk_drew ?_ | refine blk_alloc ?_ _)); exact BK158.out⟩
          have n3_ : Aside0 (Below w.heap.size w (((((((((((((w30.setCell ⟨gb158, 0, none⟩ (.bool false)).setCell ⟨gb158, 1, none⟩ (.bool false)).setCell ⟨gb158, 2, none⟩ (.bool false)).setCell ⟨gb158, 3, none⟩ (.bool false)).setCell ⟨gb158, 4, none⟩ (.bool false)).setCell ⟨gb158, 5, none⟩ (.bool false)).setCell ⟨gb158, 6, none⟩ (.bool false)).setCell ⟨gb158, 7, none⟩ (.int .i64 (-1))).setCell ⟨gb158, 8, none⟩ (.int .i64 0)).setCell ⟨gb158, 9, none⟩ (.int .i64 0)).setCell ⟨gb158, 10, none⟩ (.int .i64 0)).setCell ⟨gb158, 11, none⟩ (.int .i64 (-1))).setCell ⟨gb158, 12, none⟩ (.int .i64 (-1)))) := ⟨by repeat (first | (with_reducible first | exact HB.out | apply below_alloc | apply pw_below_drewN | apply below_drew1 | refine below_set ?_ GE156.out | refine below_set ?_ GE157.out | refine below_set ?_ GE158.out) | exact HB.out)⟩
          (try clear BK156)
          (try clear BK157)
          (try clear BK158)
          (try clear HB)
          generalize (((((((((((((w30.setCell ⟨gb158, 0, none⟩ (.bool false)).setCell ⟨gb158, 1, none⟩ (.bool false)).setCell ⟨gb158, 2, none⟩ (.bool false)).setCell ⟨gb158, 3, none⟩ (.bool false)).setCell ⟨gb158, 4, none⟩ (.bool false)).setCell ⟨gb158, 5, none⟩ (.bool false)).setCell ⟨gb158, 6, none⟩ (.bool false)).setCell ⟨gb158, 7, none⟩ (.int .i64 (-1))).setCell ⟨gb158, 8, none⟩ (.int .i64 0)).setCell ⟨gb158, 9, none⟩ (.int .i64 0)).setCell ⟨gb158, 10, none⟩ (.int .i64 0)).setCell ⟨gb158, 11, none⟩ (.int .i64 (-1))).setCell ⟨gb158, 12, none⟩ (.int .i64 (-1))) = w34 at n0_ n1_ n2_ n3_ ⊢
          have BK156 := n0_
          have BK157 := n1_
          have BK158 := n2_
          have HB := n3_
          clear n0_ n1_ n2_ n3_
          have n0_ := Aside0.mk (blk_drew BK156.out)
          have n1_ := Aside0.mk (blk_drew BK157.out)
          have n2_ := Aside0.mk (blk_drew BK158.out)
          have n3_ := Aside0.mk (below_drew1 HB.out)
          clear BK156
          clear BK157
          clear BK158
          clear HB
          have BK156 := n0_
          have BK157 := n1_
          have BK158 := n2_
          have HB := n3_
          clear n0_ n1_ n2_ n3_
          refine start_ (n := 10) (S := fun w' => w'.cell? ⟨gb156, 0, none⟩ = some (.int .i64 a0_0) ∧ w'.cell? ⟨gb156, 1, none⟩ = some (.bool a0_1) ∧ w'.cell? ⟨gb156, 2, none⟩ = some (.bool a0_2) ∧ w'.cell? ⟨gb156, 3, none⟩ = some (.bool a0_3) ∧ w'.cell? ⟨gb156, 4, none⟩ = some (.bool a0_4) ∧ w'.cell? ⟨gb156, 5, none⟩ = some (.bool a0_5) ∧ w'.cell? ⟨gb156, 6, none⟩ = some (.bool a0_6) ∧ w'.cell? ⟨gb156, 7, none⟩ = some (.bool a0_7) ∧ w'.cell? ⟨gb156, 8, none⟩ = some (.int .i64 a0_8) ∧ w'.cell? ⟨gb156, 9, none⟩ = some (.int .i64 a0_9) ∧ w'.cell? ⟨gb156, 10, none⟩ = some (.int .i64 a0_10) ∧ w'.cell? ⟨gb156, 11, none⟩ = some (.int .i64 a0_11) ∧ w'.cell? ⟨gb156, 12, none⟩ = some (.int .i64 a0_12) ∧ w'.cell? ⟨gb156, 13, none⟩ = some (.int .i64 a0_13) ∧ w'.cell? ⟨gb156, 14, none⟩ = some (.int .i64 x157014_19) ∧ w'.cell? ⟨gb156, 15, none⟩ = some (.int .i64 a0_15) ∧ w'.cell? ⟨gb156, 16, none⟩ = some (.int .i64 a0_16) ∧ w'.cell? ⟨gb156, 17, none⟩ = some (.int .i64 x157017_19) ∧ w'.cell? ⟨gb156, 18, none⟩ = some (.int .i64 x157018_19) ∧ w'.cell? ⟨gb156, 19, none⟩ = some (.int .i64 x157019_19) ∧ w'.cell? ⟨gb156, 20, none⟩ = some (.string a0_20)) (ds := []) #[false, false, false, false, false, false, false, false, false, false] (by kernel_rfl) rfl rfl ⟨(blk_cell BK156.out 0).trans rfl, (blk_cell BK156.out 1).trans rfl, (blk_cell BK156.out 2).trans rfl, (blk_cell BK156.out 3).trans rfl, (blk_cell BK156.out 4).trans rfl, (blk_cell BK156.out 5).trans rfl, (blk_cell BK156.out 6).trans rfl, (blk_cell BK156.out 7).trans rfl, (blk_cell BK156.out 8).trans rfl, (blk_cell BK156.out 9).trans rfl, (blk_cell BK156.out 10).trans rfl, (blk_cell BK156.out 11).trans rfl, (blk_cell BK156.out 12).trans rfl, (blk_cell BK156.out 13).trans rfl, (blk_cell BK156.out 14).trans rfl, (blk_cell BK156.out 15).trans rfl, (blk_cell BK156.out 16).trans rfl, (blk_cell BK156.out 17).trans rfl, (blk_cell BK156.out 18).trans rfl, (blk_cell BK156.out 19).trans rfl, (blk_cell BK156.out 20).trans rfl⟩ (fun hHeld => ?_); refine with_tabW gatepostlaw09_FreshGrows.tab6 gatepostlaw09_FreshGrows.bits6 (fun HT_ HW_ => ?_)
          generalize w34.drew = w35 at BK156 BK157 BK158 HB hHeld ⊢
          refine pure_ (i := 1) (N := some 64) (v := ?_) (a' := ?_) #[false, true, false, false, false, false, false, false, false, false] rfl rfl (any_of HT_.out (by kernel_rfl)) (fun _ _ _ h => h) (Or.inl ⟨by rfl, ?_⟩) ?_ ?_
          rotate_left
          · intro w'
            go_simp
            with_reducible rfl
          rotate_left
          · simp only [Act.put, List.setIfInBounds_toArray, List.set_cons_zero, List.set_cons_succ, i64_w, i32_w]
            rfl
          refine pure_ (i := 4) (N := some 67) (v := ?_) (a' := ?_) #[false, true, false, false, true, false, false, false, false, false] rfl rfl (any_of HT_.out (by kernel_rfl)) (fun _ _ _ h => h) (Or.inl ⟨by rfl, ?_⟩) ?_ ?_
          rotate_left
          · intro w'
            go_simp
            with_reducible rfl
          rotate_left
          · simp only [Act.put, List.setIfInBounds_toArray, List.set_cons_zero, List.set_cons_succ, i64_w, i32_w]
            rfl
          refine pure_ (i := 5) (N := some 68) (v := ?_) (a' := ?_) #[false, true, false, false, true, true, false, false, false, false] rfl rfl (any_of HT_.out (by kernel_rfl)) (fun _ _ _ h => h) (Or.inl ⟨by rfl, ?_⟩) ?_ ?_
          rotate_left
          · intro w'
            go_simp
            with_reducible rfl
          rotate_left
          · simp only [Act.put, List.setIfInBounds_toArray, List.set_cons_zero, List.set_cons_succ, i64_w, i32_w]
            rfl
          refine pure_ (i := 6) (N := some 69) (v := ?_) (a' := ?_) #[false, true, false, false, true, true, true, false, false, false] rfl rfl (any_of HT_.out (by kernel_rfl)) (fun _ _ _ h => h) (Or.inl ⟨by rfl, ?_⟩) ?_ ?_
          rotate_left
          · intro w'
            go_simp
            with_reducible rfl
          rotate_left
          · simp only [Act.put, List.setIfInBounds_toArray, List.set_cons_zero, List.set_cons_succ, i64_w, i32_w]
            rfl
          refine take_ (i := 0) (N := some 63) (v := ?_) (a' := ?_) #[true, true, false, false, true, true, true, false, false, false] rfl rfl (take_ofW HT_.out HW_.out (by kernel_rfl)) (fun _ _ _ h => h) (Or.inl ⟨by rfl, ?_⟩) hHeld ?_ ?_
          rotate_left
          · rintro w' ⟨s0, s1, s2, s3, s4, s5, s6, s7, s8, s9, s10, s11, s12, s13, s14, s15, s16, s17, s18, s19, s20⟩
            first
              | (refine (load_whole (by rfl) gb156 0 (by rfl) [.int .i64 a0_0, .bool a0_1, .bool a0_2, .bool a0_3, .bool a0_4, .bool a0_5, .bool a0_6, .bool a0_7, .int .i64 a0_8, .int .i64 a0_9, .int .i64 a0_10, .int .i64 a0_11, .int .i64 a0_12, .int .i64 a0_13, .int .i64 x157014_19, .int .i64 a0_15, .int .i64 a0_16, .int .i64 x157017_19, .int .i64 x157018_19, .int .i64 x157019_19, .string a0_20] Try.underlying25 rfl (by kernel_rfl) ⟨s0, s1, s2, s3, s4, s5, s6, s7, s8, s9, s10, s11, s12, s13, s14, s15, s16, s17, s18, s19, s20, trivial⟩).trans ?_; with_reducible rfl)
              | (go_simp; with_reducible rfl)
          rotate_left
          · simp only [Act.put, List.setIfInBounds_toArray, List.set_cons_zero, List.set_cons_succ, i64_w, i32_w]
            rfl
          refine take_ (i := 3) (N := some 66) (v := ?_) (a' := ?_) #[true, true, false, true, true, true, true, false, false, false] rfl rfl (take_ofW HT_.out HW_.out (by kernel_rfl)) (fun _ _ _ h => h) (Or.inl ⟨by rfl, ?_⟩) hHeld ?_ ?_
          rotate_left
          · rintro w' ⟨s0, s1, s2, s3, s4, s5, s6, s7, s8, s9, s10, s11, s12, s13, s14, s15, s16, s17, s18, s19, s20⟩
            first
              | (refine (load_whole (by rfl) gb156 0 (by rfl) [.int .i64 a0_0, .bool a0_1, .bool a0_2, .bool a0_3, .bool a0_4, .bool a0_5, .bool a0_6, .bool a0_7, .int .i64 a0_8, .int .i64 a0_9, .int .i64 a0_10, .int .i64 a0_11, .int .i64 a0_12, .int .i64 a0_13, .int .i64 x157014_19, .int .i64 a0_15, .int .i64 a0_16, .int .i64 x157017_19, .int .i64 x157018_19, .int .i64 x157019_19, .string a0_20] Try.underlying25 rfl (by kernel_rfl) ⟨s0, s1, s2, s3, s4, s5, s6, s7, s8, s9, s10, s11, s12, s13, s14, s15, s16, s17, s18, s19, s20, trivial⟩).trans ?_; with_reducible rfl)
              | (go_simp; with_reducible rfl)
          rotate_left
          · simp only [Act.put, List.setIfInBounds_toArray, List.set_cons_zero, List.set_cons_succ, i64_w, i32_w]
            rfl
          refine one_ (i := 2) (N := some 65) #[true, true, true, true, true, true, true, false, false, false] rfl rfl (one_of HT_.out (by kernel_rfl)) (by decide) (fun K hK => ?_)
          refine goes_ Try.func8 (by kernel_rfl) rfl #[.agg #[.int .i64 a0_0, .bool a0_1, .bool a0_2, .bool a0_3, .bool a0_4, .bool a0_5, .bool a0_6, .bool a0_7, .int .i64 a0_8, .int .i64 a0_9, .int .i64 a0_10, .int .i64 a0_11, .int .i64 a0_12, .int .i64 a0_13, .int .i64 x157014_19, .int .i64 a0_15, .int .i64 a0_16, .int .i64 x157017_19, .int .i64 x157018_19, .int .i64 x157019_19, .string a0_20], .int .i64 (wrap64 (x157019_19 + (Go.bits .and .i64 a1_0 1048575)))] (by rfl) rfl rfl (by (try simp only [List.map_toArray, List.map_cons, List.map_nil]); first | done | rfl | (simp only [List.length_drop, List.length_take]; rfl)) ?_
          with_reducible refine (fresh_Age.calls a0_0 a0_1 a0_2 a0_3 a0_4 a0_5 a0_6 a0_7 a0_8 a0_9 a0_10 a0_11 a0_12 a0_13 x157014_19 a0_15 a0_16 x157017_19 x157018_19 x157019_19 a0_20 (wrap64 (x157019_19 + (Go.bits .and .i64 a1_0 1048575))) t159 _ A24.out).mono ?_
          rintro e w36 ⟨rfl, hb⟩
          refine ⟨_, rfl, ?_⟩
          have n0_ := Aside0.mk (blk_below (g := gb156) (o := .cells #[.int .i64 a0_0, .bool a0_1, .bool a0_2, .bool a0_3, .bool a0_4, .bool a0_5, .bool a0_6, .bool a0_7, .int .i64 a0_8, .int .i64 a0_9, .int .i64 a0_10, .int .i64 a0_11, .int .i64 a0_12, .int .i64 a0_13, .int .i64 x157014_19, .int .i64 a0_15, .int .i64 a0_16, .int .i64 x157017_19, .int .i64 x157018_19, .int .i64 x157019_19, .string a0_20] 25 (0, 0)) (by (with_reducible repeat (first | refine blk_drewN ?_ _ | refine blk_drew ?_ | refine blk_alloc ?_ _)); exact BK156.out) hb)
          have n1_ := Aside0.mk (blk_below (g := gb157) (o := .cells #[.int .i64 a1_0, .int .i64 a1_1] 32 (0, 0)) (by (with_reducible repeat (first | refine blk_drewN ?_ _ | refine blk_drew ?_ | refine blk_alloc ?_ _)); exact BK157.out) hb)
          have n2_ := Aside0.mk (blk_below (g := gb158) (o := .cells #[.bool false, .bool false, .bool false, .bool false, .bool false, .bool false, .bool false, .int .i64 (-1), .int .i64 0, .int .i64 0, .int .i64 0, .int .i64 (-1), .int .i64 (-1)] 23 (0, 0)) (by (with_reducible repeat (first | refine blk_drewN ?_ _ | refine blk_drew ?_ | refine blk_alloc ?_ _)); exact BK158.out) hb)
          have n3_ := Aside0.mk (below_step (by repeat (first | (with_reducible first | exact HB.out | apply below_alloc | apply pw_below_drewN | apply below_drew1 | refine below_set ?_ GE156.out | refine below_set ?_ GE157.out | refine below_set ?_ GE158.out) | exact HB.out)) hb)
          clear BK156
          clear BK157
          clear BK158
          clear HB
          have BK156 := n0_
          have BK157 := n1_
          have BK158 := n2_
          have HB := n3_
          clear n0_ n1_ n2_ n3_
          (try clear hb)
          (try clear hb2)
          (try clear hk)
          (try clear hi)
          refine hK.out _ _ ⟨(blk_cell BK156.out 0).trans rfl, (blk_cell BK156.out 1).trans rfl, (blk_cell BK156.out 2).trans rfl, (blk_cell BK156.out 3).trans rfl, (blk_cell BK156.out 4).trans rfl, (blk_cell BK156.out 5).trans rfl, (blk_cell BK156.out 6).trans rfl, (blk_cell BK156.out 7).trans rfl, (blk_cell BK156.out 8).trans rfl, (blk_cell BK156.out 9).trans rfl, (blk_cell BK156.out 10).trans rfl, (blk_cell BK156.out 11).trans rfl, (blk_cell BK156.out 12).trans rfl, (blk_cell BK156.out 13).trans rfl, (blk_cell BK156.out 14).trans rfl, (blk_cell BK156.out 15).trans rfl, (blk_cell BK156.out 16).trans rfl, (blk_cell BK156.out 17).trans rfl, (blk_cell BK156.out 18).trans rfl, (blk_cell BK156.out 19).trans rfl, (blk_cell BK156.out 20).trans rfl⟩ (fun hHeld => ?_)
          clear hK K
          refine norm_ (a' := ?_) ?_ ?_
          rotate_left
          · show Act.put _ (some 65) _ = _
            simp only [Act.put, List.setIfInBounds_toArray, List.set_cons_zero, List.set_cons_succ, i64_w, i32_w]
            rfl
          refine one_ (i := 7) (N := some 70) #[true, true, true, true, true, true, true, true, false, false] rfl rfl (one_of HT_.out (by kernel_rfl)) (by decide) (fun K hK => ?_)
          refine goes_ Try.func8 (by kernel_rfl) rfl #[.agg #[.int .i64 a0_0, .bool a0_1, .bool a0_2, .bool a0_3, .bool a0_4, .bool a0_5, .bool a0_6, .bool a0_7, .int .i64 a0_8, .int .i64 a0_9, .int .i64 a0_10, .int .i64 a0_11, .int .i64 a0_12, .int .i64 a0_13, .int .i64 x157014_19, .int .i64 a0_15, .int .i64 a0_16, .int .i64 x157017_19, .int .i64 x157018_19, .int .i64 x157019_19, .string a0_20], .int .i64 (wrap64 ((wrap64 (x157019_19 + (Go.bits .and .i64 a1_0 1048575))) + (Go.bits .and .i64 a1_1 1048575)))] (by rfl) rfl rfl (by (try simp only [List.map_toArray, List.map_cons, List.map_nil]); first | done | rfl | (simp only [List.length_drop, List.length_take]; rfl)) ?_
          with_reducible refine (fresh_Age.calls a0_0 a0_1 a0_2 a0_3 a0_4 a0_5 a0_6 a0_7 a0_8 a0_9 a0_10 a0_11 a0_12 a0_13 x157014_19 a0_15 a0_16 x157017_19 x157018_19 x157019_19 a0_20 (wrap64 ((wrap64 (x157019_19 + (Go.bits .and .i64 a1_0 1048575))) + (Go.bits .and .i64 a1_1 1048575))) t160 _ A25.out).mono ?_
          rintro e w37 ⟨rfl, hb⟩
          refine ⟨_, rfl, ?_⟩
          have n0_ := Aside0.mk (blk_below (g := gb156) (o := .cells #[.int .i64 a0_0, .bool a0_1, .bool a0_2, .bool a0_3, .bool a0_4, .bool a0_5, .bool a0_6, .bool a0_7, .int .i64 a0_8, .int .i64 a0_9, .int .i64 a0_10, .int .i64 a0_11, .int .i64 a0_12, .int .i64 a0_13, .int .i64 x157014_19, .int .i64 a0_15, .int .i64 a0_16, .int .i64 x157017_19, .int .i64 x157018_19, .int .i64 x157019_19, .string a0_20] 25 (0, 0)) (by (with_reducible repeat (first | refine blk_drewN ?_ _ | refine blk_drew ?_ | refine blk_alloc ?_ _)); exact BK156.out) hb)
          have n1_ := Aside0.mk (blk_below (g := gb157) (o := .cells #[.int .i64 a1_0, .int .i64 a1_1] 32 (0, 0)) (by (with_reducible repeat (first | refine blk_drewN ?_ _ | refine blk_drew ?_ | refine blk_alloc ?_ _)); exact BK157.out) hb)
          have n2_ := Aside0.mk (blk_below (g := gb158) (o := .cells #[.bool false, .bool false, .bool false, .bool false, .bool false, .bool false, .bool false, .int .i64 (-1), .int .i64 0, .int .i64 0, .int .i64 0, .int .i64 (-1), .int .i64 (-1)] 23 (0, 0)) (by (with_reducible repeat (first | refine blk_drewN ?_ _ | refine blk_drew ?_ | refine blk_alloc ?_ _)); exact BK158.out) hb)
          have n3_ := Aside0.mk (below_step (by repeat (first | (with_reducible first | exact HB.out | apply below_alloc | apply pw_below_drewN | apply below_drew1 | refine below_set ?_ GE156.out | refine below_set ?_ GE157.out | refine below_set ?_ GE158.out) | exact HB.out)) hb)
          clear BK156
          clear BK157
          clear BK158
          clear HB
          have BK156 := n0_
          have BK157 := n1_
          have BK158 := n2_
          have HB := n3_
          clear n0_ n1_ n2_ n3_
          (try clear hb)
          (try clear hb2)
          (try clear hk)
          (try clear hi)
          refine hK.out _ _ ⟨(blk_cell BK156.out 0).trans rfl, (blk_cell BK156.out 1).trans rfl, (blk_cell BK156.out 2).trans rfl, (blk_cell BK156.out 3).trans rfl, (blk_cell BK156.out 4).trans rfl, (blk_cell BK156.out 5).trans rfl, (blk_cell BK156.out 6).trans rfl, (blk_cell BK156.out 7).trans rfl, (blk_cell BK156.out 8).trans rfl, (blk_cell BK156.out 9).trans rfl, (blk_cell BK156.out 10).trans rfl, (blk_cell BK156.out 11).trans rfl, (blk_cell BK156.out 12).trans rfl, (blk_cell BK156.out 13).trans rfl, (blk_cell BK156.out 14).trans rfl, (blk_cell BK156.out 15).trans rfl, (blk_cell BK156.out 16).trans rfl, (blk_cell BK156.out 17).trans rfl, (blk_cell BK156.out 18).trans rfl, (blk_cell BK156.out 19).trans rfl, (blk_cell BK156.out 20).trans rfl⟩ (fun hHeld => ?_)
          clear hK K
          refine norm_ (a' := ?_) ?_ ?_
          rotate_left
          · show Act.put _ (some 70) _ = _
            simp only [Act.put, List.setIfInBounds_toArray, List.set_cons_zero, List.set_cons_succ, i64_w, i32_w]
            rfl
          refine pure_ (i := 8) (N := some 9) (v := ?_) (a' := ?_) #[true, true, true, true, true, true, true, true, true, false] rfl rfl (any_of HT_.out (by kernel_rfl)) (fun _ _ _ h => h) (Or.inl ⟨by rfl, ?_⟩) ?_ ?_
          rotate_left
          · intro w'
            go_simp
            with_reducible rfl
          rotate_left
          · simp only [Act.put, List.setIfInBounds_toArray, List.set_cons_zero, List.set_cons_succ, i64_w, i32_w]
            rfl
          refine pure_ (i := 9) (N := some 10) (v := ?_) (a' := ?_) #[true, true, true, true, true, true, true, true, true, true] rfl rfl (any_of HT_.out (by kernel_rfl)) (fun _ _ _ h => h) (Or.inl ⟨by rfl, ?_⟩) ?_ ?_
          rotate_left
          · intro w'
            go_simp
            with_reducible rfl
          rotate_left
          · simp only [Act.put, List.setIfInBounds_toArray, List.set_cons_zero, List.set_cons_succ, i64_w, i32_w]
            rfl
          refine done_ (done_of HT_.out (by kernel_rfl)) ?_
          go_upto_region 7 with (first | ((first | (with_reducible refine gate_dst (N := 63) rfl ?_) | (with_reducible refine gate_dst (N := 66) rfl ?_) | (with_reducible refine gate_dst (N := 80) rfl ?_) | (with_reducible refine gate_dst (N := 84) rfl ?_)); refine wpList_load_mid rfl 25 (.tmp 2) rfl _ _ (by rfl) [_, _, _, _, _, _, _, _, _, _, _, _, _, _, _, _, _, _, _, _, _] _ (cellsAt_range _ (by (repeat (refine ⟨by assumption, ?_⟩)); exact trivial)) Try.underlying25 rfl (by kernel_rfl) ?_) | ((first | (with_reducible refine gate_dst (N := 81) rfl ?_) | (with_reducible refine gate_dst (N := 85) rfl ?_)); refine wpList_load_mid rfl 23 (.tmp 8) rfl _ _ (by rfl) [_, _, _, _, _, _, _, _, _, _, _, _, _] _ (cellsAt_range _ (by (repeat (refine ⟨by assumption, ?_⟩)); exact trivial)) Try.underlying23 rfl (by kernel_rfl) ?_) | ((with_reducible refine gate_dst (N := 100) rfl ?_); refine wpList_load_midG rfl 25 (.tmp 2) rfl _ _ (by rfl) [_, _, _, _, _, _, _, _, _, _, _, _, _, _, _, _, _, _, _, _, _] _ (cellsAt_range _ (by (repeat (refine ⟨by assumption, ?_⟩)); exact trivial)) Try.underlying25 rfl (by kernel_rfl) ?_))
          go_cut [79] (fun v79 wc => ∃ (kq : Nat) (x79_25 : Bool), v79 = .bool x79_25 ∧ Aside0 (gatepostlaw09_FreshGrows.j2 kq (Go.bits .and .i64 a1_1 1048575) (wrap64 (x157019_19 + (Go.bits .and .i64 a1_0 1048575))) t159 x79_25 a0_0 a0_1 a0_2 a0_3 a0_4 a0_5 a0_6 a0_7 a0_8 a0_9 a0_10 a0_11 a0_12 a0_13 x157014_19 a0_15 a0_16 x157017_19 x157018_19 x157019_19 a0_20 false false false false false false false (-1) 0 0 0 (-1) (-1) = some r) ∧ Aside0 (kq ≤ kj19) ∧ Aside0 (wc.heap[gb156]? = some (.cells #[.int .i64 a0_0, .bool a0_1, .bool a0_2, .bool a0_3, .bool a0_4, .bool a0_5, .bool a0_6, .bool a0_7, .int .i64 a0_8, .int .i64 a0_9, .int .i64 a0_10, .int .i64 a0_11, .int .i64 a0_12, .int .i64 a0_13, .int .i64 x157014_19, .int .i64 a0_15, .int .i64 a0_16, .int .i64 x157017_19, .int .i64 x157018_19, .int .i64 x157019_19, .string a0_20] 25 (0, 0))) ∧ Aside0 (wc.heap[gb157]? = some (.cells #[.int .i64 a1_0, .int .i64 a1_1] 32 (0, 0))) ∧ Aside0 (wc.heap[gb158]? = some (.cells #[.bool false, .bool false, .bool false, .bool false, .bool false, .bool false, .bool false, .int .i64 (-1), .int .i64 0, .int .i64 0, .int .i64 0, .int .i64 (-1), .int .i64 (-1)] 23 (0, 0))) ∧ Aside0 (Below w.heap.size w wc))
          case first =>
            have H := HC26.out
            clear HC26
            by_cases c38 : t160 = (wrap64 (t159 + (Go.bits .and .i64 a1_1 1048575)))
            · rw [if_pos c38] at H
              have c38b0 : (t160 == (wrap64 (t159 + (Go.bits .and .i64 a1_1 1048575)))) = true := beq_iff_eq.mpr c38
              have c38b1 : (t160 != (wrap64 (t159 + (Go.bits .and .i64 a1_1 1048575)))) = false := bne_eq_false_iff_eq.mpr c38
              clear c38
              (first | rw [c38b0] | (simp only [i64_w, i32_w]; rw [c38b0]) | skip)
              replace H := Option.bind_eq_some_iff.mp H
              obtain ⟨t161, A390, H⟩ := H
              replace H : (gatepostlaw09_FreshGrows.j2 kj19 (Go.bits .and .i64 a1_1 1048575) (wrap64 (x157019_19 + (Go.bits .and .i64 a1_0 1048575))) t159 (!t161) a0_0 a0_1 a0_2 a0_3 a0_4 a0_5 a0_6 a0_7 a0_8 a0_9 a0_10 a0_11 a0_12 a0_13 x157014_19 a0_15 a0_16 x157017_19 x157018_19 x157019_19 a0_20 false false false false false false false (-1) 0 0 0 (-1) (-1)) = some r := H
              have A39 := Aside0.mk A390
              clear A390
              have H' := Aside0.mk H
              clear H
              go_wp2_with (first | (go_at_call 9; (with_reducible refine (fresh_Heuristic.calls 200 t161 _ A39.out).mono ?_); rintro e w40 ⟨rfl, hb⟩; have n0_ := Aside0.mk (blk_below (g := gb156) (o := .cells #[.int .i64 a0_0, .bool a0_1, .bool a0_2, .bool a0_3, .bool a0_4, .bool a0_5, .bool a0_6, .bool a0_7, .int .i64 a0_8, .int .i64 a0_9, .int .i64 a0_10, .int .i64 a0_11, .int .i64 a0_12, .int .i64 a0_13, .int .i64 x157014_19, .int .i64 a0_15, .int .i64 a0_16, .int .i64 x157017_19, .int .i64 x157018_19, .int .i64 x157019_19, .string a0_20] 25 (0, 0)) (by (with_reducible repeat (first | refine blk_drewN ?_ _ | refine blk_drew ?_ | refine blk_alloc ?_ _)); exact BK156.out) hb); have n1_ := Aside0.mk (blk_below (g := gb157) (o := .cells #[.int .i64 a1_0, .int .i64 a1_1] 32 (0, 0)) (by (with_reducible repeat (first | refine blk_drewN ?_ _ | refine blk_drew ?_ | refine blk_alloc ?_ _)); exact BK157.out) hb); have n2_ := Aside0.mk (blk_below (g := gb158) (o := .cells #[.bool false, .bool false, .bool false, .bool false, .bool false, .bool false, .bool false, .int .i64 (-1), .int .i64 0, .int .i64 0, .int .i64 0, .int .i64 (-1), .int .i64 (-1)] 23 (0, 0)) (by (with_reducible repeat (first | refine blk_drewN ?_ _ | refine blk_drew ?_ | refine blk_alloc ?_ _)); exact BK158.out) hb); have n3_ := Aside0.mk (below_step (by repeat (first | (with_reducible first | exact HB.out | apply below_alloc | apply pw_below_drewN | apply below_drew1 | refine below_set ?_ GE156.out | refine below_set ?_ GE157.out | refine below_set ?_ GE158.out) | exact HB.out)) hb); clear BK156; clear BK157; clear BK158; clear HB; have BK156 := n0_; have BK157 := n1_; have BK158 := n2_; have HB := n3_; clear n0_ n1_ n2_ n3_; (try clear hb); (try clear hb2); (try clear hk); (try clear hi)) | ((first | (with_reducible refine gate_dst (N := 63) rfl ?_) | (with_reducible refine gate_dst (N := 66) rfl ?_) | (with_reducible refine gate_dst (N := 80) rfl ?_) | (with_reducible refine gate_dst (N := 84) rfl ?_)); refine wpList_load_mid rfl 25 (.tmp 2) rfl _ _ (by rfl) [_, _, _, _, _, _, _, _, _, _, _, _, _, _, _, _, _, _, _, _, _] _ (cellsAt_range _ (by (repeat (refine ⟨by assumption, ?_⟩)); exact trivial)) Try.underlying25 rfl (by kernel_rfl) ?_) | ((first | (with_reducible refine gate_dst (N := 81) rfl ?_) | (with_reducible refine gate_dst (N := 85) rfl ?_)); refine wpList_load_mid rfl 23 (.tmp 8) rfl _ _ (by rfl) [_, _, _, _, _, _, _, _, _, _, _, _, _] _ (cellsAt_range _ (by (repeat (refine ⟨by assumption, ?_⟩)); exact trivial)) Try.underlying23 rfl (by kernel_rfl) ?_) | ((with_reducible refine gate_dst (N := 100) rfl ?_); refine wpList_load_midG rfl 25 (.tmp 2) rfl _ _ (by rfl) [_, _, _, _, _, _, _, _, _, _, _, _, _, _, _, _, _, _, _, _, _] _ (cellsAt_range _ (by (repeat (refine ⟨by assumption, ?_⟩)); exact trivial)) Try.underlying25 rfl (by kernel_rfl) ?_))
              go_meet
              case rel => exact ⟨_, (!t161), (by first | rfl | (simp; done) | exact ret_ne _ | (simp [*]; done)), H', ⟨by have := HJ2.out; have := HJ19.out; first | omega | exact Nat.le_refl _⟩, ⟨by (with_reducible repeat (first | refine blk_drewN ?_ _ | refine blk_drew ?_ | refine blk_alloc ?_ _)); exact BK156.out⟩, ⟨by (with_reducible repeat (first | refine blk_drewN ?_ _ | refine blk_drew ?_ | refine blk_alloc ?_ _)); exact BK157.out⟩, ⟨by (with_reducible repeat (first | refine blk_drewN ?_ _ | refine blk_drew ?_ | refine blk_alloc ?_ _)); exact BK158.out⟩, ⟨by repeat (first | (with_reducible first | exact HB.out | apply below_alloc | apply pw_below_drewN | apply below_drew1 | refine below_set ?_ GE156.out | refine below_set ?_ GE157.out | refine below_set ?_ GE158.out) | exact HB.out)⟩⟩
            · rw [if_neg c38] at H
              have c38b0 : (t160 == (wrap64 (t159 + (Go.bits .and .i64 a1_1 1048575)))) = false := beq_eq_false_iff_ne.mpr c38
              have c38b1 : (t160 != (wrap64 (t159 + (Go.bits .and .i64 a1_1 1048575)))) = true := bne_iff_ne.mpr c38
              (first | rw [c38b0] | (simp only [i64_w, i32_w]; rw [c38b0]) | skip)
              have H' := Aside0.mk H
              clear H
              go_wp2_with (first | ((first | (with_reducible refine gate_dst (N := 63) rfl ?_) | (with_reducible refine gate_dst (N := 66) rfl ?_) | (with_reducible refine gate_dst (N := 80) rfl ?_) | (with_reducible refine gate_dst (N := 84) rfl ?_)); refine wpList_load_mid rfl 25 (.tmp 2) rfl _ _ (by rfl) [_, _, _, _, _, _, _, _, _, _, _, _, _, _, _, _, _, _, _, _, _] _ (cellsAt_range _ (by (repeat (refine ⟨by assumption, ?_⟩)); exact trivial)) Try.underlying25 rfl (by kernel_rfl) ?_) | ((first | (with_reducible refine gate_dst (N := 81) rfl ?_) | (with_reducible refine gate_dst (N := 85) rfl ?_)); refine wpList_load_mid rfl 23 (.tmp 8) rfl _ _ (by rfl) [_, _, _, _, _, _, _, _, _, _, _, _, _] _ (cellsAt_range _ (by (repeat (refine ⟨by assumption, ?_⟩)); exact trivial)) Try.underlying23 rfl (by kernel_rfl) ?_) | ((with_reducible refine gate_dst (N := 100) rfl ?_); refine wpList_load_midG rfl 25 (.tmp 2) rfl _ _ (by rfl) [_, _, _, _, _, _, _, _, _, _, _, _, _, _, _, _, _, _, _, _, _] _ (cellsAt_range _ (by (repeat (refine ⟨by assumption, ?_⟩)); exact trivial)) Try.underlying25 rfl (by kernel_rfl) ?_))
              go_meet
              case rel => exact ⟨_, (true), (by first | rfl | (simp; done) | exact ret_ne _ | (simp [*]; done)), H', ⟨by have := HJ2.out; have := HJ19.out; first | omega | exact Nat.le_refl _⟩, ⟨by (with_reducible repeat (first | refine blk_drewN ?_ _ | refine blk_drew ?_ | refine blk_alloc ?_ _)); exact BK156.out⟩, ⟨by (with_reducible repeat (first | refine blk_drewN ?_ _ | refine blk_drew ?_ | refine blk_alloc ?_ _)); exact BK157.out⟩, ⟨by (with_reducible repeat (first | refine blk_drewN ?_ _ | refine blk_drew ?_ | refine blk_alloc ?_ _)); exact BK158.out⟩, ⟨by repeat (first | (with_reducible first | exact HB.out | apply below_alloc | apply pw_below_drewN | apply below_drew1 | refine below_set ?_ GE156.out | refine below_set ?_ GE157.out | refine below_set ?_ GE158.out) | exact HB.out)⟩⟩
          case rest =>
            clear HC26
            try clear c1
            try clear c2
            try clear p2
            try clear c3
            try clear c5
            try clear c6
            try clear c6b0
            try clear p6
            try clear c7
            try clear c8
            try clear c9
            try clear c9b0
            try clear c10
            try clear c12
            try clear c12b0
            try clear c13
            try clear c15
            try clear c15b0
            try clear c16
            try clear c18
            try clear c21
            try clear c22
            try clear c28
            try clear c31
            try clear c32
            try clear c38
            try clear c38b0
            try clear c38b1
            try clear hcz11_0
            try clear hcz11_1
            try clear hcz11_10
            try clear hcz11_11
            try clear hcz11_12
            try clear hcz11_13
            try clear hcz11_14
            try clear hcz11_15
            try clear hcz11_16
            try clear hcz11_17
            try clear hcz11_18
            try clear hcz11_19
            try clear hcz11_2
            try clear hcz11_20
            try clear hcz11_3
            try clear hcz11_4
            try clear hcz11_5
            try clear hcz11_6
            try clear hcz11_7
            try clear hcz11_8
            try clear hcz11_9
            try clear hcz14_0
            try clear hcz14_1
            try clear hcz14_10
            try clear hcz14_11
            try clear hcz14_12
            try clear hcz14_13
            try clear hcz14_14
            try clear hcz14_15
            try clear hcz14_16
            try clear hcz14_17
            try clear hcz14_18
            try clear hcz14_19
            try clear hcz14_2
            try clear hcz14_20
            try clear hcz14_3
            try clear hcz14_4
            try clear hcz14_5
            try clear hcz14_6
            try clear hcz14_7
            try clear hcz14_8
            try clear hcz14_9
            try clear hcz17_0
            try clear hcz17_1
            try clear hcz17_10
            try clear hcz17_11
            try clear hcz17_12
            try clear hcz17_13
            try clear hcz17_14
            try clear hcz17_15
            try clear hcz17_16
            try clear hcz17_17
            try clear hcz17_18
            try clear hcz17_19
            try clear hcz17_2
            try clear hcz17_20
            try clear hcz17_3
            try clear hcz17_4
            try clear hcz17_5
            try clear hcz17_6
            try clear hcz17_7
            try clear hcz17_8
            try clear hcz17_9
            try clear hcz19_0
            try clear hcz19_1
            try clear hcz19_10
            try clear hcz19_11
            try clear hcz19_12
            try clear hcz19_13
            try clear hcz19_14
            try clear hcz19_15
            try clear hcz19_16
            try clear hcz19_17
            try clear hcz19_18
            try clear hcz19_19
            try clear hcz19_2
            try clear hcz19_20
            try clear hcz19_3
            try clear hcz19_4
            try clear hcz19_5
            try clear hcz19_6
            try clear hcz19_7
            try clear hcz19_8
            try clear hcz19_9
            try clear hcz23_0
            try clear hcz23_1
            try clear hcz23_10
            try clear hcz23_11
            try clear hcz23_12
            try clear hcz23_13
            try clear hcz23_14
            try clear hcz23_15
            try clear hcz23_16
            try clear hcz23_17
            try clear hcz23_18
            try clear hcz23_19
            try clear hcz23_2
            try clear hcz23_20
            try clear hcz23_3
            try clear hcz23_4
            try clear hcz23_5
            try clear hcz23_6
            try clear hcz23_7
            try clear hcz23_8
            try clear hcz23_9
            try clear hcz29_0
            try clear hcz29_1
            try clear hcz29_10
            try clear hcz29_11
            try clear hcz29_12
            try clear hcz29_13
            try clear hcz29_14
            try clear hcz29_15
            try clear hcz29_16
            try clear hcz29_17
            try clear hcz29_18
            try clear hcz29_19
            try clear hcz29_2
            try clear hcz29_20
            try clear hcz29_3
            try clear hcz29_4
            try clear hcz29_5
            try clear hcz29_6
            try clear hcz29_7
            try clear hcz29_8
            try clear hcz29_9
            try clear hcz33_0
            try clear hcz33_1
            try clear hcz33_10
            try clear hcz33_11
            try clear hcz33_12
            try clear hcz33_2
            try clear hcz33_3
            try clear hcz33_4
            try clear hcz33_5
            try clear hcz33_6
            try clear hcz33_7
            try clear hcz33_8
            try clear hcz33_9
            try clear hcz8_0
            try clear hcz8_1
            try clear hcz8_10
            try clear hcz8_11
            try clear hcz8_12
            try clear hcz8_13
            try clear hcz8_14
            try clear hcz8_15
            try clear hcz8_16
            try clear hcz8_17
            try clear hcz8_18
            try clear hcz8_19
            try clear hcz8_2
            try clear hcz8_20
            try clear hcz8_3
            try clear hcz8_4
            try clear hcz8_5
            try clear hcz8_6
            try clear hcz8_7
            try clear hcz8_8
            try clear hcz8_9
            try clear hfz11_0
            try clear hfz11_1
            try clear hfz11_10
            try clear hfz11_11
            try clear hfz11_12
            try clear hfz11_13
            try clear hfz11_14
            try clear hfz11_15
            try clear hfz11_16
            try clear hfz11_17
            try clear hfz11_18
            try clear hfz11_19
            try clear hfz11_2
            try clear hfz11_20
            try clear hfz11_3
            try clear hfz11_4
            try clear hfz11_5
            try clear hfz11_6
            try clear hfz11_7
            try clear hfz11_8
            try clear hfz11_9
            try clear hfz14_0
            try clear hfz14_1
            try clear hfz14_10
            try clear hfz14_11
            try clear hfz14_12
            try clear hfz14_13
            try clear hfz14_14
            try clear hfz14_15
            try clear hfz14_16
            try clear hfz14_17
            try clear hfz14_18
            try clear hfz14_19
            try clear hfz14_2
            try clear hfz14_20
            try clear hfz14_3
            try clear hfz14_4
            try clear hfz14_5
            try clear hfz14_6
            try clear hfz14_7
            try clear hfz14_8
            try clear hfz14_9
            try clear hfz17_0
            try clear hfz17_1
            try clear hfz17_10
            try clear hfz17_11
            try clear hfz17_12
            try clear hfz17_13
            try clear hfz17_14
            try clear hfz17_15
            try clear hfz17_16
            try clear hfz17_17
            try clear hfz17_18
            try clear hfz17_19
            try clear hfz17_2
            try clear hfz17_20
            try clear hfz17_3
            try clear hfz17_4
            try clear hfz17_5
            try clear hfz17_6
            try clear hfz17_7
            try clear hfz17_8
            try clear hfz17_9
            try clear hfz19_0
            try clear hfz19_1
            try clear hfz19_10
            try clear hfz19_11
            try clear hfz19_12
            try clear hfz19_13
            try clear hfz19_14
            try clear hfz19_15
            try clear hfz19_16
            try clear hfz19_17
            try clear hfz19_18
            try clear hfz19_19
            try clear hfz19_2
            try clear hfz19_20
            try clear hfz19_3
            try clear hfz19_4
            try clear hfz19_5
            try clear hfz19_6
            try clear hfz19_7
            try clear hfz19_8
            try clear hfz19_9
            try clear hfz23_0
            try clear hfz23_1
            try clear hfz23_10
            try clear hfz23_11
            try clear hfz23_12
            try clear hfz23_13
            try clear hfz23_14
            try clear hfz23_15
            try clear hfz23_16
            try clear hfz23_17
            try clear hfz23_18
            try clear hfz23_19
            try clear hfz23_2
            try clear hfz23_20
            try clear hfz23_3
            try clear hfz23_4
            try clear hfz23_5
            try clear hfz23_6
            try clear hfz23_7
            try clear hfz23_8
            try clear hfz23_9
            try clear hfz29_0
            try clear hfz29_1
            try clear hfz29_10
            try clear hfz29_11
            try clear hfz29_12
            try clear hfz29_13
            try clear hfz29_14
            try clear hfz29_15
            try clear hfz29_16
            try clear hfz29_17
            try clear hfz29_18
            try clear hfz29_19
            try clear hfz29_2
            try clear hfz29_20
            try clear hfz29_3
            try clear hfz29_4
            try clear hfz29_5
            try clear hfz29_6
            try clear hfz29_7
            try clear hfz29_8
            try clear hfz29_9
            try clear hfz33_0
            try clear hfz33_1
            try clear hfz33_10
            try clear hfz33_11
            try clear hfz33_12
            try clear hfz33_2
            try clear hfz33_3
            try clear hfz33_4
            try clear hfz33_5
            try clear hfz33_6
            try clear hfz33_7
            try clear hfz33_8
            try clear hfz33_9
            try clear hfz8_0
            try clear hfz8_1
            try clear hfz8_10
            try clear hfz8_11
            try clear hfz8_12
            try clear hfz8_13
            try clear hfz8_14
            try clear hfz8_15
            try clear hfz8_16
            try clear hfz8_17
            try clear hfz8_18
            try clear hfz8_19
            try clear hfz8_2
            try clear hfz8_20
            try clear hfz8_3
            try clear hfz8_4
            try clear hfz8_5
            try clear hfz8_6
            try clear hfz8_7
            try clear hfz8_8
            try clear hfz8_9
            try clear p2
            obtain ⟨kq, x79_25, rfl, HA, HJ25, BK156, BK157, BK158, HB⟩ := hcut
            cases kq with
            | zero => exact absurd HA.out (by simp [gatepostlaw09_FreshGrows.j2])
            | succ kj25 =>
              have H := HA.out
              clear HA
              simp only [gatepostlaw09_FreshGrows.j2] at H
              by_cases c41 : x79_25 = true
              · subst c41
                have H1 : (some false) = some r := by rw [if_pos rfl] at H; exact H
                clear H
                have H := H1
                clear H1
                obtain rfl := Option.some.inj H
                go_wp2_with (first | ((first | (with_reducible refine gate_dst (N := 63) rfl ?_) | (with_reducible refine gate_dst (N := 66) rfl ?_) | (with_reducible refine gate_dst (N := 80) rfl ?_) | (with_reducible refine gate_dst (N := 84) rfl ?_)); refine wpList_load_mid rfl 25 (.tmp 2) rfl _ _ (by rfl) [_, _, _, _, _, _, _, _, _, _, _, _, _, _, _, _, _, _, _, _, _] _ (cellsAt_range _ (by (repeat (refine ⟨by assumption, ?_⟩)); exact trivial)) Try.underlying25 rfl (by kernel_rfl) ?_) | ((first | (with_reducible refine gate_dst (N := 81) rfl ?_) | (with_reducible refine gate_dst (N := 85) rfl ?_)); refine wpList_load_mid rfl 23 (.tmp 8) rfl _ _ (by rfl) [_, _, _, _, _, _, _, _, _, _, _, _, _] _ (cellsAt_range _ (by (repeat (refine ⟨by assumption, ?_⟩)); exact trivial)) Try.underlying23 rfl (by kernel_rfl) ?_) | ((with_reducible refine gate_dst (N := 100) rfl ?_); refine wpList_load_midG rfl 25 (.tmp 2) rfl _ _ (by rfl) [_, _, _, _, _, _, _, _, _, _, _, _, _, _, _, _, _, _, _, _, _] _ (cellsAt_range _ (by (repeat (refine ⟨by assumption, ?_⟩)); exact trivial)) Try.underlying25 rfl (by kernel_rfl) ?_))
                go_ret
                exact ⟨by first | rfl | (simp [errW_none, errW_some] <;> rfl) | (simp [*, errW_none, errW_some] <;> rfl), by repeat (first | (with_reducible first | exact HB.out | apply below_alloc | apply pw_below_drewN | apply below_drew1 | refine below_set ?_ GE156.out | refine below_set ?_ GE157.out | refine below_set ?_ GE158.out) | exact HB.out)⟩
              · replace c41 := Bool.eq_false_iff.mpr c41
                subst c41
                have H1 : ((fresh_State.f kj25 a0_0 a0_1 a0_2 a0_3 a0_4 a0_5 a0_6 a0_7 a0_8 a0_9 a0_10 a0_11 a0_12 a0_13 x157014_19 a0_15 a0_16 x157017_19 x157018_19 x157019_19 a0_20 false false false false false false false (-1) 0 0 0 (-1) (-1) (wrap64 (x157019_19 + (Go.bits .and .i64 a1_0 1048575)))).bind fun t162 => ((fresh_State.f kj25 a0_0 a0_1 a0_2 a0_3 a0_4 a0_5 a0_6 a0_7 a0_8 a0_9 a0_10 a0_11 a0_12 a0_13 x157014_19 a0_15 a0_16 x157017_19 x157018_19 x157019_19 a0_20 false false false false false false false (-1) 0 0 0 (-1) (-1) (wrap64 ((wrap64 (x157019_19 + (Go.bits .and .i64 a1_0 1048575))) + (Go.bits .and .i64 a1_1 1048575)))).bind fun t163 => (if t163 < t162 then (some false) else (if a0_2 = true then (some true) else ((fresh_Lifetime.f kj25 a0_0 a0_1 a0_2 a0_3 a0_4 a0_5 a0_6 a0_7 a0_8 a0_9 a0_10 a0_11 a0_12 a0_13 x157014_19 a0_15 a0_16 x157017_19 x157018_19 x157019_19 a0_20).bind fun t164 => (some ((t162 == 0) == (decide (t159 < t164))))))))) = some r := by rw [if_neg (show ¬ (false = true) by decide)] at H; exact H
                clear H
                have H := H1
                clear H1
                replace H := Option.bind_eq_some_iff.mp H
                obtain ⟨t162, A420, H⟩ := H
                replace H : ((fresh_State.f kj25 a0_0 a0_1 a0_2 a0_3 a0_4 a0_5 a0_6 a0_7 a0_8 a0_9 a0_10 a0_11 a0_12 a0_13 x157014_19 a0_15 a0_16 x157017_19 x157018_19 x157019_19 a0_20 false false false false false false false (-1) 0 0 0 (-1) (-1) (wrap64 ((wrap64 (x157019_19 + (Go.bits .and .i64 a1_0 1048575))) + (Go.bits .and .i64 a1_1 1048575)))).bind fun t163 => (if t163 < t162 then (some false) else (if a0_2 = true then (some true) else ((fresh_Lifetime.f kj25 a0_0 a0_1 a0_2 a0_3 a0_4 a0_5 a0_6 a0_7 a0_8 a0_9 a0_10 a0_11 a0_12 a0_13 x157014_19 a0_15 a0_16 x157017_19 x157018_19 x157019_19 a0_20).bind fun t164 => (some ((t162 == 0) == (decide (t159 < t164)))))))) = some r := H
                have A42 := Aside0.mk A420
                clear A420
                replace H := Option.bind_eq_some_iff.mp H
                obtain ⟨t163, A430, H⟩ := H
                replace H : (if t163 < t162 then (some false) else (if a0_2 = true then (some true) else ((fresh_Lifetime.f kj25 a0_0 a0_1 a0_2 a0_3 a0_4 a0_5 a0_6 a0_7 a0_8 a0_9 a0_10 a0_11 a0_12 a0_13 x157014_19 a0_15 a0_16 x157017_19 x157018_19 x157019_19 a0_20).bind fun t164 => (some ((t162 == 0) == (decide (t159 < t164))))))) = some r := H
                have A43 := Aside0.mk A430
                clear A430
                by_cases c44 : t163 < t162
                · rw [if_pos c44] at H
                  have c44b0 : decide (t163 < t162) = true := decide_eq_true c44
                  clear c44
                  obtain rfl := Option.some.inj H
                  try go_wp2_with (first | ((first | (with_reducible refine gate_dst (N := 63) rfl ?_) | (with_reducible refine gate_dst (N := 66) rfl ?_) | (with_reducible refine gate_dst (N := 80) rfl ?_) | (with_reducible refine gate_dst (N := 84) rfl ?_)); refine wpList_load_mid rfl 25 (.tmp 2) rfl _ _ (by rfl) [_, _, _, _, _, _, _, _, _, _, _, _, _, _, _, _, _, _, _, _, _] _ (cellsAt_range _ (by (repeat (refine ⟨by assumption, ?_⟩)); exact trivial)) Try.underlying25 rfl (by kernel_rfl) ?_) | ((first | (with_reducible refine gate_dst (N := 81) rfl ?_) | (with_reducible refine gate_dst (N := 85) rfl ?_)); refine wpList_load_mid rfl 23 (.tmp 8) rfl _ _ (by rfl) [_, _, _, _, _, _, _, _, _, _, _, _, _] _ (cellsAt_range _ (by (repeat (refine ⟨by assumption, ?_⟩)); exact trivial)) Try.underlying23 rfl (by kernel_rfl) ?_) | ((with_reducible refine gate_dst (N := 100) rfl ?_); refine wpList_load_midG rfl 25 (.tmp 2) rfl _ _ (by rfl) [_, _, _, _, _, _, _, _, _, _, _, _, _, _, _, _, _, _, _, _, _] _ (cellsAt_range _ (by (repeat (refine ⟨by assumption, ?_⟩)); exact trivial)) Try.underlying25 rfl (by kernel_rfl) ?_))
                  have n0_ := Aside0.mk (blk_drew BK156.out)
                  have n1_ := Aside0.mk (blk_drew BK157.out)
                  have n2_ := Aside0.mk (blk_drew BK158.out)
                  have n3_ := Aside0.mk (below_drew1 HB.out)
                  clear BK156
                  clear BK157
                  clear BK158
                  clear HB
                  have BK156 := n0_
                  have BK157 := n1_
                  have BK158 := n2_
                  have HB := n3_
                  clear n0_ n1_ n2_ n3_
                  refine start_ (n := 12) (S := fun w' => w'.cell? ⟨gb156, 0, none⟩ = some (.int .i64 a0_0) ∧ w'.cell? ⟨gb156, 1, none⟩ = some (.bool a0_1) ∧ w'.cell? ⟨gb156, 2, none⟩ = some (.bool a0_2) ∧ w'.cell? ⟨gb156, 3, none⟩ = some (.bool a0_3) ∧ w'.cell? ⟨gb156, 4, none⟩ = some (.bool a0_4) ∧ w'.cell? ⟨gb156, 5, none⟩ = some (.bool a0_5) ∧ w'.cell? ⟨gb156, 6, none⟩ = some (.bool a0_6) ∧ w'.cell? ⟨gb156, 7, none⟩ = some (.bool a0_7) ∧ w'.cell? ⟨gb156, 8, none⟩ = some (.int .i64 a0_8) ∧ w'.cell? ⟨gb156, 9, none⟩ = some (.int .i64 a0_9) ∧ w'.cell? ⟨gb156, 10, none⟩ = some (.int .i64 a0_10) ∧ w'.cell? ⟨gb156, 11, none⟩ = some (.int .i64 a0_11) ∧ w'.cell? ⟨gb156, 12, none⟩ = some (.int .i64 a0_12) ∧ w'.cell? ⟨gb156, 13, none⟩ = some (.int .i64 a0_13) ∧ w'.cell? ⟨gb156, 14, none⟩ = some (.int .i64 x157014_19) ∧ w'.cell? ⟨gb156, 15, none⟩ = some (.int .i64 a0_15) ∧ w'.cell? ⟨gb156, 16, none⟩ = some (.int .i64 a0_16) ∧ w'.cell? ⟨gb156, 17, none⟩ = some (.int .i64 x157017_19) ∧ w'.cell? ⟨gb156, 18, none⟩ = some (.int .i64 x157018_19) ∧ w'.cell? ⟨gb156, 19, none⟩ = some (.int .i64 x157019_19) ∧ w'.cell? ⟨gb156, 20, none⟩ = some (.string a0_20) ∧ w'.cell? ⟨gb158, 0, none⟩ = some (.bool false) ∧ w'.cell? ⟨gb158, 1, none⟩ = some (.bool false) ∧ w'.cell? ⟨gb158, 2, none⟩ = some (.bool false) ∧ w'.cell? ⟨gb158, 3, none⟩ = some (.bool false) ∧ w'.cell? ⟨gb158, 4, none⟩ = some (.bool false) ∧ w'.cell? ⟨gb158, 5, none⟩ = some (.bool false) ∧ w'.cell? ⟨gb158, 6, none⟩ = some (.bool false) ∧ w'.cell? ⟨gb158, 7, none⟩ = some (.int .i64 (-1)) ∧ w'.cell? ⟨gb158, 8, none⟩ = some (.int .i64 0) ∧ w'.cell? ⟨gb158, 9, none⟩ = some (.int .i64 0) ∧ w'.cell? ⟨gb158, 10, none⟩ = some (.int .i64 0) ∧ w'.cell? ⟨gb158, 11, none⟩ = some (.int .i64 (-1)) ∧ w'.cell? ⟨gb158, 12, none⟩ = some (.int .i64 (-1))) (ds := []) #[false, false, false, false, false, false, false, false, false, false, false, false] (by kernel_rfl) rfl rfl ⟨(blk_cell BK156.out 0).trans rfl, (blk_cell BK156.out 1).trans rfl, (blk_cell BK156.out 2).trans rfl, (blk_cell BK156.out 3).trans rfl, (blk_cell BK156.out 4).trans rfl, (blk_cell BK156.out 5).trans rfl, (blk_cell BK156.out 6).trans rfl, (blk_cell BK156.out 7).trans rfl, (blk_cell BK156.out 8).trans rfl, (blk_cell BK156.out 9).trans rfl, (blk_cell BK156.out 10).trans rfl, (blk_cell BK156.out 11).trans rfl, (blk_cell BK156.out 12).trans rfl, (blk_cell BK156.out 13).trans rfl, (blk_cell BK156.out 14).trans rfl, (blk_cell BK156.out 15).trans rfl, (blk_cell BK156.out 16).trans rfl, (blk_cell BK156.out 17).trans rfl, (blk_cell BK156.out 18).trans rfl, (blk_cell BK156.out 19).trans rfl, (blk_cell BK156.out 20).trans rfl, (blk_cell BK158.out 0).trans rfl, (blk_cell BK158.out 1).trans rfl, (blk_cell BK158.out 2).trans rfl, (blk_cell BK158.out 3).trans rfl, (blk_cell BK158.out 4).trans rfl, (blk_cell BK158.out 5).trans rfl, (blk_cell BK158.out 6).trans rfl, (blk_cell BK158.out 7).trans rfl, (blk_cell BK158.out 8).trans rfl, (blk_cell BK158.out 9).trans rfl, (blk_cell BK158.out 10).trans rfl, (blk_cell BK158.out 11).trans rfl, (blk_cell BK158.out 12).trans rfl⟩ (fun hHeld => ?_); refine with_tabW gatepostlaw09_FreshGrows.tab9 gatepostlaw09_FreshGrows.bits9 (fun HT_ HW_ => ?_)
                  generalize wc.drew = w45 at BK156 BK157 BK158 HB hHeld ⊢
                  refine pure_ (i := 2) (N := some 82) (v := ?_) (a' := ?_) #[false, false, true, false, false, false, false, false, false, false, false, false] rfl rfl (any_of HT_.out (by kernel_rfl)) (fun _ _ _ h => h) (Or.inl ⟨by rfl, ?_⟩) ?_ ?_
                  rotate_left
                  · intro w'
                    go_simp
                    with_reducible rfl
                  rotate_left
                  · simp only [Act.put, List.setIfInBounds_toArray, List.set_cons_zero, List.set_cons_succ, i64_w, i32_w]
                    rfl
                  refine pure_ (i := 6) (N := some 86) (v := ?_) (a' := ?_) #[false, false, true, false, false, false, true, false, false, false, false, false] rfl rfl (any_of HT_.out (by kernel_rfl)) (fun _ _ _ h => h) (Or.inl ⟨by rfl, ?_⟩) ?_ ?_
                  rotate_left
                  · intro w'
                    go_simp
                    with_reducible rfl
                  rotate_left
                  · simp only [Act.put, List.setIfInBounds_toArray, List.set_cons_zero, List.set_cons_succ, i64_w, i32_w]
                    rfl
                  refine pure_ (i := 7) (N := some 87) (v := ?_) (a' := ?_) #[false, false, true, false, false, false, true, true, false, false, false, false] rfl rfl (any_of HT_.out (by kernel_rfl)) (fun _ _ _ h => h) (Or.inl ⟨by rfl, ?_⟩) ?_ ?_
                  rotate_left
                  · intro w'
                    go_simp
                    with_reducible rfl
                  rotate_left
                  · simp only [Act.put, List.setIfInBounds_toArray, List.set_cons_zero, List.set_cons_succ, i64_w, i32_w]
                    rfl
                  refine pure_ (i := 8) (N := some 88) (v := ?_) (a' := ?_) #[false, false, true, false, false, false, true, true, true, false, false, false] rfl rfl (any_of HT_.out (by kernel_rfl)) (fun _ _ _ h => h) (Or.inl ⟨by rfl, ?_⟩) ?_ ?_
                  rotate_left
                  · intro w'
                    go_simp
                    with_reducible rfl
                  rotate_left
                  · simp only [Act.put, List.setIfInBounds_toArray, List.set_cons_zero, List.set_cons_succ, i64_w, i32_w]
                    rfl
                  refine take_ (i := 0) (N := some 80) (v := ?_) (a' := ?_) #[true, false, true, false, false, false, true, true, true, false, false, false] rfl rfl (take_ofW HT_.out HW_.out (by kernel_rfl)) (fun _ _ _ h => h) (Or.inl ⟨by rfl, ?_⟩) hHeld ?_ ?_
                  rotate_left
                  · rintro w' ⟨s0, s1, s2, s3, s4, s5, s6, s7, s8, s9, s10, s11, s12, s13, s14, s15, s16, s17, s18, s19, s20, s21, s22, s23, s24, s25, s26, s27, s28, s29, s30, s31, s32, s33⟩
                    first
                      | (refine (load_whole (by rfl) gb156 0 (by rfl) [.int .i64 a0_0, .bool a0_1, .bool a0_2, .bool a0_3, .bool a0_4, .bool a0_5, .bool a0_6, .bool a0_7, .int .i64 a0_8, .int .i64 a0_9, .int .i64 a0_10, .int .i64 a0_11, .int .i64 a0_12, .int .i64 a0_13, .int .i64 x157014_19, .int .i64 a0_15, .int .i64 a0_16, .int .i64 x157017_19, .int .i64 x157018_19, .int .i64 x157019_19, .string a0_20] Try.underlying25 rfl (by kernel_rfl) ⟨s0, s1, s2, s3, s4, s5, s6, s7, s8, s9, s10, s11, s12, s13, s14, s15, s16, s17, s18, s19, s20, trivial⟩).trans ?_; with_reducible rfl)
                      | (go_simp; with_reducible rfl)
                  rotate_left
                  · simp only [Act.put, List.setIfInBounds_toArray, List.set_cons_zero, List.set_cons_succ, i64_w, i32_w]
                    rfl
                  refine take_ (i := 1) (N := some 81) (v := ?_) (a' := ?_) #[true, true, true, false, false, false, true, true, true, false, false, false] rfl rfl (take_ofW HT_.out HW_.out (by kernel_rfl)) (fun _ _ _ h => h) (Or.inl ⟨by rfl, ?_⟩) hHeld ?_ ?_
                  rotate_left
                  · rintro w' ⟨s0, s1, s2, s3, s4, s5, s6, s7, s8, s9, s10, s11, s12, s13, s14, s15, s16, s17, s18, s19, s20, s21, s22, s23, s24, s25, s26, s27, s28, s29, s30, s31, s32, s33⟩
                    first
                      | (refine (load_whole (by rfl) gb156 1 (by rfl) [.bool a0_1, .bool a0_2, .bool a0_3, .bool a0_4, .bool a0_5, .bool a0_6, .bool a0_7, .int .i64 a0_8, .int .i64 a0_9, .int .i64 a0_10, .int .i64 a0_11, .int .i64 a0_12, .int .i64 a0_13] Try.underlying23 rfl (by kernel_rfl) ⟨s1, s2, s3, s4, s5, s6, s7, s8, s9, s10, s11, s12, s13, trivial⟩).trans ?_; with_reducible rfl)
                      | (refine (load_whole (by rfl) gb158 0 (by rfl) [.bool false, .bool false, .bool false, .bool false, .bool false, .bool false, .bool false, .int .i64 (-1), .int .i64 0, .int .i64 0, .int .i64 0, .int .i64 (-1), .int .i64 (-1)] Try.underlying23 rfl (by kernel_rfl) ⟨s21, s22, s23, s24, s25, s26, s27, s28, s29, s30, s31, s32, s33, trivial⟩).trans ?_; with_reducible rfl)
                      | (go_simp; with_reducible rfl)
                  rotate_left
                  · simp only [Act.put, List.setIfInBounds_toArray, List.set_cons_zero, List.set_cons_succ, i64_w, i32_w]
                    rfl
                  refine take_ (i := 4) (N := some 84) (v := ?_) (a' := ?_) #[true, true, true, false, true, false, true, true, true, false, false, false] rfl rfl (take_ofW HT_.out HW_.out (by kernel_rfl)) (fun _ _ _ h => h) (Or.inl ⟨by rfl, ?_⟩) hHeld ?_ ?_
                  rotate_left
                  · rintro w' ⟨s0, s1, s2, s3, s4, s5, s6, s7, s8, s9, s10, s11, s12, s13, s14, s15, s16, s17, s18, s19, s20, s21, s22, s23, s24, s25, s26, s27, s28, s29, s30, s31, s32, s33⟩
                    first
                      | (refine (load_whole (by rfl) gb156 0 (by rfl) [.int .i64 a0_0, .bool a0_1, .bool a0_2, .bool a0_3, .bool a0_4, .bool a0_5, .bool a0_6, .bool a0_7, .int .i64 a0_8, .int .i64 a0_9, .int .i64 a0_10, .int .i64 a0_11, .int .i64 a0_12, .int .i64 a0_13, .int .i64 x157014_19, .int .i64 a0_15, .int .i64 a0_16, .int .i64 x157017_19, .int .i64 x157018_19, .int .i64 x157019_19, .string a0_20] Try.underlying25 rfl (by kernel_rfl) ⟨s0, s1, s2, s3, s4, s5, s6, s7, s8, s9, s10, s11, s12, s13, s14, s15, s16, s17, s18, s19, s20, trivial⟩).trans ?_; with_reducible rfl)
                      | (go_simp; with_reducible rfl)
                  rotate_left
                  · simp only [Act.put, List.setIfInBounds_toArray, List.set_cons_zero, List.set_cons_succ, i64_w, i32_w]
                    rfl
                  refine take_ (i := 5) (N := some 85) (v := ?_) (a' := ?_) #[true, true, true, false, true, true, true, true, true, false, false, false] rfl rfl (take_ofW HT_.out HW_.out (by kernel_rfl)) (fun _ _ _ h => h) (Or.inl ⟨by rfl, ?_⟩) hHeld ?_ ?_
                  rotate_left
                  · rintro w' ⟨s0, s1, s2, s3, s4, s5, s6, s7, s8, s9, s10, s11, s12, s13, s14, s15, s16, s17, s18, s19, s20, s21, s22, s23, s24, s25, s26, s27, s28, s29, s30, s31, s32, s33⟩
                    first
                      | (refine (load_whole (by rfl) gb156 1 (by rfl) [.bool a0_1, .bool a0_2, .bool a0_3, .bool a0_4, .bool a0_5, .bool a0_6, .bool a0_7, .int .i64 a0_8, .int .i64 a0_9, .int .i64 a0_10, .int .i64 a0_11, .int .i64 a0_12, .int .i64 a0_13] Try.underlying23 rfl (by kernel_rfl) ⟨s1, s2, s3, s4, s5, s6, s7, s8, s9, s10, s11, s12, s13, trivial⟩).trans ?_; with_reducible rfl)
                      | (refine (load_whole (by rfl) gb158 0 (by rfl) [.bool false, .bool false, .bool false, .bool false, .bool false, .bool false, .bool false, .int .i64 (-1), .int .i64 0, .int .i64 0, .int .i64 0, .int .i64 (-1), .int .i64 (-1)] Try.underlying23 rfl (by kernel_rfl) ⟨s21, s22, s23, s24, s25, s26, s27, s28, s29, s30, s31, s32, s33, trivial⟩).trans ?_; with_reducible rfl)
                      | (go_simp; with_reducible rfl)
                  rotate_left
                  · simp only [Act.put, List.setIfInBounds_toArray, List.set_cons_zero, List.set_cons_succ, i64_w, i32_w]
                    rfl
                  refine one_ (i := 3) (N := some 83) #[true, true, true, true, true, true, true, true, true, false, false, false] rfl rfl (one_of HT_.out (by kernel_rfl)) (by decide) (fun K hK => ?_)
                  refine goes_ Try.func13 (by kernel_rfl) rfl #[.agg #[.int .i64 a0_0, .bool a0_1, .bool a0_2, .bool a0_3, .bool a0_4, .bool a0_5, .bool a0_6, .bool a0_7, .int .i64 a0_8, .int .i64 a0_9, .int .i64 a0_10, .int .i64 a0_11, .int .i64 a0_12, .int .i64 a0_13, .int .i64 x157014_19, .int .i64 a0_15, .int .i64 a0_16, .int .i64 x157017_19, .int .i64 x157018_19, .int .i64 x157019_19, .string a0_20], .agg #[.bool false, .bool false, .bool false, .bool false, .bool false, .bool false, .bool false, .int .i64 (-1), .int .i64 0, .int .i64 0, .int .i64 0, .int .i64 (-1), .int .i64 (-1)], .int .i64 (wrap64 (x157019_19 + (Go.bits .and .i64 a1_0 1048575)))] (by rfl) rfl rfl (by (try simp only [List.map_toArray, List.map_cons, List.map_nil]); first | done | rfl | (simp only [List.length_drop, List.length_take]; rfl)) ?_
                  with_reducible refine (fresh_State.calls kj25 a0_0 a0_1 a0_2 a0_3 a0_4 a0_5 a0_6 a0_7 a0_8 a0_9 a0_10 a0_11 a0_12 a0_13 x157014_19 a0_15 a0_16 x157017_19 x157018_19 x157019_19 a0_20 false false false false false false false (-1) 0 0 0 (-1) (-1) (wrap64 (x157019_19 + (Go.bits .and .i64 a1_0 1048575))) t162 _ A42.out).mono ?_
                  rintro e w46 ⟨rfl, hb⟩
                  refine ⟨_, rfl, ?_⟩
                  have n0_ := Aside0.mk (blk_below (g := gb156) (o := .cells #[.int .i64 a0_0, .bool a0_1, .bool a0_2, .bool a0_3, .bool a0_4, .bool a0_5, .bool a0_6, .bool a0_7, .int .i64 a0_8, .int .i64 a0_9, .int .i64 a0_10, .int .i64 a0_11, .int .i64 a0_12, .int .i64 a0_13, .int .i64 x157014_19, .int .i64 a0_15, .int .i64 a0_16, .int .i64 x157017_19, .int .i64 x157018_19, .int .i64 x157019_19, .string a0_20] 25 (0, 0)) (by (with_reducible repeat (first | refine blk_drewN ?_ _ | refine blk_drew ?_ | refine blk_alloc ?_ _)); exact BK156.out) hb)
                  have n1_ := Aside0.mk (blk_below (g := gb157) (o := .cells #[.int .i64 a1_0, .int .i64 a1_1] 32 (0, 0)) (by (with_reducible repeat (first | refine blk_drewN ?_ _ | refine blk_drew ?_ | refine blk_alloc ?_ _)); exact BK157.out) hb)
                  have n2_ := Aside0.mk (blk_below (g := gb158) (o := .cells #[.bool false, .bool false, .bool false, .bool false, .bool false, .bool false, .bool false, .int .i64 (-1), .int .i64 0, .int .i64 0, .int .i64 0, .int .i64 (-1), .int .i64 (-1)] 23 (0, 0)) (by (with_reducible repeat (first | refine blk_drewN ?_ _ | refine blk_drew ?_ | refine blk_alloc ?_ _)); exact BK158.out) hb)
                  have n3_ := Aside0.mk (below_step (by repeat (first | (with_reducible first | exact HB.out | apply below_alloc | apply pw_below_drewN | apply below_drew1 | refine below_set ?_ GE156.out | refine below_set ?_ GE157.out | refine below_set ?_ GE158.out) | exact HB.out)) hb)
                  clear BK156
                  clear BK157
                  clear BK158
                  clear HB
                  have BK156 := n0_
                  have BK157 := n1_
                  have BK158 := n2_
                  have HB := n3_
                  clear n0_ n1_ n2_ n3_
                  (try clear hb)
                  (try clear hb2)
                  (try clear hk)
                  (try clear hi)
                  refine hK.out _ _ ⟨(blk_cell BK156.out 0).trans rfl, (blk_cell BK156.out 1).trans rfl, (blk_cell BK156.out 2).trans rfl, (blk_cell BK156.out 3).trans rfl, (blk_cell BK156.out 4).trans rfl, (blk_cell BK156.out 5).trans rfl, (blk_cell BK156.out 6).trans rfl, (blk_cell BK156.out 7).trans rfl, (blk_cell BK156.out 8).trans rfl, (blk_cell BK156.out 9).trans rfl, (blk_cell BK156.out 10).trans rfl, (blk_cell BK156.out 11).trans rfl, (blk_cell BK156.out 12).trans rfl, (blk_cell BK156.out 13).trans rfl, (blk_cell BK156.out 14).trans rfl, (blk_cell BK156.out 15).trans rfl, (blk_cell BK156.out 16).trans rfl, (blk_cell BK156.out 17).trans rfl, (blk_cell BK156.out 18).trans rfl, (blk_cell BK156.out 19).trans rfl, (blk_cell BK156.out 20).trans rfl, (blk_cell BK158.out 0).trans rfl, (blk_cell BK158.out 1).trans rfl, (blk_cell BK158.out 2).trans rfl, (blk_cell BK158.out 3).trans rfl, (blk_cell BK158.out 4).trans rfl, (blk_cell BK158.out 5).trans rfl, (blk_cell BK158.out 6).trans rfl, (blk_cell BK158.out 7).trans rfl, (blk_cell BK158.out 8).trans rfl, (blk_cell BK158.out 9).trans rfl, (blk_cell BK158.out 10).trans rfl, (blk_cell BK158.out 11).trans rfl, (blk_cell BK158.out 12).trans rfl⟩ (fun hHeld => ?_)
                  clear hK K
                  refine norm_ (a' := ?_) ?_ ?_
                  rotate_left
                  · show Act.put _ (some 83) _ = _
                    simp only [Act.put, List.setIfInBounds_toArray, List.set_cons_zero, List.set_cons_succ, i64_w, i32_w]
                    rfl
                  refine one_ (i := 9) (N := some 89) #[true, true, true, true, true, true, true, true, true, true, false, false] rfl rfl (one_of HT_.out (by kernel_rfl)) (by decide) (fun K hK => ?_)
                  refine goes_ Try.func13 (by kernel_rfl) rfl #[.agg #[.int .i64 a0_0, .bool a0_1, .bool a0_2, .bool a0_3, .bool a0_4, .bool a0_5, .bool a0_6, .bool a0_7, .int .i64 a0_8, .int .i64 a0_9, .int .i64 a0_10, .int .i64 a0_11, .int .i64 a0_12, .int .i64 a0_13, .int .i64 x157014_19, .int .i64 a0_15, .int .i64 a0_16, .int .i64 x157017_19, .int .i64 x157018_19, .int .i64 x157019_19, .string a0_20], .agg #[.bool false, .bool false, .bool false, .bool false, .bool false, .bool false, .bool false, .int .i64 (-1), .int .i64 0, .int .i64 0, .int .i64 0, .int .i64 (-1), .int .i64 (-1)], .int .i64 (wrap64 ((wrap64 (x157019_19 + (Go.bits .and .i64 a1_0 1048575))) + (Go.bits .and .i64 a1_1 1048575)))] (by rfl) rfl rfl (by (try simp only [List.map_toArray, List.map_cons, List.map_nil]); first | done | rfl | (simp only [List.length_drop, List.length_take]; rfl)) ?_
                  with_reducible refine (fresh_State.calls kj25 a0_0 a0_1 a0_2 a0_3 a0_4 a0_5 a0_6 a0_7 a0_8 a0_9 a0_10 a0_11 a0_12 a0_13 x157014_19 a0_15 a0_16 x157017_19 x157018_19 x157019_19 a0_20 false false false false false false false (-1) 0 0 0 (-1) (-1) (wrap64 ((wrap64 (x157019_19 + (Go.bits .and .i64 a1_0 1048575))) + (Go.bits .and .i64 a1_1 1048575))) t163 _ A43.out).mono ?_
                  rintro e w47 ⟨rfl, hb⟩
                  refine ⟨_, rfl, ?_⟩
                  have n0_ := Aside0.mk (blk_below (g := gb156) (o := .cells #[.int .i64 a0_0, .bool a0_1, .bool a0_2, .bool a0_3, .bool a0_4, .bool a0_5, .bool a0_6, .bool a0_7, .int .i64 a0_8, .int .i64 a0_9, .int .i64 a0_10, .int .i64 a0_11, .int .i64 a0_12, .int .i64 a0_13, .int .i64 x157014_19, .int .i64 a0_15, .int .i64 a0_16, .int .i64 x157017_19, .int .i64 x157018_19, .int .i64 x157019_19, .string a0_20] 25 (0, 0)) (by (with_reducible repeat (first | refine blk_drewN ?_ _ | refine blk_drew ?_ | refine blk_alloc ?_ _)); exact BK156.out) hb)
                  have n1_ := Aside0.mk (blk_below (g := gb157) (o := .cells #[.int .i64 a1_0, .int .i64 a1_1] 32 (0, 0)) (by (with_reducible repeat (first | refine blk_drewN ?_ _ | refine blk_drew ?_ | refine blk_alloc ?_ _)); exact BK157.out) hb)
                  have n2_ := Aside0.mk (blk_below (g := gb158) (o := .cells #[.bool false, .bool false, .bool false, .bool false, .bool false, .bool false, .bool false, .int .i64 (-1), .int .i64 0, .int .i64 0, .int .i64 0, .int .i64 (-1), .int .i64 (-1)] 23 (0, 0)) (by (with_reducible repeat (first | refine blk_drewN ?_ _ | refine blk_drew ?_ | refine blk_alloc ?_ _)); exact BK158.out) hb)
                  have n3_ := Aside0.mk (below_step (by repeat (first | (with_reducible first | exact HB.out | apply below_alloc | apply pw_below_drewN | apply below_drew1 | refine below_set ?_ GE156.out | refine below_set ?_ GE157.out | refine below_set ?_ GE158.out) | exact HB.out)) hb)
                  clear BK156
                  clear BK157
                  clear BK158
                  clear HB
                  have BK156 := n0_
                  have BK157 := n1_
                  have BK158 := n2_
                  have HB := n3_
                  clear n0_ n1_ n2_ n3_
                  (try clear hb)
                  (try clear hb2)
                  (try clear hk)
                  (try clear hi)
                  refine hK.out _ _ ⟨(blk_cell BK156.out 0).trans rfl, (blk_cell BK156.out 1).trans rfl, (blk_cell BK156.out 2).trans rfl, (blk_cell BK156.out 3).trans rfl, (blk_cell BK156.out 4).trans rfl, (blk_cell BK156.out 5).trans rfl, (blk_cell BK156.out 6).trans rfl, (blk_cell BK156.out 7).trans rfl, (blk_cell BK156.out 8).trans rfl, (blk_cell BK156.out 9).trans rfl, (blk_cell BK156.out 10).trans rfl, (blk_cell BK156.out 11).trans rfl, (blk_cell BK156.out 12).trans rfl, (blk_cell BK156.out 13).trans rfl, (blk_cell BK156.out 14).trans rfl, (blk_cell BK156.out 15).trans rfl, (blk_cell BK156.out 16).trans rfl, (blk_cell BK156.out 17).trans rfl, (blk_cell BK156.out 18).trans rfl, (blk_cell BK156.out 19).trans rfl, (blk_cell BK156.out 20).trans rfl, (blk_cell BK158.out 0).trans rfl, (blk_cell BK158.out 1).trans rfl, (blk_cell BK158.out 2).trans rfl, (blk_cell BK158.out 3).trans rfl, (blk_cell BK158.out 4).trans rfl, (blk_cell BK158.out 5).trans rfl, (blk_cell BK158.out 6).trans rfl, (blk_cell BK158.out 7).trans rfl, (blk_cell BK158.out 8).trans rfl, (blk_cell BK158.out 9).trans rfl, (blk_cell BK158.out 10).trans rfl, (blk_cell BK158.out 11).trans rfl, (blk_cell BK158.out 12).trans rfl⟩ (fun hHeld => ?_)
                  clear hK K
                  refine norm_ (a' := ?_) ?_ ?_
                  rotate_left
                  · show Act.put _ (some 89) _ = _
                    simp only [Act.put, List.setIfInBounds_toArray, List.set_cons_zero, List.set_cons_succ, i64_w, i32_w]
                    rfl
                  refine pure_ (i := 10) (N := some 11) (v := ?_) (a' := ?_) #[true, true, true, true, true, true, true, true, true, true, true, false] rfl rfl (any_of HT_.out (by kernel_rfl)) (fun _ _ _ h => h) (Or.inl ⟨by rfl, ?_⟩) ?_ ?_
                  rotate_left
                  · intro w'
                    go_simp
                    with_reducible rfl
                  rotate_left
                  · simp only [Act.put, List.setIfInBounds_toArray, List.set_cons_zero, List.set_cons_succ, i64_w, i32_w]
                    rfl
                  refine pure_ (i := 11) (N := some 12) (v := ?_) (a' := ?_) #[true, true, true, true, true, true, true, true, true, true, true, true] rfl rfl (any_of HT_.out (by kernel_rfl)) (fun _ _ _ h => h) (Or.inl ⟨by rfl, ?_⟩) ?_ ?_
                  rotate_left
                  · intro w'
                    go_simp
                    with_reducible rfl
                  rotate_left
                  · simp only [Act.put, List.setIfInBounds_toArray, List.set_cons_zero, List.set_cons_succ, i64_w, i32_w]
                    rfl
                  refine done_ (done_of HT_.out (by kernel_rfl)) ?_
                  try go_wp2_with (first | ((first | (with_reducible refine gate_dst (N := 63) rfl ?_) | (with_reducible refine gate_dst (N := 66) rfl ?_) | (with_reducible refine gate_dst (N := 80) rfl ?_) | (with_reducible refine gate_dst (N := 84) rfl ?_)); refine wpList_load_mid rfl 25 (.tmp 2) rfl _ _ (by rfl) [_, _, _, _, _, _, _, _, _, _, _, _, _, _, _, _, _, _, _, _, _] _ (cellsAt_range _ (by (repeat (refine ⟨by assumption, ?_⟩)); exact trivial)) Try.underlying25 rfl (by kernel_rfl) ?_) | ((first | (with_reducible refine gate_dst (N := 81) rfl ?_) | (with_reducible refine gate_dst (N := 85) rfl ?_)); refine wpList_load_mid rfl 23 (.tmp 8) rfl _ _ (by rfl) [_, _, _, _, _, _, _, _, _, _, _, _, _] _ (cellsAt_range _ (by (repeat (refine ⟨by assumption, ?_⟩)); exact trivial)) Try.underlying23 rfl (by kernel_rfl) ?_) | ((with_reducible refine gate_dst (N := 100) rfl ?_); refine wpList_load_midG rfl 25 (.tmp 2) rfl _ _ (by rfl) [_, _, _, _, _, _, _, _, _, _, _, _, _, _, _, _, _, _, _, _, _] _ (cellsAt_range _ (by (repeat (refine ⟨by assumption, ?_⟩)); exact trivial)) Try.underlying25 rfl (by kernel_rfl) ?_))
                  go_ret
                  exact ⟨by first | rfl | (simp [errW_none, errW_some] <;> rfl) | (simp [*, errW_none, errW_some] <;> rfl), by repeat (first | (with_reducible first | exact HB.out | apply below_alloc | apply pw_below_drewN | apply below_drew1 | refine below_set ?_ GE156.out | refine below_set ?_ GE157.out | refine below_set ?_ GE158.out) | exact HB.out)⟩
                · rw [if_neg c44] at H
                  have c44b0 : decide (t163 < t162) = false := decide_eq_false c44
                  clear c44
                  by_cases c48 : a0_2 = true
                  · subst c48
                    have H1 : (some true) = some r := by rw [if_pos rfl] at H; exact H
                    clear H
                    have H := H1
                    clear H1
                    obtain rfl := Option.some.inj H
                    try go_wp2_with (first | ((first | (with_reducible refine gate_dst (N := 63) rfl ?_) | (with_reducible refine gate_dst (N := 66) rfl ?_) | (with_reducible refine gate_dst (N := 80) rfl ?_) | (with_reducible refine gate_dst (N := 84) rfl ?_)); refine wpList_load_mid rfl 25 (.tmp 2) rfl _ _ (by rfl) [_, _, _, _, _, _, _, _, _, _, _, _, _, _, _, _, _, _, _, _, _] _ (cellsAt_range _ (by (repeat (refine ⟨by assumption, ?_⟩)); exact trivial)) Try.underlying25 rfl (by kernel_rfl) ?_) | ((first | (with_reducible refine gate_dst (N := 81) rfl ?_) | (with_reducible refine gate_dst (N := 85) rfl ?_)); refine wpList_load_mid rfl 23 (.tmp 8) rfl _ _ (by rfl) [_, _, _, _, _, _, _, _, _, _, _, _, _] _ (cellsAt_range _ (by (repeat (refine ⟨by assumption, ?_⟩)); exact trivial)) Try.underlying23 rfl (by kernel_rfl) ?_) | ((with_reducible refine gate_dst (N := 100) rfl ?_); refine wpList_load_midG rfl 25 (.tmp 2) rfl _ _ (by rfl) [_, _, _, _, _, _, _, _, _, _, _, _, _, _, _, _, _, _, _, _, _] _ (cellsAt_range _ (by (repeat (refine ⟨by assumption, ?_⟩)); exact trivial)) Try.underlying25 rfl (by kernel_rfl) ?_))
                    have n0_ := Aside0.mk (blk_drew BK156.out)
                    have n1_ := Aside0.mk (blk_drew BK157.out)
                    have n2_ := Aside0.mk (blk_drew BK158.out)
                    have n3_ := Aside0.mk (below_drew1 HB.out)
                    clear BK156
                    clear BK157
                    clear BK158
                    clear HB
                    have BK156 := n0_
                    have BK157 := n1_
                    have BK158 := n2_
                    have HB := n3_
                    clear n0_ n1_ n2_ n3_
                    refine start_ (n := 12) (S := fun w' => w'.cell? ⟨gb156, 0, none⟩ = some (.int .i64 a0_0) ∧ w'.cell? ⟨gb156, 1, none⟩ = some (.bool a0_1) ∧ w'.cell? ⟨gb156, 2, none⟩ = some (.bool true) ∧ w'.cell? ⟨gb156, 3, none⟩ = some (.bool a0_3) ∧ w'.cell? ⟨gb156, 4, none⟩ = some (.bool a0_4) ∧ w'.cell? ⟨gb156, 5, none⟩ = some (.bool a0_5) ∧ w'.cell? ⟨gb156, 6, none⟩ = some (.bool a0_6) ∧ w'.cell? ⟨gb156, 7, none⟩ = some (.bool a0_7) ∧ w'.cell? ⟨gb156, 8, none⟩ = some (.int .i64 a0_8) ∧ w'.cell? ⟨gb156, 9, none⟩ = some (.int .i64 a0_9) ∧ w'.cell? ⟨gb156, 10, none⟩ = some (.int .i64 a0_10) ∧ w'.cell? ⟨gb156, 11, none⟩ = some (.int .i64 a0_11) ∧ w'.cell? ⟨gb156, 12, none⟩ = some (.int .i64 a0_12) ∧ w'.cell? ⟨gb156, 13, none⟩ = some (.int .i64 a0_13) ∧ w'.cell? ⟨gb156, 14, none⟩ = some (.int .i64 x157014_19) ∧ w'.cell? ⟨gb156, 15, none⟩ = some (.int .i64 a0_15) ∧ w'.cell? ⟨gb156, 16, none⟩ = some (.int .i64 a0_16) ∧ w'.cell? ⟨gb156, 17, none⟩ = some (.int .i64 x157017_19) ∧ w'.cell? ⟨gb156, 18, none⟩ = some (.int .i64 x157018_19) ∧ w'.cell? ⟨gb156, 19, none⟩ = some (.int .i64 x157019_19) ∧ w'.cell? ⟨gb156, 20, none⟩ = some (.string a0_20) ∧ w'.cell? ⟨gb158, 0, none⟩ = some (.bool false) ∧ w'.cell? ⟨gb158, 1, none⟩ = some (.bool false) ∧ w'.cell? ⟨gb158, 2, none⟩ = some (.bool false) ∧ w'.cell? ⟨gb158, 3, none⟩ = some (.bool false) ∧ w'.cell? ⟨gb158, 4, none⟩ = some (.bool false) ∧ w'.cell? ⟨gb158, 5, none⟩ = some (.bool false) ∧ w'.cell? ⟨gb158, 6, none⟩ = some (.bool false) ∧ w'.cell? ⟨gb158, 7, none⟩ = some (.int .i64 (-1)) ∧ w'.cell? ⟨gb158, 8, none⟩ = some (.int .i64 0) ∧ w'.cell? ⟨gb158, 9, none⟩ = some (.int .i64 0) ∧ w'.cell? ⟨gb158, 10, none⟩ = some (.int .i64 0) ∧ w'.cell? ⟨gb158, 11, none⟩ = some (.int .i64 (-1)) ∧ w'.cell? ⟨gb158, 12, none⟩ = some (.int .i64 (-1))) (ds := []) #[false, false, false, false, false, false, false, false, false, false, false, false] (by kernel_rfl) rfl rfl ⟨(blk_cell BK156.out 0).trans rfl, (blk_cell BK156.out 1).trans rfl, (blk_cell BK156.out 2).trans rfl, (blk_cell BK156.out 3).trans rfl, (blk_cell BK156.out 4).trans rfl, (blk_cell BK156.out 5).trans rfl, (blk_cell BK156.out 6).trans rfl, (blk_cell BK156.out 7).trans rfl, (blk_cell BK156.out 8).trans rfl, (blk_cell BK156.out 9).trans rfl, (blk_cell BK156.out 10).trans rfl, (blk_cell BK156.out 11).trans rfl, (blk_cell BK156.out 12).trans rfl, (blk_cell BK156.out 13).trans rfl, (blk_cell BK156.out 14).trans rfl, (blk_cell BK156.out 15).trans rfl, (blk_cell BK156.out 16).trans rfl, (blk_cell BK156.out 17).trans rfl, (blk_cell BK156.out 18).trans rfl, (blk_cell BK156.out 19).trans rfl, (blk_cell BK156.out 20).trans rfl, (blk_cell BK158.out 0).trans rfl, (blk_cell BK158.out 1).trans rfl, (blk_cell BK158.out 2).trans rfl, (blk_cell BK158.out 3).trans rfl, (blk_cell BK158.out 4).trans rfl, (blk_cell BK158.out 5).trans rfl, (blk_cell BK158.out 6).trans rfl, (blk_cell BK158.out 7).trans rfl, (blk_cell BK158.out 8).trans rfl, (blk_cell BK158.out 9).trans rfl, (blk_cell BK158.out 10).trans rfl, (blk_cell BK158.out 11).trans rfl, (blk_cell BK158.out 12).trans rfl⟩ (fun hHeld => ?_); refine with_tabW gatepostlaw09_FreshGrows.tab9 gatepostlaw09_FreshGrows.bits9 (fun HT_ HW_ => ?_)
                    generalize wc.drew = w49 at BK156 BK157 BK158 HB hHeld ⊢
                    refine pure_ (i := 2) (N := some 82) (v := ?_) (a' := ?_) #[false, false, true, false, false, false, false, false, false, false, false, false] rfl rfl (any_of HT_.out (by kernel_rfl)) (fun _ _ _ h => h) (Or.inl ⟨by rfl, ?_⟩) ?_ ?_
                    rotate_left
                    · intro w'
                      go_simp
                      with_reducible rfl
                    rotate_left
                    · simp only [Act.put, List.setIfInBounds_toArray, List.set_cons_zero, List.set_cons_succ, i64_w, i32_w]
                      rfl
                    refine pure_ (i := 6) (N := some 86) (v := ?_) (a' := ?_) #[false, false, true, false, false, false, true, false, false, false, false, false] rfl rfl (any_of HT_.out (by kernel_rfl)) (fun _ _ _ h => h) (Or.inl ⟨by rfl, ?_⟩) ?_ ?_
                    rotate_left
                    · intro w'
                      go_simp
                      with_reducible rfl
                    rotate_left
                    · simp only [Act.put, List.setIfInBounds_toArray, List.set_cons_zero, List.set_cons_succ, i64_w, i32_w]
                      rfl
                    refine pure_ (i := 7) (N := some 87) (v := ?_) (a' := ?_) #[false, false, true, false, false, false, true, true, false, false, false, false] rfl rfl (any_of HT_.out (by kernel_rfl)) (fun _ _ _ h => h) (Or.inl ⟨by rfl, ?_⟩) ?_ ?_
                    rotate_left
                    · intro w'
                      go_simp
                      with_reducible rfl
                    rotate_left
                    · simp only [Act.put, List.setIfInBounds_toArray, List.set_cons_zero, List.set_cons_succ, i64_w, i32_w]
                      rfl
                    refine pure_ (i := 8) (N := some 88) (v := ?_) (a' := ?_) #[false, false, true, false, false, false, true, true, true, false, false, false] rfl rfl (any_of HT_.out (by kernel_rfl)) (fun _ _ _ h => h) (Or.inl ⟨by rfl, ?_⟩) ?_ ?_
                    rotate_left
                    · intro w'
                      go_simp
                      with_reducible rfl
                    rotate_left
                    · simp only [Act.put, List.setIfInBounds_toArray, List.set_cons_zero, List.set_cons_succ, i64_w, i32_w]
                      rfl
                    refine take_ (i := 0) (N := some 80) (v := ?_) (a' := ?_) #[true, false, true, false, false, false, true, true, true, false, false, false] rfl rfl (take_ofW HT_.out HW_.out (by kernel_rfl)) (fun _ _ _ h => h) (Or.inl ⟨by rfl, ?_⟩) hHeld ?_ ?_
                    rotate_left
                    · rintro w' ⟨s0, s1, s2, s3, s4, s5, s6, s7, s8, s9, s10, s11, s12, s13, s14, s15, s16, s17, s18, s19, s20, s21, s22, s23, s24, s25, s26, s27, s28, s29, s30, s31, s32, s33⟩
                      first
                        | (refine (load_whole (by rfl) gb156 0 (by rfl) [.int .i64 a0_0, .bool a0_1, .bool true, .bool a0_3, .bool a0_4, .bool a0_5, .bool a0_6, .bool a0_7, .int .i64 a0_8, .int .i64 a0_9, .int .i64 a0_10, .int .i64 a0_11, .int .i64 a0_12, .int .i64 a0_13, .int .i64 x157014_19, .int .i64 a0_15, .int .i64 a0_16, .int .i64 x157017_19, .int .i64 x157018_19, .int .i64 x157019_19, .string a0_20] Try.underlying25 rfl (by kernel_rfl) ⟨s0, s1, s2, s3, s4, s5, s6, s7, s8, s9, s10, s11, s12, s13, s14, s15, s16, s17, s18, s19, s20, trivial⟩).trans ?_; with_reducible rfl)
                        | (go_simp; with_reducible rfl)
                    rotate_left
                    · simp only [Act.put, List.setIfInBounds_toArray, List.set_cons_zero, List.set_cons_succ, i64_w, i32_w]
                      rfl
                    refine take_ (i := 1) (N := some 81) (v := ?_) (a' := ?_) #[true, true, true, false, false, false, true, true, true, false, false, false] rfl rfl (take_ofW HT_.out HW_.out (by kernel_rfl)) (fun _ _ _ h => h) (Or.inl ⟨by rfl, ?_⟩) hHeld ?_ ?_
                    rotate_left
                    · rintro w' ⟨s0, s1, s2, s3, s4, s5, s6, s7, s8, s9, s10, s11, s12, s13, s14, s15, s16, s17, s18, s19, s20, s21, s22, s23, s24, s25, s26, s27, s28, s29, s30, s31, s32, s33⟩
                      first
                        | (refine (load_whole (by rfl) gb156 1 (by rfl) [.bool a0_1, .bool true, .bool a0_3, .bool a0_4, .bool a0_5, .bool a0_6, .bool a0_7, .int .i64 a0_8, .int .i64 a0_9, .int .i64 a0_10, .int .i64 a0_11, .int .i64 a0_12, .int .i64 a0_13] Try.underlying23 rfl (by kernel_rfl) ⟨s1, s2, s3, s4, s5, s6, s7, s8, s9, s10, s11, s12, s13, trivial⟩).trans ?_; with_reducible rfl)
                        | (refine (load_whole (by rfl) gb158 0 (by rfl) [.bool false, .bool false, .bool false, .bool false, .bool false, .bool false, .bool false, .int .i64 (-1), .int .i64 0, .int .i64 0, .int .i64 0, .int .i64 (-1), .int .i64 (-1)] Try.underlying23 rfl (by kernel_rfl) ⟨s21, s22, s23, s24, s25, s26, s27, s28, s29, s30, s31, s32, s33, trivial⟩).trans ?_; with_reducible rfl)
                        | (go_simp; with_reducible rfl)
                    rotate_left
                    · simp only [Act.put, List.setIfInBounds_toArray, List.set_cons_zero, List.set_cons_succ, i64_w, i32_w]
                      rfl
                    refine take_ (i := 4) (N := some 84) (v := ?_) (a' := ?_) #[true, true, true, false, true, false, true, true, true, false, false, false] rfl rfl (take_ofW HT_.out HW_.out (by kernel_rfl)) (fun _ _ _ h => h) (Or.inl ⟨by rfl, ?_⟩) hHeld ?_ ?_
                    rotate_left
                    · rintro w' ⟨s0, s1, s2, s3, s4, s5, s6, s7, s8, s9, s10, s11, s12, s13, s14, s15, s16, s17, s18, s19, s20, s21, s22, s23, s24, s25, s26, s27, s28, s29, s30, s31, s32, s33⟩
                      first
                        | (refine (load_whole (by rfl) gb156 0 (by rfl) [.int .i64 a0_0, .bool a0_1, .bool true, .bool a0_3, .bool a0_4, .bool a0_5, .bool a0_6, .bool a0_7, .int .i64 a0_8, .int .i64 a0_9, .int .i64 a0_10, .int .i64 a0_11, .int .i64 a0_12, .int .i64 a0_13, .int .i64 x157014_19, .int .i64 a0_15, .int .i64 a0_16, .int .i64 x157017_19, .int .i64 x157018_19, .int .i64 x157019_19, .string a0_20] Try.underlying25 rfl (by kernel_rfl) ⟨s0, s1, s2, s3, s4, s5, s6, s7, s8, s9, s10, s11, s12, s13, s14, s15, s16, s17, s18, s19, s20, trivial⟩).trans ?_; with_reducible rfl)
                        | (go_simp; with_reducible rfl)
                    rotate_left
                    · simp only [Act.put, List.setIfInBounds_toArray, List.set_cons_zero, List.set_cons_succ, i64_w, i32_w]
                      rfl
                    refine take_ (i := 5) (N := some 85) (v := ?_) (a' := ?_) #[true, true, true, false, true, true, true, true, true, false, false, false] rfl rfl (take_ofW HT_.out HW_.out (by kernel_rfl)) (fun _ _ _ h => h) (Or.inl ⟨by rfl, ?_⟩) hHeld ?_ ?_
                    rotate_left
                    · rintro w' ⟨s0, s1, s2, s3, s4, s5, s6, s7, s8, s9, s10, s11, s12, s13, s14, s15, s16, s17, s18, s19, s20, s21, s22, s23, s24, s25, s26, s27, s28, s29, s30, s31, s32, s33⟩
                      first
                        | (refine (load_whole (by rfl) gb156 1 (by rfl) [.bool a0_1, .bool true, .bool a0_3, .bool a0_4, .bool a0_5, .bool a0_6, .bool a0_7, .int .i64 a0_8, .int .i64 a0_9, .int .i64 a0_10, .int .i64 a0_11, .int .i64 a0_12, .int .i64 a0_13] Try.underlying23 rfl (by kernel_rfl) ⟨s1, s2, s3, s4, s5, s6, s7, s8, s9, s10, s11, s12, s13, trivial⟩).trans ?_; with_reducible rfl)
                        | (refine (load_whole (by rfl) gb158 0 (by rfl) [.bool false, .bool false, .bool false, .bool false, .bool false, .bool false, .bool false, .int .i64 (-1), .int .i64 0, .int .i64 0, .int .i64 0, .int .i64 (-1), .int .i64 (-1)] Try.underlying23 rfl (by kernel_rfl) ⟨s21, s22, s23, s24, s25, s26, s27, s28, s29, s30, s31, s32, s33, trivial⟩).trans ?_; with_reducible rfl)
                        | (go_simp; with_reducible rfl)
                    rotate_left
                    · simp only [Act.put, List.setIfInBounds_toArray, List.set_cons_zero, List.set_cons_succ, i64_w, i32_w]
                      rfl
                    refine one_ (i := 3) (N := some 83) #[true, true, true, true, true, true, true, true, true, false, false, false] rfl rfl (one_of HT_.out (by kernel_rfl)) (by decide) (fun K hK => ?_)
                    refine goes_ Try.func13 (by kernel_rfl) rfl #[.agg #[.int .i64 a0_0, .bool a0_1, .bool true, .bool a0_3, .bool a0_4, .bool a0_5, .bool a0_6, .bool a0_7, .int .i64 a0_8, .int .i64 a0_9, .int .i64 a0_10, .int .i64 a0_11, .int .i64 a0_12, .int .i64 a0_13, .int .i64 x157014_19, .int .i64 a0_15, .int .i64 a0_16, .int .i64 x157017_19, .int .i64 x157018_19, .int .i64 x157019_19, .string a0_20], .agg #[.bool false, .bool false, .bool false, .bool false, .bool false, .bool false, .bool false, .int .i64 (-1), .int .i64 0, .int .i64 0, .int .i64 0, .int .i64 (-1), .int .i64 (-1)], .int .i64 (wrap64 (x157019_19 + (Go.bits .and .i64 a1_0 1048575)))] (by rfl) rfl rfl (by (try simp only [List.map_toArray, List.map_cons, List.map_nil]); first | done | rfl | (simp only [List.length_drop, List.length_take]; rfl)) ?_
                    with_reducible refine (fresh_State.calls kj25 a0_0 a0_1 true a0_3 a0_4 a0_5 a0_6 a0_7 a0_8 a0_9 a0_10 a0_11 a0_12 a0_13 x157014_19 a0_15 a0_16 x157017_19 x157018_19 x157019_19 a0_20 false false false false false false false (-1) 0 0 0 (-1) (-1) (wrap64 (x157019_19 + (Go.bits .and .i64 a1_0 1048575))) t162 _ A42.out).mono ?_
                    rintro e w50 ⟨rfl, hb⟩
                    refine ⟨_, rfl, ?_⟩
                    have n0_ := Aside0.mk (blk_below (g := gb156) (o := .cells #[.int .i64 a0_0, .bool a0_1, .bool true, .bool a0_3, .bool a0_4, .bool a0_5, .bool a0_6, .bool a0_7, .int .i64 a0_8, .int .i64 a0_9, .int .i64 a0_10, .int .i64 a0_11, .int .i64 a0_12, .int .i64 a0_13, .int .i64 x157014_19, .int .i64 a0_15, .int .i64 a0_16, .int .i64 x157017_19, .int .i64 x157018_19, .int .i64 x157019_19, .string a0_20] 25 (0, 0)) (by (with_reducible repeat (first | refine blk_drewN ?_ _ | refine blk_drew ?_ | refine blk_alloc ?_ _)); exact BK156.out) hb)
                    have n1_ := Aside0.mk (blk_below (g := gb157) (o := .cells #[.int .i64 a1_0, .int .i64 a1_1] 32 (0, 0)) (by (with_reducible repeat (first | refine blk_drewN ?_ _ | refine blk_drew ?_ | refine blk_alloc ?_ _)); exact BK157.out) hb)
                    have n2_ := Aside0.mk (blk_below (g := gb158) (o := .cells #[.bool false, .bool false, .bool false, .bool false, .bool false, .bool false, .bool false, .int .i64 (-1), .int .i64 0, .int .i64 0, .int .i64 0, .int .i64 (-1), .int .i64 (-1)] 23 (0, 0)) (by (with_reducible repeat (first | refine blk_drewN ?_ _ | refine blk_drew ?_ | refine blk_alloc ?_ _)); exact BK158.out) hb)
                    have n3_ := Aside0.mk (below_step (by repeat (first | (with_reducible first | exact HB.out | apply below_alloc | apply pw_below_drewN | apply below_drew1 | refine below_set ?_ GE156.out | refine below_set ?_ GE157.out | refine below_set ?_ GE158.out) | exact HB.out)) hb)
                    clear BK156
                    clear BK157
                    clear BK158
                    clear HB
                    have BK156 := n0_
                    have BK157 := n1_
                    have BK158 := n2_
                    have HB := n3_
                    clear n0_ n1_ n2_ n3_
                    (try clear hb)
                    (try clear hb2)
                    (try clear hk)
                    (try clear hi)
                    refine hK.out _ _ ⟨(blk_cell BK156.out 0).trans rfl, (blk_cell BK156.out 1).trans rfl, (blk_cell BK156.out 2).trans rfl, (blk_cell BK156.out 3).trans rfl, (blk_cell BK156.out 4).trans rfl, (blk_cell BK156.out 5).trans rfl, (blk_cell BK156.out 6).trans rfl, (blk_cell BK156.out 7).trans rfl, (blk_cell BK156.out 8).trans rfl, (blk_cell BK156.out 9).trans rfl, (blk_cell BK156.out 10).trans rfl, (blk_cell BK156.out 11).trans rfl, (blk_cell BK156.out 12).trans rfl, (blk_cell BK156.out 13).trans rfl, (blk_cell BK156.out 14).trans rfl, (blk_cell BK156.out 15).trans rfl, (blk_cell BK156.out 16).trans rfl, (blk_cell BK156.out 17).trans rfl, (blk_cell BK156.out 18).trans rfl, (blk_cell BK156.out 19).trans rfl, (blk_cell BK156.out 20).trans rfl, (blk_cell BK158.out 0).trans rfl, (blk_cell BK158.out 1).trans rfl, (blk_cell BK158.out 2).trans rfl, (blk_cell BK158.out 3).trans rfl, (blk_cell BK158.out 4).trans rfl, (blk_cell BK158.out 5).trans rfl, (blk_cell BK158.out 6).trans rfl, (blk_cell BK158.out 7).trans rfl, (blk_cell BK158.out 8).trans rfl, (blk_cell BK158.out 9).trans rfl, (blk_cell BK158.out 10).trans rfl, (blk_cell BK158.out 11).trans rfl, (blk_cell BK158.out 12).trans rfl⟩ (fun hHeld => ?_)
                    clear hK K
                    refine norm_ (a' := ?_) ?_ ?_
                    rotate_left
                    · show Act.put _ (some 83) _ = _
                      simp only [Act.put, List.setIfInBounds_toArray, List.set_cons_zero, List.set_cons_succ, i64_w, i32_w]
                      rfl
                    refine one_ (i := 9) (N := some 89) #[true, true, true, true, true, true, true, true, true, true, false, false] rfl rfl (one_of HT_.out (by kernel_rfl)) (by decide) (fun K hK => ?_)
                    refine goes_ Try.func13 (by kernel_rfl) rfl #[.agg #[.int .i64 a0_0, .bool a0_1, .bool true, .bool a0_3, .bool a0_4, .bool a0_5, .bool a0_6, .bool a0_7, .int .i64 a0_8, .int .i64 a0_9, .int .i64 a0_10, .int .i64 a0_11, .int .i64 a0_12, .int .i64 a0_13, .int .i64 x157014_19, .int .i64 a0_15, .int .i64 a0_16, .int .i64 x157017_19, .int .i64 x157018_19, .int .i64 x157019_19, .string a0_20], .agg #[.bool false, .bool false, .bool false, .bool false, .bool false, .bool false, .bool false, .int .i64 (-1), .int .i64 0, .int .i64 0, .int .i64 0, .int .i64 (-1), .int .i64 (-1)], .int .i64 (wrap64 ((wrap64 (x157019_19 + (Go.bits .and .i64 a1_0 1048575))) + (Go.bits .and .i64 a1_1 1048575)))] (by rfl) rfl rfl (by (try simp only [List.map_toArray, List.map_cons, List.map_nil]); first | done | rfl | (simp only [List.length_drop, List.length_take]; rfl)) ?_
                    with_reducible refine (fresh_State.calls kj25 a0_0 a0_1 true a0_3 a0_4 a0_5 a0_6 a0_7 a0_8 a0_9 a0_10 a0_11 a0_12 a0_13 x157014_19 a0_15 a0_16 x157017_19 x157018_19 x157019_19 a0_20 false false false false false false false (-1) 0 0 0 (-1) (-1) (wrap64 ((wrap64 (x157019_19 + (Go.bits .and .i64 a1_0 1048575))) + (Go.bits .and .i64 a1_1 1048575))) t163 _ A43.out).mono ?_
                    rintro e w51 ⟨rfl, hb⟩
                    refine ⟨_, rfl, ?_⟩
                    have n0_ := Aside0.mk (blk_below (g := gb156) (o := .cells #[.int .i64 a0_0, .bool a0_1, .bool true, .bool a0_3, .bool a0_4, .bool a0_5, .bool a0_6, .bool a0_7, .int .i64 a0_8, .int .i64 a0_9, .int .i64 a0_10, .int .i64 a0_11, .int .i64 a0_12, .int .i64 a0_13, .int .i64 x157014_19, .int .i64 a0_15, .int .i64 a0_16, .int .i64 x157017_19, .int .i64 x157018_19, .int .i64 x157019_19, .string a0_20] 25 (0, 0)) (by (with_reducible repeat (first | refine blk_drewN ?_ _ | refine blk_drew ?_ | refine blk_alloc ?_ _)); exact BK156.out) hb)
                    have n1_ := Aside0.mk (blk_below (g := gb157) (o := .cells #[.int .i64 a1_0, .int .i64 a1_1] 32 (0, 0)) (by (with_reducible repeat (first | refine blk_drewN ?_ _ | refine blk_drew ?_ | refine blk_alloc ?_ _)); exact BK157.out) hb)
                    have n2_ := Aside0.mk (blk_below (g := gb158) (o := .cells #[.bool false, .bool false, .bool false, .bool false, .bool false, .bool false, .bool false, .int .i64 (-1), .int .i64 0, .int .i64 0, .int .i64 0, .int .i64 (-1), .int .i64 (-1)] 23 (0, 0)) (by (with_reducible repeat (first | refine blk_drewN ?_ _ | refine blk_drew ?_ | refine blk_alloc ?_ _)); exact BK158.out) hb)
                    have n3_ := Aside0.mk (below_step (by repeat (first | (with_reducible first | exact HB.out | apply below_alloc | apply pw_below_drewN | apply below_drew1 | refine below_set ?_ GE156.out | refine below_set ?_ GE157.out | refine below_set ?_ GE158.out) | exact HB.out)) hb)
                    clear BK156
                    clear BK157
                    clear BK158
                    clear HB
                    have BK156 := n0_
                    have BK157 := n1_
                    have BK158 := n2_
                    have HB := n3_
                    clear n0_ n1_ n2_ n3_
                    (try clear hb)
                    (try clear hb2)
                    (try clear hk)
                    (try clear hi)
                    refine hK.out _ _ ⟨(blk_cell BK156.out 0).trans rfl, (blk_cell BK156.out 1).trans rfl, (blk_cell BK156.out 2).trans rfl, (blk_cell BK156.out 3).trans rfl, (blk_cell BK156.out 4).trans rfl, (blk_cell BK156.out 5).trans rfl, (blk_cell BK156.out 6).trans rfl, (blk_cell BK156.out 7).trans rfl, (blk_cell BK156.out 8).trans rfl, (blk_cell BK156.out 9).trans rfl, (blk_cell BK156.out 10).trans rfl, (blk_cell BK156.out 11).trans rfl, (blk_cell BK156.out 12).trans rfl, (blk_cell BK156.out 13).trans rfl, (blk_cell BK156.out 14).trans rfl, (blk_cell BK156.out 15).trans rfl, (blk_cell BK156.out 16).trans rfl, (blk_cell BK156.out 17).trans rfl, (blk_cell BK156.out 18).trans rfl, (blk_cell BK156.out 19).trans rfl, (blk_cell BK156.out 20).trans rfl, (blk_cell BK158.out 0).trans rfl, (blk_cell BK158.out 1).trans rfl, (blk_cell BK158.out 2).trans rfl, (blk_cell BK158.out 3).trans rfl, (blk_cell BK158.out 4).trans rfl, (blk_cell BK158.out 5).trans rfl, (blk_cell BK158.out 6).trans rfl, (blk_cell BK158.out 7).trans rfl, (blk_cell BK158.out 8).trans rfl, (blk_cell BK158.out 9).trans rfl, (blk_cell BK158.out 10).trans rfl, (blk_cell BK158.out 11).trans rfl, (blk_cell BK158.out 12).trans rfl⟩ (fun hHeld => ?_)
                    clear hK K
                    refine norm_ (a' := ?_) ?_ ?_
                    rotate_left
                    · show Act.put _ (some 89) _ = _
                      simp only [Act.put, List.setIfInBounds_toArray, List.set_cons_zero, List.set_cons_succ, i64_w, i32_w]
                      rfl
                    refine pure_ (i := 10) (N := some 11) (v := ?_) (a' := ?_) #[true, true, true, true, true, true, true, true, true, true, true, false] rfl rfl (any_of HT_.out (by kernel_rfl)) (fun _ _ _ h => h) (Or.inl ⟨by rfl, ?_⟩) ?_ ?_
                    rotate_left
                    · intro w'
                      go_simp
                      with_reducible rfl
                    rotate_left
                    · simp only [Act.put, List.setIfInBounds_toArray, List.set_cons_zero, List.set_cons_succ, i64_w, i32_w]
                      rfl
                    refine pure_ (i := 11) (N := some 12) (v := ?_) (a' := ?_) #[true, true, true, true, true, true, true, true, true, true, true, true] rfl rfl (any_of HT_.out (by kernel_rfl)) (fun _ _ _ h => h) (Or.inl ⟨by rfl, ?_⟩) ?_ ?_
                    rotate_left
                    · intro w'
                      go_simp
                      with_reducible rfl
                    rotate_left
                    · simp only [Act.put, List.setIfInBounds_toArray, List.set_cons_zero, List.set_cons_succ, i64_w, i32_w]
                      rfl
                    refine done_ (done_of HT_.out (by kernel_rfl)) ?_
                    have hnb52 := NB156_157.out
                    have hnc52 := NB157_156.out
                    have hnb53 := NB156_158.out
                    have hnc53 := NB158_156.out
                    have hcz54_0 : w51.cell? ⟨gb156, 0, none⟩ = some (.int .i64 a0_0) := (blk_cell BK156.out 0).trans rfl
                    have hcz54_1 : w51.cell? ⟨gb156, 1, none⟩ = some (.bool a0_1) := (blk_cell BK156.out 1).trans rfl
                    have hcz54_2 : w51.cell? ⟨gb156, 2, none⟩ = some (.bool true) := (blk_cell BK156.out 2).trans rfl
                    have hcz54_3 : w51.cell? ⟨gb156, 3, none⟩ = some (.bool a0_3) := (blk_cell BK156.out 3).trans rfl
                    have hcz54_4 : w51.cell? ⟨gb156, 4, none⟩ = some (.bool a0_4) := (blk_cell BK156.out 4).trans rfl
                    have hcz54_5 : w51.cell? ⟨gb156, 5, none⟩ = some (.bool a0_5) := (blk_cell BK156.out 5).trans rfl
                    have hcz54_6 : w51.cell? ⟨gb156, 6, none⟩ = some (.bool a0_6) := (blk_cell BK156.out 6).trans rfl
                    have hcz54_7 : w51.cell? ⟨gb156, 7, none⟩ = some (.bool a0_7) := (blk_cell BK156.out 7).trans rfl
                    have hcz54_8 : w51.cell? ⟨gb156, 8, none⟩ = some (.int .i64 a0_8) := (blk_cell BK156.out 8).trans rfl
                    have hcz54_9 : w51.cell? ⟨gb156, 9, none⟩ = some (.int .i64 a0_9) := (blk_cell BK156.out 9).trans rfl
                    have hcz54_10 : w51.cell? ⟨gb156, 10, none⟩ = some (.int .i64 a0_10) := (blk_cell BK156.out 10).trans rfl
                    have hcz54_11 : w51.cell? ⟨gb156, 11, none⟩ = some (.int .i64 a0_11) := (blk_cell BK156.out 11).trans rfl
                    have hcz54_12 : w51.cell? ⟨gb156, 12, none⟩ = some (.int .i64 a0_12) := (blk_cell BK156.out 12).trans rfl
                    have hcz54_13 : w51.cell? ⟨gb156, 13, none⟩ = some (.int .i64 a0_13) := (blk_cell BK156.out 13).trans rfl
                    have hcz54_14 : w51.cell? ⟨gb156, 14, none⟩ = some (.int .i64 x157014_19) := (blk_cell BK156.out 14).trans rfl
                    have hcz54_15 : w51.cell? ⟨gb156, 15, none⟩ = some (.int .i64 a0_15) := (blk_cell BK156.out 15).trans rfl
                    have hcz54_16 : w51.cell? ⟨gb156, 16, none⟩ = some (.int .i64 a0_16) := (blk_cell BK156.out 16).trans rfl
                    have hcz54_17 : w51.cell? ⟨gb156, 17, none⟩ = some (.int .i64 x157017_19) := (blk_cell BK156.out 17).trans rfl
                    have hcz54_18 : w51.cell? ⟨gb156, 18, none⟩ = some (.int .i64 x157018_19) := (blk_cell BK156.out 18).trans rfl
                    have hcz54_19 : w51.cell? ⟨gb156, 19, none⟩ = some (.int .i64 x157019_19) := (blk_cell BK156.out 19).trans rfl
                    have hcz54_20 : w51.cell? ⟨gb156, 20, none⟩ = some (.string a0_20) := (blk_cell BK156.out 20).trans rfl
                    have hfz54_0 := blk_frozen BK156.out 0
                    have hfz54_1 := blk_frozen BK156.out 1
                    have hfz54_2 := blk_frozen BK156.out 2
                    have hfz54_3 := blk_frozen BK156.out 3
                    have hfz54_4 := blk_frozen BK156.out 4
                    have hfz54_5 := blk_frozen BK156.out 5
                    have hfz54_6 := blk_frozen BK156.out 6
                    have hfz54_7 := blk_frozen BK156.out 7
                    have hfz54_8 := blk_frozen BK156.out 8
                    have hfz54_9 := blk_frozen BK156.out 9
                    have hfz54_10 := blk_frozen BK156.out 10
                    have hfz54_11 := blk_frozen BK156.out 11
                    have hfz54_12 := blk_frozen BK156.out 12
                    have hfz54_13 := blk_frozen BK156.out 13
                    have hfz54_14 := blk_frozen BK156.out 14
                    have hfz54_15 := blk_frozen BK156.out 15
                    have hfz54_16 := blk_frozen BK156.out 16
                    have hfz54_17 := blk_frozen BK156.out 17
                    have hfz54_18 := blk_frozen BK156.out 18
                    have hfz54_19 := blk_frozen BK156.out 19
                    have hfz54_20 := blk_frozen BK156.out 20
                    try go_wp2_with (first | ((first | (with_reducible refine gate_dst (N := 63) rfl ?_) | (with_reducible refine gate_dst (N := 66) rfl ?_) | (with_reducible refine gate_dst (N := 80) rfl ?_) | (with_reducible refine gate_dst (N := 84) rfl ?_)); refine wpList_load_mid rfl 25 (.tmp 2) rfl _ _ (by rfl) [_, _, _, _, _, _, _, _, _, _, _, _, _, _, _, _, _, _, _, _, _] _ (cellsAt_range _ (by (repeat (refine ⟨by assumption, ?_⟩)); exact trivial)) Try.underlying25 rfl (by kernel_rfl) ?_) | ((first | (with_reducible refine gate_dst (N := 81) rfl ?_) | (with_reducible refine gate_dst (N := 85) rfl ?_)); refine wpList_load_mid rfl 23 (.tmp 8) rfl _ _ (by rfl) [_, _, _, _, _, _, _, _, _, _, _, _, _] _ (cellsAt_range _ (by (repeat (refine ⟨by assumption, ?_⟩)); exact trivial)) Try.underlying23 rfl (by kernel_rfl) ?_) | ((with_reducible refine gate_dst (N := 100) rfl ?_); refine wpList_load_midG rfl 25 (.tmp 2) rfl _ _ (by rfl) [_, _, _, _, _, _, _, _, _, _, _, _, _, _, _, _, _, _, _, _, _] _ (cellsAt_range _ (by (repeat (refine ⟨by assumption, ?_⟩)); exact trivial)) Try.underlying25 rfl (by kernel_rfl) ?_))
                    go_ret
                    exact ⟨by first | rfl | (simp [errW_none, errW_some] <;> rfl) | (simp [*, errW_none, errW_some] <;> rfl), by repeat (first | (with_reducible first | exact HB.out | apply below_alloc | apply pw_below_drewN | apply below_drew1 | refine below_set ?_ GE156.out | refine below_set ?_ GE157.out | refine below_set ?_ GE158.out) | exact HB.out)⟩
                  · replace c48 := Bool.eq_false_iff.mpr c48
                    subst c48
                    have H1 : ((fresh_Lifetime.f kj25 a0_0 a0_1 false a0_3 a0_4 a0_5 a0_6 a0_7 a0_8 a0_9 a0_10 a0_11 a0_12 a0_13 x157014_19 a0_15 a0_16 x157017_19 x157018_19 x157019_19 a0_20).bind fun t164 => (some ((t162 == 0) == (decide (t159 < t164))))) = some r := by rw [if_neg (show ¬ (false = true) by decide)] at H; exact H
                    clear H
                    have H := H1
                    clear H1
                    replace H := Option.bind_eq_some_iff.mp H
                    obtain ⟨t164, A550, H⟩ := H
                    replace H : (some ((t162 == 0) == (decide (t159 < t164)))) = some r := H
                    have A55 := Aside0.mk A550
                    clear A550
                    obtain rfl := Option.some.inj H
                    try go_wp2_with (first | ((first | (with_reducible refine gate_dst (N := 63) rfl ?_) | (with_reducible refine gate_dst (N := 66) rfl ?_) | (with_reducible refine gate_dst (N := 80) rfl ?_) | (with_reducible refine gate_dst (N := 84) rfl ?_)); refine wpList_load_mid rfl 25 (.tmp 2) rfl _ _ (by rfl) [_, _, _, _, _, _, _, _, _, _, _, _, _, _, _, _, _, _, _, _, _] _ (cellsAt_range _ (by (repeat (refine ⟨by assumption, ?_⟩)); exact trivial)) Try.underlying25 rfl (by kernel_rfl) ?_) | ((first | (with_reducible refine gate_dst (N := 81) rfl ?_) | (with_reducible refine gate_dst (N := 85) rfl ?_)); refine wpList_load_mid rfl 23 (.tmp 8) rfl _ _ (by rfl) [_, _, _, _, _, _, _, _, _, _, _, _, _] _ (cellsAt_range _ (by (repeat (refine ⟨by assumption, ?_⟩)); exact trivial)) Try.underlying23 rfl (by kernel_rfl) ?_) | ((with_reducible refine gate_dst (N := 100) rfl ?_); refine wpList_load_midG rfl 25 (.tmp 2) rfl _ _ (by rfl) [_, _, _, _, _, _, _, _, _, _, _, _, _, _, _, _, _, _, _, _, _] _ (cellsAt_range _ (by (repeat (refine ⟨by assumption, ?_⟩)); exact trivial)) Try.underlying25 rfl (by kernel_rfl) ?_))
                    have n0_ := Aside0.mk (blk_drew BK156.out)
                    have n1_ := Aside0.mk (blk_drew BK157.out)
                    have n2_ := Aside0.mk (blk_drew BK158.out)
                    have n3_ := Aside0.mk (below_drew1 HB.out)
                    clear BK156
                    clear BK157
                    clear BK158
                    clear HB
                    have BK156 := n0_
                    have BK157 := n1_
                    have BK158 := n2_
                    have HB := n3_
                    clear n0_ n1_ n2_ n3_
                    refine start_ (n := 12) (S := fun w' => w'.cell? ⟨gb156, 0, none⟩ = some (.int .i64 a0_0) ∧ w'.cell? ⟨gb156, 1, none⟩ = some (.bool a0_1) ∧ w'.cell? ⟨gb156, 2, none⟩ = some (.bool false) ∧ w'.cell? ⟨gb156, 3, none⟩ = some (.bool a0_3) ∧ w'.cell? ⟨gb156, 4, none⟩ = some (.bool a0_4) ∧ w'.cell? ⟨gb156, 5, none⟩ = some (.bool a0_5) ∧ w'.cell? ⟨gb156, 6, none⟩ = some (.bool a0_6) ∧ w'.cell? ⟨gb156, 7, none⟩ = some (.bool a0_7) ∧ w'.cell? ⟨gb156, 8, none⟩ = some (.int .i64 a0_8) ∧ w'.cell? ⟨gb156, 9, none⟩ = some (.int .i64 a0_9) ∧ w'.cell? ⟨gb156, 10, none⟩ = some (.int .i64 a0_10) ∧ w'.cell? ⟨gb156, 11, none⟩ = some (.int .i64 a0_11) ∧ w'.cell? ⟨gb156, 12, none⟩ = some (.int .i64 a0_12) ∧ w'.cell? ⟨gb156, 13, none⟩ = some (.int .i64 a0_13) ∧ w'.cell? ⟨gb156, 14, none⟩ = some (.int .i64 x157014_19) ∧ w'.cell? ⟨gb156, 15, none⟩ = some (.int .i64 a0_15) ∧ w'.cell? ⟨gb156, 16, none⟩ = some (.int .i64 a0_16) ∧ w'.cell? ⟨gb156, 17, none⟩ = some (.int .i64 x157017_19) ∧ w'.cell? ⟨gb156, 18, none⟩ = some (.int .i64 x157018_19) ∧ w'.cell? ⟨gb156, 19, none⟩ = some (.int .i64 x157019_19) ∧ w'.cell? ⟨gb156, 20, none⟩ = some (.string a0_20) ∧ w'.cell? ⟨gb158, 0, none⟩ = some (.bool false) ∧ w'.cell? ⟨gb158, 1, none⟩ = some (.bool false) ∧ w'.cell? ⟨gb158, 2, none⟩ = some (.bool false) ∧ w'.cell? ⟨gb158, 3, none⟩ = some (.bool false) ∧ w'.cell? ⟨gb158, 4, none⟩ = some (.bool false) ∧ w'.cell? ⟨gb158, 5, none⟩ = some (.bool false) ∧ w'.cell? ⟨gb158, 6, none⟩ = some (.bool false) ∧ w'.cell? ⟨gb158, 7, none⟩ = some (.int .i64 (-1)) ∧ w'.cell? ⟨gb158, 8, none⟩ = some (.int .i64 0) ∧ w'.cell? ⟨gb158, 9, none⟩ = some (.int .i64 0) ∧ w'.cell? ⟨gb158, 10, none⟩ = some (.int .i64 0) ∧ w'.cell? ⟨gb158, 11, none⟩ = some (.int .i64 (-1)) ∧ w'.cell? ⟨gb158, 12, none⟩ = some (.int .i64 (-1))) (ds := []) #[false, false, false, false, false, false, false, false, false, false, false, false] (by kernel_rfl) rfl rfl ⟨(blk_cell BK156.out 0).trans rfl, (blk_cell BK156.out 1).trans rfl, (blk_cell BK156.out 2).trans rfl, (blk_cell BK156.out 3).trans rfl, (blk_cell BK156.out 4).trans rfl, (blk_cell BK156.out 5).trans rfl, (blk_cell BK156.out 6).trans rfl, (blk_cell BK156.out 7).trans rfl, (blk_cell BK156.out 8).trans rfl, (blk_cell BK156.out 9).trans rfl, (blk_cell BK156.out 10).trans rfl, (blk_cell BK156.out 11).trans rfl, (blk_cell BK156.out 12).trans rfl, (blk_cell BK156.out 13).trans rfl, (blk_cell BK156.out 14).trans rfl, (blk_cell BK156.out 15).trans rfl, (blk_cell BK156.out 16).trans rfl, (blk_cell BK156.out 17).trans rfl, (blk_cell BK156.out 18).trans rfl, (blk_cell BK156.out 19).trans rfl, (blk_cell BK156.out 20).trans rfl, (blk_cell BK158.out 0).trans rfl, (blk_cell BK158.out 1).trans rfl, (blk_cell BK158.out 2).trans rfl, (blk_cell BK158.out 3).trans rfl, (blk_cell BK158.out 4).trans rfl, (blk_cell BK158.out 5).trans rfl, (blk_cell BK158.out 6).trans rfl, (blk_cell BK158.out 7).trans rfl, (blk_cell BK158.out 8).trans rfl, (blk_cell BK158.out 9).trans rfl, (blk_cell BK158.out 10).trans rfl, (blk_cell BK158.out 11).trans rfl, (blk_cell BK158.out 12).trans rfl⟩ (fun hHeld => ?_); refine with_tabW gatepostlaw09_FreshGrows.tab9 gatepostlaw09_FreshGrows.bits9 (fun HT_ HW_ => ?_)
                    generalize wc.drew = w56 at BK156 BK157 BK158 HB hHeld ⊢
                    refine pure_ (i := 2) (N := some 82) (v := ?_) (a' := ?_) #[false, false, true, false, false, false, false, false, false, false, false, false] rfl rfl (any_of HT_.out (by kernel_rfl)) (fun _ _ _ h => h) (Or.inl ⟨by rfl, ?_⟩) ?_ ?_
                    rotate_left
                    · intro w'
                      go_simp
                      with_reducible rfl
                    rotate_left
                    · simp only [Act.put, List.setIfInBounds_toArray, List.set_cons_zero, List.set_cons_succ, i64_w, i32_w]
                      rfl
                    refine pure_ (i := 6) (N := some 86) (v := ?_) (a' := ?_) #[false, false, true, false, false, false, true, false, false, false, false, false] rfl rfl (any_of HT_.out (by kernel_rfl)) (fun _ _ _ h => h) (Or.inl ⟨by rfl, ?_⟩) ?_ ?_
                    rotate_left
                    · intro w'
                      go_simp
                      with_reducible rfl
                    rotate_left
                    · simp only [Act.put, List.setIfInBounds_toArray, List.set_cons_zero, List.set_cons_succ, i64_w, i32_w]
                      rfl
                    refine pure_ (i := 7) (N := some 87) (v := ?_) (a' := ?_) #[false, false, true, false, false, false, true, true, false, false, false, false] rfl rfl (any_of HT_.out (by kernel_rfl)) (fun _ _ _ h => h) (Or.inl ⟨by rfl, ?_⟩) ?_ ?_
                    rotate_left
                    · intro w'
                      go_simp
                      with_reducible rfl
                    rotate_left
                    · simp only [Act.put, List.setIfInBounds_toArray, List.set_cons_zero, List.set_cons_succ, i64_w, i32_w]
                      rfl
                    refine pure_ (i := 8) (N := some 88) (v := ?_) (a' := ?_) #[false, false, true, false, false, false, true, true, true, false, false, false] rfl rfl (any_of HT_.out (by kernel_rfl)) (fun _ _ _ h => h) (Or.inl ⟨by rfl, ?_⟩) ?_ ?_
                    rotate_left
                    · intro w'
                      go_simp
                      with_reducible rfl
                    rotate_left
                    · simp only [Act.put, List.setIfInBounds_toArray, List.set_cons_zero, List.set_cons_succ, i64_w, i32_w]
                      rfl
                    refine take_ (i := 0) (N := some 80) (v := ?_) (a' := ?_) #[true, false, true, false, false, false, true, true, true, false, false, false] rfl rfl (take_ofW HT_.out HW_.out (by kernel_rfl)) (fun _ _ _ h => h) (Or.inl ⟨by rfl, ?_⟩) hHeld ?_ ?_
                    rotate_left
                    · rintro w' ⟨s0, s1, s2, s3, s4, s5, s6, s7, s8, s9, s10, s11, s12, s13, s14, s15, s16, s17, s18, s19, s20, s21, s22, s23, s24, s25, s26, s27, s28, s29, s30, s31, s32, s33⟩
                      first
                        | (refine (load_whole (by rfl) gb156 0 (by rfl) [.int .i64 a0_0, .bool a0_1, .bool false, .bool a0_3, .bool a0_4, .bool a0_5, .bool a0_6, .bool a0_7, .int .i64 a0_8, .int .i64 a0_9, .int .i64 a0_10, .int .i64 a0_11, .int .i64 a0_12, .int .i64 a0_13, .int .i64 x157014_19, .int .i64 a0_15, .int .i64 a0_16, .int .i64 x157017_19, .int .i64 x157018_19, .int .i64 x157019_19, .string a0_20] Try.underlying25 rfl (by kernel_rfl) ⟨s0, s1, s2, s3, s4, s5, s6, s7, s8, s9, s10, s11, s12, s13, s14, s15, s16, s17, s18, s19, s20, trivial⟩).trans ?_; with_reducible rfl)
                        | (go_simp; with_reducible rfl)
                    rotate_left
                    · simp only [Act.put, List.setIfInBounds_toArray, List.set_cons_zero, List.set_cons_succ, i64_w, i32_w]
                      rfl
                    refine take_ (i := 1) (N := some 81) (v := ?_) (a' := ?_) #[true, true, true, false, false, false, true, true, true, false, false, false] rfl rfl (take_ofW HT_.out HW_.out (by kernel_rfl)) (fun _ _ _ h => h) (Or.inl ⟨by rfl, ?_⟩) hHeld ?_ ?_
                    rotate_left
                    · rintro w' ⟨s0, s1, s2, s3, s4, s5, s6, s7, s8, s9, s10, s11, s12, s13, s14, s15, s16, s17, s18, s19, s20, s21, s22, s23, s24, s25, s26, s27, s28, s29, s30, s31, s32, s33⟩
                      first
                        | (refine (load_whole (by rfl) gb156 1 (by rfl) [.bool a0_1, .bool false, .bool a0_3, .bool a0_4, .bool a0_5, .bool a0_6, .bool a0_7, .int .i64 a0_8, .int .i64 a0_9, .int .i64 a0_10, .int .i64 a0_11, .int .i64 a0_12, .int .i64 a0_13] Try.underlying23 rfl (by kernel_rfl) ⟨s1, s2, s3, s4, s5, s6, s7, s8, s9, s10, s11, s12, s13, trivial⟩).trans ?_; with_reducible rfl)
                        | (refine (load_whole (by rfl) gb158 0 (by rfl) [.bool false, .bool false, .bool false, .bool false, .bool false, .bool false, .bool false, .int .i64 (-1), .int .i64 0, .int .i64 0, .int .i64 0, .int .i64 (-1), .int .i64 (-1)] Try.underlying23 rfl (by kernel_rfl) ⟨s21, s22, s23, s24, s25, s26, s27, s28, s29, s30, s31, s32, s33, trivial⟩).trans ?_; with_reducible rfl)
                        | (go_simp; with_reducible rfl)
                    rotate_left
                    · simp only [Act.put, List.setIfInBounds_toArray, List.set_cons_zero, List.set_cons_succ, i64_w, i32_w]
                      rfl
                    refine take_ (i := 4) (N := some 84) (v := ?_) (a' := ?_) #[true, true, true, false, true, false, true, true, true, false, false, false] rfl rfl (take_ofW HT_.out HW_.out (by kernel_rfl)) (fun _ _ _ h => h) (Or.inl ⟨by rfl, ?_⟩) hHeld ?_ ?_
                    rotate_left
                    · rintro w' ⟨s0, s1, s2, s3, s4, s5, s6, s7, s8, s9, s10, s11, s12, s13, s14, s15, s16, s17, s18, s19, s20, s21, s22, s23, s24, s25, s26, s27, s28, s29, s30, s31, s32, s33⟩
                      first
                        | (refine (load_whole (by rfl) gb156 0 (by rfl) [.int .i64 a0_0, .bool a0_1, .bool false, .bool a0_3, .bool a0_4, .bool a0_5, .bool a0_6, .bool a0_7, .int .i64 a0_8, .int .i64 a0_9, .int .i64 a0_10, .int .i64 a0_11, .int .i64 a0_12, .int .i64 a0_13, .int .i64 x157014_19, .int .i64 a0_15, .int .i64 a0_16, .int .i64 x157017_19, .int .i64 x157018_19, .int .i64 x157019_19, .string a0_20] Try.underlying25 rfl (by kernel_rfl) ⟨s0, s1, s2, s3, s4, s5, s6, s7, s8, s9, s10, s11, s12, s13, s14, s15, s16, s17, s18, s19, s20, trivial⟩).trans ?_; with_reducible rfl)
                        | (go_simp; with_reducible rfl)
                    rotate_left
                    · simp only [Act.put, List.setIfInBounds_toArray, List.set_cons_zero, List.set_cons_succ, i64_w, i32_w]
                      rfl
                    refine take_ (i := 5) (N := some 85) (v := ?_) (a' := ?_) #[true, true, true, false, true, true, true, true, true, false, false, false] rfl rfl (take_ofW HT_.out HW_.out (by kernel_rfl)) (fun _ _ _ h => h) (Or.inl ⟨by rfl, ?_⟩) hHeld ?_ ?_
                    rotate_left
                    · rintro w' ⟨s0, s1, s2, s3, s4, s5, s6, s7, s8, s9, s10, s11, s12, s13, s14, s15, s16, s17, s18, s19, s20, s21, s22, s23, s24, s25, s26, s27, s28, s29, s30, s31, s32, s33⟩
                      first
                        | (refine (load_whole (by rfl) gb156 1 (by rfl) [.bool a0_1, .bool false, .bool a0_3, .bool a0_4, .bool a0_5, .bool a0_6, .bool a0_7, .int .i64 a0_8, .int .i64 a0_9, .int .i64 a0_10, .int .i64 a0_11, .int .i64 a0_12, .int .i64 a0_13] Try.underlying23 rfl (by kernel_rfl) ⟨s1, s2, s3, s4, s5, s6, s7, s8, s9, s10, s11, s12, s13, trivial⟩).trans ?_; with_reducible rfl)
                        | (refine (load_whole (by rfl) gb158 0 (by rfl) [.bool false, .bool false, .bool false, .bool false, .bool false, .bool false, .bool false, .int .i64 (-1), .int .i64 0, .int .i64 0, .int .i64 0, .int .i64 (-1), .int .i64 (-1)] Try.underlying23 rfl (by kernel_rfl) ⟨s21, s22, s23, s24, s25, s26, s27, s28, s29, s30, s31, s32, s33, trivial⟩).trans ?_; with_reducible rfl)
                        | (go_simp; with_reducible rfl)
                    rotate_left
                    · simp only [Act.put, List.setIfInBounds_toArray, List.set_cons_zero, List.set_cons_succ, i64_w, i32_w]
                      rfl
                    refine one_ (i := 3) (N := some 83) #[true, true, true, true, true, true, true, true, true, false, false, false] rfl rfl (one_of HT_.out (by kernel_rfl)) (by decide) (fun K hK => ?_)
                    refine goes_ Try.func13 (by kernel_rfl) rfl #[.agg #[.int .i64 a0_0, .bool a0_1, .bool false, .bool a0_3, .bool a0_4, .bool a0_5, .bool a0_6, .bool a0_7, .int .i64 a0_8, .int .i64 a0_9, .int .i64 a0_10, .int .i64 a0_11, .int .i64 a0_12, .int .i64 a0_13, .int .i64 x157014_19, .int .i64 a0_15, .int .i64 a0_16, .int .i64 x157017_19, .int .i64 x157018_19, .int .i64 x157019_19, .string a0_20], .agg #[.bool false, .bool false, .bool false, .bool false, .bool false, .bool false, .bool false, .int .i64 (-1), .int .i64 0, .int .i64 0, .int .i64 0, .int .i64 (-1), .int .i64 (-1)], .int .i64 (wrap64 (x157019_19 + (Go.bits .and .i64 a1_0 1048575)))] (by rfl) rfl rfl (by (try simp only [List.map_toArray, List.map_cons, List.map_nil]); first | done | rfl | (simp only [List.length_drop, List.length_take]; rfl)) ?_
                    with_reducible refine (fresh_State.calls kj25 a0_0 a0_1 false a0_3 a0_4 a0_5 a0_6 a0_7 a0_8 a0_9 a0_10 a0_11 a0_12 a0_13 x157014_19 a0_15 a0_16 x157017_19 x157018_19 x157019_19 a0_20 false false false false false false false (-1) 0 0 0 (-1) (-1) (wrap64 (x157019_19 + (Go.bits .and .i64 a1_0 1048575))) t162 _ A42.out).mono ?_
                    rintro e w57 ⟨rfl, hb⟩
                    refine ⟨_, rfl, ?_⟩
                    have n0_ := Aside0.mk (blk_below (g := gb156) (o := .cells #[.int .i64 a0_0, .bool a0_1, .bool false, .bool a0_3, .bool a0_4, .bool a0_5, .bool a0_6, .bool a0_7, .int .i64 a0_8, .int .i64 a0_9, .int .i64 a0_10, .int .i64 a0_11, .int .i64 a0_12, .int .i64 a0_13, .int .i64 x157014_19, .int .i64 a0_15, .int .i64 a0_16, .int .i64 x157017_19, .int .i64 x157018_19, .int .i64 x157019_19, .string a0_20] 25 (0, 0)) (by (with_reducible repeat (first | refine blk_drewN ?_ _ | refine blk_drew ?_ | refine blk_alloc ?_ _)); exact BK156.out) hb)
                    have n1_ := Aside0.mk (blk_below (g := gb157) (o := .cells #[.int .i64 a1_0, .int .i64 a1_1] 32 (0, 0)) (by (with_reducible repeat (first | refine blk_drewN ?_ _ | refine blk_drew ?_ | refine blk_alloc ?_ _)); exact BK157.out) hb)
                    have n2_ := Aside0.mk (blk_below (g := gb158) (o := .cells #[.bool false, .bool false, .bool false, .bool false, .bool false, .bool false, .bool false, .int .i64 (-1), .int .i64 0, .int .i64 0, .int .i64 0, .int .i64 (-1), .int .i64 (-1)] 23 (0, 0)) (by (with_reducible repeat (first | refine blk_drewN ?_ _ | refine blk_drew ?_ | refine blk_alloc ?_ _)); exact BK158.out) hb)
                    have n3_ := Aside0.mk (below_step (by repeat (first | (with_reducible first | exact HB.out | apply below_alloc | apply pw_below_drewN | apply below_drew1 | refine below_set ?_ GE156.out | refine below_set ?_ GE157.out | refine below_set ?_ GE158.out) | exact HB.out)) hb)
                    clear BK156
                    clear BK157
                    clear BK158
                    clear HB
                    have BK156 := n0_
                    have BK157 := n1_
                    have BK158 := n2_
                    have HB := n3_
                    clear n0_ n1_ n2_ n3_
                    (try clear hb)
                    (try clear hb2)
                    (try clear hk)
                    (try clear hi)
                    refine hK.out _ _ ⟨(blk_cell BK156.out 0).trans rfl, (blk_cell BK156.out 1).trans rfl, (blk_cell BK156.out 2).trans rfl, (blk_cell BK156.out 3).trans rfl, (blk_cell BK156.out 4).trans rfl, (blk_cell BK156.out 5).trans rfl, (blk_cell BK156.out 6).trans rfl, (blk_cell BK156.out 7).trans rfl, (blk_cell BK156.out 8).trans rfl, (blk_cell BK156.out 9).trans rfl, (blk_cell BK156.out 10).trans rfl, (blk_cell BK156.out 11).trans rfl, (blk_cell BK156.out 12).trans rfl, (blk_cell BK156.out 13).trans rfl, (blk_cell BK156.out 14).trans rfl, (blk_cell BK156.out 15).trans rfl, (blk_cell BK156.out 16).trans rfl, (blk_cell BK156.out 17).trans rfl, (blk_cell BK156.out 18).trans rfl, (blk_cell BK156.out 19).trans rfl, (blk_cell BK156.out 20).trans rfl, (blk_cell BK158.out 0).trans rfl, (blk_cell BK158.out 1).trans rfl, (blk_cell BK158.out 2).trans rfl, (blk_cell BK158.out 3).trans rfl, (blk_cell BK158.out 4).trans rfl, (blk_cell BK158.out 5).trans rfl, (blk_cell BK158.out 6).trans rfl, (blk_cell BK158.out 7).trans rfl, (blk_cell BK158.out 8).trans rfl, (blk_cell BK158.out 9).trans rfl, (blk_cell BK158.out 10).trans rfl, (blk_cell BK158.out 11).trans rfl, (blk_cell BK158.out 12).trans rfl⟩ (fun hHeld => ?_)
                    clear hK K
                    refine norm_ (a' := ?_) ?_ ?_
                    rotate_left
                    · show Act.put _ (some 83) _ = _
                      simp only [Act.put, List.setIfInBounds_toArray, List.set_cons_zero, List.set_cons_succ, i64_w, i32_w]
                      rfl
                    refine one_ (i := 9) (N := some 89) #[true, true, true, true, true, true, true, true, true, true, false, false] rfl rfl (one_of HT_.out (by kernel_rfl)) (by decide) (fun K hK => ?_)
                    refine goes_ Try.func13 (by kernel_rfl) rfl #[.agg #[.int .i64 a0_0, .bool a0_1, .bool false, .bool a0_3, .bool a0_4, .bool a0_5, .bool a0_6, .bool a0_7, .int .i64 a0_8, .int .i64 a0_9, .int .i64 a0_10, .int .i64 a0_11, .int .i64 a0_12, .int .i64 a0_13, .int .i64 x157014_19, .int .i64 a0_15, .int .i64 a0_16, .int .i64 x157017_19, .int .i64 x157018_19, .int .i64 x157019_19, .string a0_20], .agg #[.bool false, .bool false, .bool false, .bool false, .bool false, .bool false, .bool false, .int .i64 (-1), .int .i64 0, .int .i64 0, .int .i64 0, .int .i64 (-1), .int .i64 (-1)], .int .i64 (wrap64 ((wrap64 (x157019_19 + (Go.bits .and .i64 a1_0 1048575))) + (Go.bits .and .i64 a1_1 1048575)))] (by rfl) rfl rfl (by (try simp only [List.map_toArray, List.map_cons, List.map_nil]); first | done | rfl | (simp only [List.length_drop, List.length_take]; rfl)) ?_
                    with_reducible refine (fresh_State.calls kj25 a0_0 a0_1 false a0_3 a0_4 a0_5 a0_6 a0_7 a0_8 a0_9 a0_10 a0_11 a0_12 a0_13 x157014_19 a0_15 a0_16 x157017_19 x157018_19 x157019_19 a0_20 false false false false false false false (-1) 0 0 0 (-1) (-1) (wrap64 ((wrap64 (x157019_19 + (Go.bits .and .i64 a1_0 1048575))) + (Go.bits .and .i64 a1_1 1048575))) t163 _ A43.out).mono ?_
                    rintro e w58 ⟨rfl, hb⟩
                    refine ⟨_, rfl, ?_⟩
                    have n0_ := Aside0.mk (blk_below (g := gb156) (o := .cells #[.int .i64 a0_0, .bool a0_1, .bool false, .bool a0_3, .bool a0_4, .bool a0_5, .bool a0_6, .bool a0_7, .int .i64 a0_8, .int .i64 a0_9, .int .i64 a0_10, .int .i64 a0_11, .int .i64 a0_12, .int .i64 a0_13, .int .i64 x157014_19, .int .i64 a0_15, .int .i64 a0_16, .int .i64 x157017_19, .int .i64 x157018_19, .int .i64 x157019_19, .string a0_20] 25 (0, 0)) (by (with_reducible repeat (first | refine blk_drewN ?_ _ | refine blk_drew ?_ | refine blk_alloc ?_ _)); exact BK156.out) hb)
                    have n1_ := Aside0.mk (blk_below (g := gb157) (o := .cells #[.int .i64 a1_0, .int .i64 a1_1] 32 (0, 0)) (by (with_reducible repeat (first | refine blk_drewN ?_ _ | refine blk_drew ?_ | refine blk_alloc ?_ _)); exact BK157.out) hb)
                    have n2_ := Aside0.mk (blk_below (g := gb158) (o := .cells #[.bool false, .bool false, .bool false, .bool false, .bool false, .bool false, .bool false, .int .i64 (-1), .int .i64 0, .int .i64 0, .int .i64 0, .int .i64 (-1), .int .i64 (-1)] 23 (0, 0)) (by (with_reducible repeat (first | refine blk_drewN ?_ _ | refine blk_drew ?_ | refine blk_alloc ?_ _)); exact BK158.out) hb)
                    have n3_ := Aside0.mk (below_step (by repeat (first | (with_reducible first | exact HB.out | apply below_alloc | apply pw_below_drewN | apply below_drew1 | refine below_set ?_ GE156.out | refine below_set ?_ GE157.out | refine below_set ?_ GE158.out) | exact HB.out)) hb)
                    clear BK156
                    clear BK157
                    clear BK158
                    clear HB
                    have BK156 := n0_
                    have BK157 := n1_
                    have BK158 := n2_
                    have HB := n3_
                    clear n0_ n1_ n2_ n3_
                    (try clear hb)
                    (try clear hb2)
                    (try clear hk)
                    (try clear hi)
                    refine hK.out _ _ ⟨(blk_cell BK156.out 0).trans rfl, (blk_cell BK156.out 1).trans rfl, (blk_cell BK156.out 2).trans rfl, (blk_cell BK156.out 3).trans rfl, (blk_cell BK156.out 4).trans rfl, (blk_cell BK156.out 5).trans rfl, (blk_cell BK156.out 6).trans rfl, (blk_cell BK156.out 7).trans rfl, (blk_cell BK156.out 8).trans rfl, (blk_cell BK156.out 9).trans rfl, (blk_cell BK156.out 10).trans rfl, (blk_cell BK156.out 11).trans rfl, (blk_cell BK156.out 12).trans rfl, (blk_cell BK156.out 13).trans rfl, (blk_cell BK156.out 14).trans rfl, (blk_cell BK156.out 15).trans rfl, (blk_cell BK156.out 16).trans rfl, (blk_cell BK156.out 17).trans rfl, (blk_cell BK156.out 18).trans rfl, (blk_cell BK156.out 19).trans rfl, (blk_cell BK156.out 20).trans rfl, (blk_cell BK158.out 0).trans rfl, (blk_cell BK158.out 1).trans rfl, (blk_cell BK158.out 2).trans rfl, (blk_cell BK158.out 3).trans rfl, (blk_cell BK158.out 4).trans rfl, (blk_cell BK158.out 5).trans rfl, (blk_cell BK158.out 6).trans rfl, (blk_cell BK158.out 7).trans rfl, (blk_cell BK158.out 8).trans rfl, (blk_cell BK158.out 9).trans rfl, (blk_cell BK158.out 10).trans rfl, (blk_cell BK158.out 11).trans rfl, (blk_cell BK158.out 12).trans rfl⟩ (fun hHeld => ?_)
                    clear hK K
                    refine norm_ (a' := ?_) ?_ ?_
                    rotate_left
                    · show Act.put _ (some 89) _ = _
                      simp only [Act.put, List.setIfInBounds_toArray, List.set_cons_zero, List.set_cons_succ, i64_w, i32_w]
                      rfl
                    refine pure_ (i := 10) (N := some 11) (v := ?_) (a' := ?_) #[true, true, true, true, true, true, true, true, true, true, true, false] rfl rfl (any_of HT_.out (by kernel_rfl)) (fun _ _ _ h => h) (Or.inl ⟨by rfl, ?_⟩) ?_ ?_
                    rotate_left
                    · intro w'
                      go_simp
                      with_reducible rfl
                    rotate_left
                    · simp only [Act.put, List.setIfInBounds_toArray, List.set_cons_zero, List.set_cons_succ, i64_w, i32_w]
                      rfl
                    refine pure_ (i := 11) (N := some 12) (v := ?_) (a' := ?_) #[true, true, true, true, true, true, true, true, true, true, true, true] rfl rfl (any_of HT_.out (by kernel_rfl)) (fun _ _ _ h => h) (Or.inl ⟨by rfl, ?_⟩) ?_ ?_
                    rotate_left
                    · intro w'
                      go_simp
                      with_reducible rfl
                    rotate_left
                    · simp only [Act.put, List.setIfInBounds_toArray, List.set_cons_zero, List.set_cons_succ, i64_w, i32_w]
                      rfl
                    refine done_ (done_of HT_.out (by kernel_rfl)) ?_
                    have hnb59 := NB156_157.out
                    have hnc59 := NB157_156.out
                    have hnb60 := NB156_158.out
                    have hnc60 := NB158_156.out
                    have hcz61_0 : w58.cell? ⟨gb156, 0, none⟩ = some (.int .i64 a0_0) := (blk_cell BK156.out 0).trans rfl
                    have hcz61_1 : w58.cell? ⟨gb156, 1, none⟩ = some (.bool a0_1) := (blk_cell BK156.out 1).trans rfl
                    have hcz61_2 : w58.cell? ⟨gb156, 2, none⟩ = some (.bool false) := (blk_cell BK156.out 2).trans rfl
                    have hcz61_3 : w58.cell? ⟨gb156, 3, none⟩ = some (.bool a0_3) := (blk_cell BK156.out 3).trans rfl
                    have hcz61_4 : w58.cell? ⟨gb156, 4, none⟩ = some (.bool a0_4) := (blk_cell BK156.out 4).trans rfl
                    have hcz61_5 : w58.cell? ⟨gb156, 5, none⟩ = some (.bool a0_5) := (blk_cell BK156.out 5).trans rfl
                    have hcz61_6 : w58.cell? ⟨gb156, 6, none⟩ = some (.bool a0_6) := (blk_cell BK156.out 6).trans rfl
                    have hcz61_7 : w58.cell? ⟨gb156, 7, none⟩ = some (.bool a0_7) := (blk_cell BK156.out 7).trans rfl
                    have hcz61_8 : w58.cell? ⟨gb156, 8, none⟩ = some (.int .i64 a0_8) := (blk_cell BK156.out 8).trans rfl
                    have hcz61_9 : w58.cell? ⟨gb156, 9, none⟩ = some (.int .i64 a0_9) := (blk_cell BK156.out 9).trans rfl
                    have hcz61_10 : w58.cell? ⟨gb156, 10, none⟩ = some (.int .i64 a0_10) := (blk_cell BK156.out 10).trans rfl
                    have hcz61_11 : w58.cell? ⟨gb156, 11, none⟩ = some (.int .i64 a0_11) := (blk_cell BK156.out 11).trans rfl
                    have hcz61_12 : w58.cell? ⟨gb156, 12, none⟩ = some (.int .i64 a0_12) := (blk_cell BK156.out 12).trans rfl
                    have hcz61_13 : w58.cell? ⟨gb156, 13, none⟩ = some (.int .i64 a0_13) := (blk_cell BK156.out 13).trans rfl
                    have hcz61_14 : w58.cell? ⟨gb156, 14, none⟩ = some (.int .i64 x157014_19) := (blk_cell BK156.out 14).trans rfl
                    have hcz61_15 : w58.cell? ⟨gb156, 15, none⟩ = some (.int .i64 a0_15) := (blk_cell BK156.out 15).trans rfl
                    have hcz61_16 : w58.cell? ⟨gb156, 16, none⟩ = some (.int .i64 a0_16) := (blk_cell BK156.out 16).trans rfl
                    have hcz61_17 : w58.cell? ⟨gb156, 17, none⟩ = some (.int .i64 x157017_19) := (blk_cell BK156.out 17).trans rfl
                    have hcz61_18 : w58.cell? ⟨gb156, 18, none⟩ = some (.int .i64 x157018_19) := (blk_cell BK156.out 18).trans rfl
                    have hcz61_19 : w58.cell? ⟨gb156, 19, none⟩ = some (.int .i64 x157019_19) := (blk_cell BK156.out 19).trans rfl
                    have hcz61_20 : w58.cell? ⟨gb156, 20, none⟩ = some (.string a0_20) := (blk_cell BK156.out 20).trans rfl
                    have hfz61_0 := blk_frozen BK156.out 0
                    have hfz61_1 := blk_frozen BK156.out 1
                    have hfz61_2 := blk_frozen BK156.out 2
                    have hfz61_3 := blk_frozen BK156.out 3
                    have hfz61_4 := blk_frozen BK156.out 4
                    have hfz61_5 := blk_frozen BK156.out 5
                    have hfz61_6 := blk_frozen BK156.out 6
                    have hfz61_7 := blk_frozen BK156.out 7
                    have hfz61_8 := blk_frozen BK156.out 8
                    have hfz61_9 := blk_frozen BK156.out 9
                    have hfz61_10 := blk_frozen BK156.out 10
                    have hfz61_11 := blk_frozen BK156.out 11
                    have hfz61_12 := blk_frozen BK156.out 12
                    have hfz61_13 := blk_frozen BK156.out 13
                    have hfz61_14 := blk_frozen BK156.out 14
                    have hfz61_15 := blk_frozen BK156.out 15
                    have hfz61_16 := blk_frozen BK156.out 16
                    have hfz61_17 := blk_frozen BK156.out 17
                    have hfz61_18 := blk_frozen BK156.out 18
                    have hfz61_19 := blk_frozen BK156.out 19
                    have hfz61_20 := blk_frozen BK156.out 20
                    try go_wp2_with (first | (go_at_call 11; (with_reducible refine (fresh_Lifetime.calls kj25 a0_0 a0_1 false a0_3 a0_4 a0_5 a0_6 a0_7 a0_8 a0_9 a0_10 a0_11 a0_12 a0_13 x157014_19 a0_15 a0_16 x157017_19 x157018_19 x157019_19 a0_20 t164 _ A55.out).mono ?_); rintro e w62 ⟨rfl, hb⟩; have n0_ := Aside0.mk (blk_below (g := gb156) (o := .cells #[.int .i64 a0_0, .bool a0_1, .bool false, .bool a0_3, .bool a0_4, .bool a0_5, .bool a0_6, .bool a0_7, .int .i64 a0_8, .int .i64 a0_9, .int .i64 a0_10, .int .i64 a0_11, .int .i64 a0_12, .int .i64 a0_13, .int .i64 x157014_19, .int .i64 a0_15, .int .i64 a0_16, .int .i64 x157017_19, .int .i64 x157018_19, .int .i64 x157019_19, .string a0_20] 25 (0, 0)) (by (with_reducible repeat (first | refine blk_drewN ?_ _ | refine blk_drew ?_ | refine blk_alloc ?_ _)); exact BK156.out) hb); have n1_ := Aside0.mk (blk_below (g := gb157) (o := .cells #[.int .i64 a1_0, .int .i64 a1_1] 32 (0, 0)) (by (with_reducible repeat (first | refine blk_drewN ?_ _ | refine blk_drew ?_ | refine blk_alloc ?_ _)); exact BK157.out) hb); have n2_ := Aside0.mk (blk_below (g := gb158) (o := .cells #[.bool false, .bool false, .bool false, .bool false, .bool false, .bool false, .bool false, .int .i64 (-1), .int .i64 0, .int .i64 0, .int .i64 0, .int .i64 (-1), .int .i64 (-1)] 23 (0, 0)) (by (with_reducible repeat (first | refine blk_drewN ?_ _ | refine blk_drew ?_ | refine blk_alloc ?_ _)); exact BK158.out) hb); have n3_ := Aside0.mk (below_step (by repeat (first | (with_reducible first | exact HB.out | apply below_alloc | apply pw_below_drewN | apply below_drew1 | refine below_set ?_ GE156.out | refine below_set ?_ GE157.out | refine below_set ?_ GE158.out) | exact HB.out)) hb); clear BK156; clear BK157; clear BK158; clear HB; have BK156 := n0_; have BK157 := n1_; have BK158 := n2_; have HB := n3_; clear n0_ n1_ n2_ n3_; (try clear hb); (try clear hb2); (try clear hk); (try clear hi)) | ((first | (with_reducible refine gate_dst (N := 63) rfl ?_) | (with_reducible refine gate_dst (N := 66) rfl ?_) | (with_reducible refine gate_dst (N := 80) rfl ?_) | (with_reducible refine gate_dst (N := 84) rfl ?_)); refine wpList_load_mid rfl 25 (.tmp 2) rfl _ _ (by rfl) [_, _, _, _, _, _, _, _, _, _, _, _, _, _, _, _, _, _, _, _, _] _ (cellsAt_range _ (by (repeat (refine ⟨by assumption, ?_⟩)); exact trivial)) Try.underlying25 rfl (by kernel_rfl) ?_) | ((first | (with_reducible refine gate_dst (N := 81) rfl ?_) | (with_reducible refine gate_dst (N := 85) rfl ?_)); refine wpList_load_mid rfl 23 (.tmp 8) rfl _ _ (by rfl) [_, _, _, _, _, _, _, _, _, _, _, _, _] _ (cellsAt_range _ (by (repeat (refine ⟨by assumption, ?_⟩)); exact trivial)) Try.underlying23 rfl (by kernel_rfl) ?_) | ((with_reducible refine gate_dst (N := 100) rfl ?_); refine wpList_load_midG rfl 25 (.tmp 2) rfl _ _ (by rfl) [_, _, _, _, _, _, _, _, _, _, _, _, _, _, _, _, _, _, _, _, _] _ (cellsAt_range _ (by (repeat (refine ⟨by assumption, ?_⟩)); exact trivial)) Try.underlying25 rfl (by kernel_rfl) ?_))
                    go_ret
                    exact ⟨by first | rfl | (simp [errW_none, errW_some] <;> rfl) | (simp [*, errW_none, errW_some] <;> rfl), by repeat (first | (with_reducible first | exact HB.out | apply below_alloc | apply pw_below_drewN | apply below_drew1 | refine below_set ?_ GE156.out | refine below_set ?_ GE157.out | refine below_set ?_ GE158.out) | exact HB.out)⟩

end Go.Proofs.Ytebjbkbjmdnblaa.Hp
