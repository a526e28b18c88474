/- A text written by our program hprint.py (walks of the program, and the row of a law whose plain law is proved beside it). Lean checks it. -/
import Derived.Test.YtebjbkbjmdnblaaHp0
import Derived.Test.YtebjbkbjmdnblaaHp1
import Derived.Test.YtebjbkbjmdnblaaHp4
import Derived.Test.YtebjbkbjmdnblaaHMore
namespace Go.Proofs.Ytebjbkbjmdnblaa.Hp
open Go.RowKit Go.Proofs.YtebjbkbjmdnblaaW.PrintWords Go.Proofs.YtebjbkbjmdnblaaW.PrintLast Go.Proofs.YtebjbkbjmdnblaaW.PrintMore
attribute [local go_sem] max2_int min2_int max_two min_two max_three min_three max_four min_four   -- for this text's walks alone
set_option linter.unusedVariables false
set_option linter.unusedSimpArgs false

/-! ### gatepostref09_State: function 14 -/
mutual
def gatepostref09_State.j0 : Nat → Int → Int → Bool → Int → Bool → Bool → Bool → Bool → Bool → Bool → Bool → Int → Int → Int → Int → Int → Int → Int → Int → Int → Int → Int → Int → ByteArray → Bool → Bool → Bool → Bool → Bool → Bool → Bool → Int → Int → Int → Int → Int → Int → Option (Int)
  | 0, _, _, _, _, _, _, _, _, _, _, _, _, _, _, _, _, _, _, _, _, _, _, _, _, _, _, _, _, _, _, _, _, _, _, _, _, _ => none
  | k + 1, x7, x8, x32, x142000, x142001, x142002, x142003, x142004, x142005, x142006, x142007, x142008, x142009, x142010, x142011, x142012, x142013, x142014, x142015, x142016, x142017, x142018, x142019, x142020, x143000, x143001, x143002, x143003, x143004, x143005, x143006, x143007, x143008, x143009, x143010, x143011, x143012 => if x32 = true then (some 2) else (if x7 < x8 then (if x143011 ≥ 0 then (if x143011 > (wrap64 (x8 - x7)) then (some 2) else (some 0)) else (some 0)) else (if x142005 = true then (gatepostref09_State.j1 k (wrap64 (x7 - x8)) true x142000 x142001 x142002 x142003 x142004 x142005 x142006 x142007 x142008 x142009 x142010 x142011 x142012 x142013 x142014 x142015 x142016 x142017 x142018 x142019 x142020 x143000 x143001 x143002 x143003 x143004 x143005 x143006 x143007 x143008 x143009 x143010 x143011 x143012) else (if x142006 = true then (gatepostref09_State.j1 k (wrap64 (x7 - x8)) true x142000 x142001 x142002 x142003 x142004 x142005 x142006 x142007 x142008 x142009 x142010 x142011 x142012 x142013 x142014 x142015 x142016 x142017 x142018 x142019 x142020 x143000 x143001 x143002 x143003 x143004 x143005 x143006 x143007 x143008 x143009 x143010 x143011 x143012) else (gatepostref09_State.j1 k (wrap64 (x7 - x8)) (decide (x142009 ≥ 0)) x142000 x142001 x142002 x142003 x142004 x142005 x142006 x142007 x142008 x142009 x142010 x142011 x142012 x142013 x142014 x142015 x142016 x142017 x142018 x142019 x142020 x143000 x143001 x143002 x143003 x143004 x143005 x143006 x143007 x143008 x143009 x143010 x143011 x143012))))
def gatepostref09_State.j1 : Nat → Int → Bool → Int → Bool → Bool → Bool → Bool → Bool → Bool → Bool → Int → Int → Int → Int → Int → Int → Int → Int → Int → Int → Int → Int → ByteArray → Bool → Bool → Bool → Bool → Bool → Bool → Bool → Int → Int → Int → Int → Int → Int → Option (Int)
  | 0, _, _, _, _, _, _, _, _, _, _, _, _, _, _, _, _, _, _, _, _, _, _, _, _, _, _, _, _, _, _, _, _, _, _, _, _ => none
  | k + 1, x9, x63, x142000, x142001, x142002, x142003, x142004, x142005, x142006, x142007, x142008, x142009, x142010, x142011, x142012, x142013, x142014, x142015, x142016, x142017, x142018, x142019, x142020, x143000, x143001, x143002, x143003, x143004, x143005, x143006, x143007, x143008, x143009, x143010, x143011, x143012 => if x63 = true then (some 2) else (if x143012 ≥ 0 then (gatepostref09_State.j2 k x9 (decide (x143012 ≥ x9)) x142000 x142001 x142002 x142003 x142004 x142005 x142006 x142007 x142008 x142009 x142010 x142011 x142012 x142013 x142014 x142015 x142016 x142017 x142018 x142019 x142020 x143000 x143001 x143002 x143003 x143004 x143005 x143006 x143007 x143008 x143009 x143010 x143011 x143012) else (gatepostref09_State.j2 k x9 false x142000 x142001 x142002 x142003 x142004 x142005 x142006 x142007 x142008 x142009 x142010 x142011 x142012 x142013 x142014 x142015 x142016 x142017 x142018 x142019 x142020 x143000 x143001 x143002 x143003 x143004 x143005 x143006 x143007 x143008 x143009 x143010 x143011 x143012))
def gatepostref09_State.j2 : Nat → Int → Bool → Int → Bool → Bool → Bool → Bool → Bool → Bool → Bool → Int → Int → Int → Int → Int → Int → Int → Int → Int → Int → Int → Int → ByteArray → Bool → Bool → Bool → Bool → Bool → Bool → Bool → Int → Int → Int → Int → Int → Int → Option (Int)
  | 0, _, _, _, _, _, _, _, _, _, _, _, _, _, _, _, _, _, _, _, _, _, _, _, _, _, _, _, _, _, _, _, _, _, _, _, _ => none
  | k + 1, x9, x72, x142000, x142001, x142002, x142003, x142004, x142005, x142006, x142007, x142008, x142009, x142010, x142011, x142012, x142013, x142014, x142015, x142016, x142017, x142018, x142019, x142020, x143000, x143001, x143002, x143003, x143004, x143005, x143006, x143007, x143008, x143009, x143010, x143011, x143012 => if x72 = true then (some 0) else (if x142010 ≥ 0 then (if x142010 > x9 then (if x143011 ≤ 0 then (some 1) else (some 2)) else (some 2)) else (some 2))
end
def gatepostref09_State.f (k : Nat) (a0_0 : Int) (a0_1 : Bool) (a0_2 : Bool) (a0_3 : Bool) (a0_4 : Bool) (a0_5 : Bool) (a0_6 : Bool) (a0_7 : Bool) (a0_8 : Int) (a0_9 : Int) (a0_10 : Int) (a0_11 : Int) (a0_12 : Int) (a0_13 : Int) (a0_14 : Int) (a0_15 : Int) (a0_16 : Int) (a0_17 : Int) (a0_18 : Int) (a0_19 : Int) (a0_20 : ByteArray) (a1_0 : Bool) (a1_1 : Bool) (a1_2 : Bool) (a1_3 : Bool) (a1_4 : Bool) (a1_5 : Bool) (a1_6 : Bool) (a1_7 : Int) (a1_8 : Int) (a1_9 : Int) (a1_10 : Int) (a1_11 : Int) (a1_12 : Int) (a2 : Int) : Option (Int) := (gatepostref09_Age.f k a0_0 a0_1 a0_2 a0_3 a0_4 a0_5 a0_6 a0_7 a0_8 a0_9 a0_10 a0_11 a0_12 a0_13 a0_14 a0_15 a0_16 a0_17 a0_18 a0_19 a0_20 a2).bind fun t143 => ((gatepostref09_Lifetime.f k a0_0 a0_1 a0_2 a0_3 a0_4 a0_5 a0_6 a0_7 a0_8 a0_9 a0_10 a0_11 a0_12 a0_13 a0_14 a0_15 a0_16 a0_17 a0_18 a0_19 a0_20).bind fun t144 => (if a1_1 = true then (gatepostref09_State.j0 k t143 t144 true a0_0 a0_1 a0_2 a0_3 a0_4 a0_5 a0_6 a0_7 a0_8 a0_9 a0_10 a0_11 a0_12 a0_13 a0_14 a0_15 a0_16 a0_17 a0_18 a0_19 a0_20 a1_0 a1_1 a1_2 a1_3 a1_4 a1_5 a1_6 a1_7 a1_8 a1_9 a1_10 a1_11 a1_12) else (if a0_2 = true then (gatepostref09_State.j0 k t143 t144 true a0_0 a0_1 a0_2 a0_3 a0_4 a0_5 a0_6 a0_7 a0_8 a0_9 a0_10 a0_11 a0_12 a0_13 a0_14 a0_15 a0_16 a0_17 a0_18 a0_19 a0_20 a1_0 a1_1 a1_2 a1_3 a1_4 a1_5 a1_6 a1_7 a1_8 a1_9 a1_10 a1_11 a1_12) else (if a1_7 ≥ 0 then (gatepostref09_State.j0 k t143 t144 (decide (a1_7 < t143)) a0_0 a0_1 a0_2 a0_3 a0_4 a0_5 a0_6 a0_7 a0_8 a0_9 a0_10 a0_11 a0_12 a0_13 a0_14 a0_15 a0_16 a0_17 a0_18 a0_19 a0_20 a1_0 a1_1 a1_2 a1_3 a1_4 a1_5 a1_6 a1_7 a1_8 a1_9 a1_10 a1_11 a1_12) else (gatepostref09_State.j0 k t143 t144 false a0_0 a0_1 a0_2 a0_3 a0_4 a0_5 a0_6 a0_7 a0_8 a0_9 a0_10 a0_11 a0_12 a0_13 a0_14 a0_15 a0_16 a0_17 a0_18 a0_19 a0_20 a1_0 a1_1 a1_2 a1_3 a1_4 a1_5 a1_6 a1_7 a1_8 a1_9 a1_10 a1_11 a1_12)))))
theorem gatepostref09_State.mono_l : ∀ k, (∀ y0 y1 y2 y3 y4 y5 y6 y7 y8 y9 y10 y11 y12 y13 y14 y15 y16 y17 y18 y19 y20 y21 y22 y23 y24 y25 y26 y27 y28 y29 y30 y31 y32 y33 y34 y35 y36, LeO (gatepostref09_State.j0 k y0 y1 y2 y3 y4 y5 y6 y7 y8 y9 y10 y11 y12 y13 y14 y15 y16 y17 y18 y19 y20 y21 y22 y23 y24 y25 y26 y27 y28 y29 y30 y31 y32 y33 y34 y35 y36) (gatepostref09_State.j0 (k + 1) y0 y1 y2 y3 y4 y5 y6 y7 y8 y9 y10 y11 y12 y13 y14 y15 y16 y17 y18 y19 y20 y21 y22 y23 y24 y25 y26 y27 y28 y29 y30 y31 y32 y33 y34 y35 y36)) ∧ (∀ y0 y1 y2 y3 y4 y5 y6 y7 y8 y9 y10 y11 y12 y13 y14 y15 y16 y17 y18 y19 y20 y21 y22 y23 y24 y25 y26 y27 y28 y29 y30 y31 y32 y33 y34 y35, LeO (gatepostref09_State.j1 k y0 y1 y2 y3 y4 y5 y6 y7 y8 y9 y10 y11 y12 y13 y14 y15 y16 y17 y18 y19 y20 y21 y22 y23 y24 y25 y26 y27 y28 y29 y30 y31 y32 y33 y34 y35) (gatepostref09_State.j1 (k + 1) y0 y1 y2 y3 y4 y5 y6 y7 y8 y9 y10 y11 y12 y13 y14 y15 y16 y17 y18 y19 y20 y21 y22 y23 y24 y25 y26 y27 y28 y29 y30 y31 y32 y33 y34 y35)) ∧ (∀ y0 y1 y2 y3 y4 y5 y6 y7 y8 y9 y10 y11 y12 y13 y14 y15 y16 y17 y18 y19 y20 y21 y22 y23 y24 y25 y26 y27 y28 y29 y30 y31 y32 y33 y34 y35, LeO (gatepostref09_State.j2 k y0 y1 y2 y3 y4 y5 y6 y7 y8 y9 y10 y11 y12 y13 y14 y15 y16 y17 y18 y19 y20 y21 y22 y23 y24 y25 y26 y27 y28 y29 y30 y31 y32 y33 y34 y35) (gatepostref09_State.j2 (k + 1) y0 y1 y2 y3 y4 y5 y6 y7 y8 y9 y10 y11 y12 y13 y14 y15 y16 y17 y18 y19 y20 y21 y22 y23 y24 y25 y26 y27 y28 y29 y30 y31 y32 y33 y34 y35))
  | 0 => ⟨fun _ _ _ _ _ _ _ _ _ _ _ _ _ _ _ _ _ _ _ _ _ _ _ _ _ _ _ _ _ _ _ _ _ _ _ _ _ r h => by simp [gatepostref09_State.j0] at h, fun _ _ _ _ _ _ _ _ _ _ _ _ _ _ _ _ _ _ _ _ _ _ _ _ _ _ _ _ _ _ _ _ _ _ _ _ r h => by simp [gatepostref09_State.j1] at h, fun _ _ _ _ _ _ _ _ _ _ _ _ _ _ _ _ _ _ _ _ _ _ _ _ _ _ _ _ _ _ _ _ _ _ _ _ r h => by simp [gatepostref09_State.j2] at h⟩
  | k + 1 => by
    obtain ⟨ih0, ih1, ih2⟩ := gatepostref09_State.mono_l k
    refine ⟨?_, ?_, ?_⟩
    · intro y0 y1 y2 y3 y4 y5 y6 y7 y8 y9 y10 y11 y12 y13 y14 y15 y16 y17 y18 y19 y20 y21 y22 y23 y24 y25 y26 y27 y28 y29 y30 y31 y32 y33 y34 y35 y36
      unfold gatepostref09_State.j0
      repeat' first
      | (with_reducible exact ih0 _ _ _ _ _ _ _ _ _ _ _ _ _ _ _ _ _ _ _ _ _ _ _ _ _ _ _ _ _ _ _ _ _ _ _ _ _)
      | (with_reducible exact ih1 _ _ _ _ _ _ _ _ _ _ _ _ _ _ _ _ _ _ _ _ _ _ _ _ _ _ _ _ _ _ _ _ _ _ _ _)
      | (with_reducible exact ih2 _ _ _ _ _ _ _ _ _ _ _ _ _ _ _ _ _ _ _ _ _ _ _ _ _ _ _ _ _ _ _ _ _ _ _ _)
      | (with_reducible exact gatepostref09_Age.mono _ _ _ _ _ _ _ _ _ _ _ _ _ _ _ _ _ _ _ _ _ _ _)
      | (with_reducible exact gatepostref09_Lifetime.mono _ _ _ _ _ _ _ _ _ _ _ _ _ _ _ _ _ _ _ _ _ _)
      | (with_reducible exact LeO.refl _)
      | (with_reducible exact LeO.none _)
      | (with_reducible refine LeO.ite ?_ ?_)
      | (with_reducible refine LeO.bind ?_ (fun _ => ?_))
      | exact ih0 _ _ _ _ _ _ _ _ _ _ _ _ _ _ _ _ _ _ _ _ _ _ _ _ _ _ _ _ _ _ _ _ _ _ _ _ _
      | exact ih1 _ _ _ _ _ _ _ _ _ _ _ _ _ _ _ _ _ _ _ _ _ _ _ _ _ _ _ _ _ _ _ _ _ _ _ _
      | exact ih2 _ _ _ _ _ _ _ _ _ _ _ _ _ _ _ _ _ _ _ _ _ _ _ _ _ _ _ _ _ _ _ _ _ _ _ _
      | exact gatepostref09_Age.mono _ _ _ _ _ _ _ _ _ _ _ _ _ _ _ _ _ _ _ _ _ _ _
      | exact gatepostref09_Lifetime.mono _ _ _ _ _ _ _ _ _ _ _ _ _ _ _ _ _ _ _ _ _ _
      | exact LeO.none _
      | refine LeO.ite ?_ ?_
      | refine LeO.bind ?_ (fun _ => ?_)
    · intro y0 y1 y2 y3 y4 y5 y6 y7 y8 y9 y10 y11 y12 y13 y14 y15 y16 y17 y18 y19 y20 y21 y22 y23 y24 y25 y26 y27 y28 y29 y30 y31 y32 y33 y34 y35
      unfold gatepostref09_State.j1
      repeat' first
      | (with_reducible exact ih0 _ _ _ _ _ _ _ _ _ _ _ _ _ _ _ _ _ _ _ _ _ _ _ _ _ _ _ _ _ _ _ _ _ _ _ _ _)
      | (with_reducible exact ih1 _ _ _ _ _ _ _ _ _ _ _ _ _ _ _ _ _ _ _ _ _ _ _ _ _ _ _ _ _ _ _ _ _ _ _ _)
      | (with_reducible exact ih2 _ _ _ _ _ _ _ _ _ _ _ _ _ _ _ _ _ _ _ _ _ _ _ _ _ _ _ _ _ _ _ _ _ _ _ _)
      | (with_reducible exact gatepostref09_Age.mono _ _ _ _ _ _ _ _ _ _ _ _ _ _ _ _ _ _ _ _ _ _ _)
      | (with_reducible exact gatepostref09_Lifetime.mono _ _ _ _ _ _ _ _ _ _ _ _ _ _ _ _ _ _ _ _ _ _)
      | (with_reducible exact LeO.refl _)
      | (with_reducible exact LeO.none _)
      | (with_reducible refine LeO.ite ?_ ?_)
      | (with_reducible refine LeO.bind ?_ (fun _ => ?_))
      | exact ih0 _ _ _ _ _ _ _ _ _ _ _ _ _ _ _ _ _ _ _ _ _ _ _ _ _ _ _ _ _ _ _ _ _ _ _ _ _
      | exact ih1 _ _ _ _ _ _ _ _ _ _ _ _ _ _ _ _ _ _ _ _ _ _ _ _ _ _ _ _ _ _ _ _ _ _ _ _
      | exact ih2 _ _ _ _ _ _ _ _ _ _ _ _ _ _ _ _ _ _ _ _ _ _ _ _ _ _ _ _ _ _ _ _ _ _ _ _
      | exact gatepostref09_Age.mono _ _ _ _ _ _ _ _ _ _ _ _ _ _ _ _ _ _ _ _ _ _ _
      | exact gatepostref09_Lifetime.mono _ _ _ _ _ _ _ _ _ _ _ _ _ _ _ _ _ _ _ _ _ _
      | exact LeO.none _
      | refine LeO.ite ?_ ?_
      | refine LeO.bind ?_ (fun _ => ?_)
    · intro y0 y1 y2 y3 y4 y5 y6 y7 y8 y9 y10 y11 y12 y13 y14 y15 y16 y17 y18 y19 y20 y21 y22 y23 y24 y25 y26 y27 y28 y29 y30 y31 y32 y33 y34 y35
      unfold gatepostref09_State.j2
      repeat' first
      | (with_reducible exact ih0 _ _ _ _ _ _ _ _ _ _ _ _ _ _ _ _ _ _ _ _ _ _ _ _ _ _ _ _ _ _ _ _ _ _ _ _ _)
      | (with_reducible exact ih1 _ _ _ _ _ _ _ _ _ _ _ _ _ _ _ _ _ _ _ _ _ _ _ _ _ _ _ _ _ _ _ _ _ _ _ _)
      | (with_reducible exact ih2 _ _ _ _ _ _ _ _ _ _ _ _ _ _ _ _ _ _ _ _ _ _ _ _ _ _ _ _ _ _ _ _ _ _ _ _)
      | (with_reducible exact gatepostref09_Age.mono _ _ _ _ _ _ _ _ _ _ _ _ _ _ _ _ _ _ _ _ _ _ _)
      | (with_reducible exact gatepostref09_Lifetime.mono _ _ _ _ _ _ _ _ _ _ _ _ _ _ _ _ _ _ _ _ _ _)
      | (with_reducible exact LeO.refl _)
      | (with_reducible exact LeO.none _)
      | (with_reducible refine LeO.ite ?_ ?_)
      | (with_reducible refine LeO.bind ?_ (fun _ => ?_))
      | exact ih0 _ _ _ _ _ _ _ _ _ _ _ _ _ _ _ _ _ _ _ _ _ _ _ _ _ _ _ _ _ _ _ _ _ _ _ _ _
      | exact ih1 _ _ _ _ _ _ _ _ _ _ _ _ _ _ _ _ _ _ _ _ _ _ _ _ _ _ _ _ _ _ _ _ _ _ _ _
      | exact ih2 _ _ _ _ _ _ _ _ _ _ _ _ _ _ _ _ _ _ _ _ _ _ _ _ _ _ _ _ _ _ _ _ _ _ _ _
      | exact gatepostref09_Age.mono _ _ _ _ _ _ _ _ _ _ _ _ _ _ _ _ _ _ _ _ _ _ _
      | exact gatepostref09_Lifetime.mono _ _ _ _ _ _ _ _ _ _ _ _ _ _ _ _ _ _ _ _ _ _
      | exact LeO.none _
      | refine LeO.ite ?_ ?_
      | refine LeO.bind ?_ (fun _ => ?_)
theorem gatepostref09_State.mono : ∀ a0 a1 a2 a3 a4 a5 a6 a7 a8 a9 a10 a11 a12 a13 a14 a15 a16 a17 a18 a19 a20 a21 a22 a23 a24 a25 a26 a27 a28 a29 a30 a31 a32 a33 a34 k, LeO (gatepostref09_State.f k a0 a1 a2 a3 a4 a5 a6 a7 a8 a9 a10 a11 a12 a13 a14 a15 a16 a17 a18 a19 a20 a21 a22 a23 a24 a25 a26 a27 a28 a29 a30 a31 a32 a33 a34) (gatepostref09_State.f (k + 1) a0 a1 a2 a3 a4 a5 a6 a7 a8 a9 a10 a11 a12 a13 a14 a15 a16 a17 a18 a19 a20 a21 a22 a23 a24 a25 a26 a27 a28 a29 a30 a31 a32 a33 a34) := by
  intro a0 a1 a2 a3 a4 a5 a6 a7 a8 a9 a10 a11 a12 a13 a14 a15 a16 a17 a18 a19 a20 a21 a22 a23 a24 a25 a26 a27 a28 a29 a30 a31 a32 a33 a34 k
  obtain ⟨ih0, ih1, ih2⟩ := gatepostref09_State.mono_l k
  unfold gatepostref09_State.f
  repeat' first
      | (with_reducible exact ih0 _ _ _ _ _ _ _ _ _ _ _ _ _ _ _ _ _ _ _ _ _ _ _ _ _ _ _ _ _ _ _ _ _ _ _ _ _)
      | (with_reducible exact ih1 _ _ _ _ _ _ _ _ _ _ _ _ _ _ _ _ _ _ _ _ _ _ _ _ _ _ _ _ _ _ _ _ _ _ _ _)
      | (with_reducible exact ih2 _ _ _ _ _ _ _ _ _ _ _ _ _ _ _ _ _ _ _ _ _ _ _ _ _ _ _ _ _ _ _ _ _ _ _ _)
      | (with_reducible exact gatepostref09_Age.mono _ _ _ _ _ _ _ _ _ _ _ _ _ _ _ _ _ _ _ _ _ _ _)
      | (with_reducible exact gatepostref09_Lifetime.mono _ _ _ _ _ _ _ _ _ _ _ _ _ _ _ _ _ _ _ _ _ _)
      | (with_reducible exact LeO.refl _)
      | (with_reducible exact LeO.none _)
      | (with_reducible refine LeO.ite ?_ ?_)
      | (with_reducible refine LeO.bind ?_ (fun _ => ?_))
      | exact ih0 _ _ _ _ _ _ _ _ _ _ _ _ _ _ _ _ _ _ _ _ _ _ _ _ _ _ _ _ _ _ _ _ _ _ _ _ _
      | exact ih1 _ _ _ _ _ _ _ _ _ _ _ _ _ _ _ _ _ _ _ _ _ _ _ _ _ _ _ _ _ _ _ _ _ _ _ _
      | exact ih2 _ _ _ _ _ _ _ _ _ _ _ _ _ _ _ _ _ _ _ _ _ _ _ _ _ _ _ _ _ _ _ _ _ _ _ _
      | exact gatepostref09_Age.mono _ _ _ _ _ _ _ _ _ _ _ _ _ _ _ _ _ _ _ _ _ _ _
      | exact gatepostref09_Lifetime.mono _ _ _ _ _ _ _ _ _ _ _ _ _ _ _ _ _ _ _ _ _ _
      | exact LeO.none _
      | refine LeO.ite ?_ ?_
      | refine LeO.bind ?_ (fun _ => ?_)
set_option maxHeartbeats 8000000 in
set_option maxRecDepth 100000 in
theorem gatepostref09_State.calls (k : Nat) (a0_0 : Int) (a0_1 : Bool) (a0_2 : Bool) (a0_3 : Bool) (a0_4 : Bool) (a0_5 : Bool) (a0_6 : Bool) (a0_7 : Bool) (a0_8 : Int) (a0_9 : Int) (a0_10 : Int) (a0_11 : Int) (a0_12 : Int) (a0_13 : Int) (a0_14 : Int) (a0_15 : Int) (a0_16 : Int) (a0_17 : Int) (a0_18 : Int) (a0_19 : Int) (a0_20 : ByteArray) (a1_0 : Bool) (a1_1 : Bool) (a1_2 : Bool) (a1_3 : Bool) (a1_4 : Bool) (a1_5 : Bool) (a1_6 : Bool) (a1_7 : Int) (a1_8 : Int) (a1_9 : Int) (a1_10 : Int) (a1_11 : Int) (a1_12 : Int) (a2 : Int) (r : Int) (w : World) (h : gatepostref09_State.f k a0_0 a0_1 a0_2 a0_3 a0_4 a0_5 a0_6 a0_7 a0_8 a0_9 a0_10 a0_11 a0_12 a0_13 a0_14 a0_15 a0_16 a0_17 a0_18 a0_19 a0_20 a1_0 a1_1 a1_2 a1_3 a1_4 a1_5 a1_6 a1_7 a1_8 a1_9 a1_10 a1_11 a1_12 a2 = some r) :
    Calls Try.prog 14 #[.agg #[.int .i64 a0_0, .bool a0_1, .bool a0_2, .bool a0_3, .bool a0_4, .bool a0_5, .bool a0_6, .bool a0_7, .int .i64 a0_8, .int .i64 a0_9, .int .i64 a0_10, .int .i64 a0_11, .int .i64 a0_12, .int .i64 a0_13, .int .i64 a0_14, .int .i64 a0_15, .int .i64 a0_16, .int .i64 a0_17, .int .i64 a0_18, .int .i64 a0_19, .string a0_20], .agg #[.bool a1_0, .bool a1_1, .bool a1_2, .bool a1_3, .bool a1_4, .bool a1_5, .bool a1_6, .int .i64 a1_7, .int .i64 a1_8, .int .i64 a1_9, .int .i64 a1_10, .int .i64 a1_11, .int .i64 a1_12], .int .i64 a2] w fun e w' => e = .returned (.int .i64 r) ∧ Below w.heap.size w w' := by
  have hu25 := Try.underlying25
  have hu23 := Try.underlying23
  have HB := Aside0.mk (Below.refl w.heap.size w)
  have H : ((gatepostref09_Age.f k a0_0 a0_1 a0_2 a0_3 a0_4 a0_5 a0_6 a0_7 a0_8 a0_9 a0_10 a0_11 a0_12 a0_13 a0_14 a0_15 a0_16 a0_17 a0_18 a0_19 a0_20 a2).bind fun t143 => ((gatepostref09_Lifetime.f k a0_0 a0_1 a0_2 a0_3 a0_4 a0_5 a0_6 a0_7 a0_8 a0_9 a0_10 a0_11 a0_12 a0_13 a0_14 a0_15 a0_16 a0_17 a0_18 a0_19 a0_20).bind fun t144 => (if a1_1 = true then (gatepostref09_State.j0 k t143 t144 true a0_0 a0_1 a0_2 a0_3 a0_4 a0_5 a0_6 a0_7 a0_8 a0_9 a0_10 a0_11 a0_12 a0_13 a0_14 a0_15 a0_16 a0_17 a0_18 a0_19 a0_20 a1_0 a1_1 a1_2 a1_3 a1_4 a1_5 a1_6 a1_7 a1_8 a1_9 a1_10 a1_11 a1_12) else (if a0_2 = true then (gatepostref09_State.j0 k t143 t144 true a0_0 a0_1 a0_2 a0_3 a0_4 a0_5 a0_6 a0_7 a0_8 a0_9 a0_10 a0_11 a0_12 a0_13 a0_14 a0_15 a0_16 a0_17 a0_18 a0_19 a0_20 a1_0 a1_1 a1_2 a1_3 a1_4 a1_5 a1_6 a1_7 a1_8 a1_9 a1_10 a1_11 a1_12) else (if a1_7 ≥ 0 then (gatepostref09_State.j0 k t143 t144 (decide (a1_7 < t143)) a0_0 a0_1 a0_2 a0_3 a0_4 a0_5 a0_6 a0_7 a0_8 a0_9 a0_10 a0_11 a0_12 a0_13 a0_14 a0_15 a0_16 a0_17 a0_18 a0_19 a0_20 a1_0 a1_1 a1_2 a1_3 a1_4 a1_5 a1_6 a1_7 a1_8 a1_9 a1_10 a1_11 a1_12) else (gatepostref09_State.j0 k t143 t144 false a0_0 a0_1 a0_2 a0_3 a0_4 a0_5 a0_6 a0_7 a0_8 a0_9 a0_10 a0_11 a0_12 a0_13 a0_14 a0_15 a0_16 a0_17 a0_18 a0_19 a0_20 a1_0 a1_1 a1_2 a1_3 a1_4 a1_5 a1_6 a1_7 a1_8 a1_9 a1_10 a1_11 a1_12)))))) = some r := h
  clear h
  replace H := Option.bind_eq_some_iff.mp H
  obtain ⟨t143, A40, H⟩ := H
  replace H : ((gatepostref09_Lifetime.f k a0_0 a0_1 a0_2 a0_3 a0_4 a0_5 a0_6 a0_7 a0_8 a0_9 a0_10 a0_11 a0_12 a0_13 a0_14 a0_15 a0_16 a0_17 a0_18 a0_19 a0_20).bind fun t144 => (if a1_1 = true then (gatepostref09_State.j0 k t143 t144 true a0_0 a0_1 a0_2 a0_3 a0_4 a0_5 a0_6 a0_7 a0_8 a0_9 a0_10 a0_11 a0_12 a0_13 a0_14 a0_15 a0_16 a0_17 a0_18 a0_19 a0_20 a1_0 a1_1 a1_2 a1_3 a1_4 a1_5 a1_6 a1_7 a1_8 a1_9 a1_10 a1_11 a1_12) else (if a0_2 = true then (gatepostref09_State.j0 k t143 t144 true a0_0 a0_1 a0_2 a0_3 a0_4 a0_5 a0_6 a0_7 a0_8 a0_9 a0_10 a0_11 a0_12 a0_13 a0_14 a0_15 a0_16 a0_17 a0_18 a0_19 a0_20 a1_0 a1_1 a1_2 a1_3 a1_4 a1_5 a1_6 a1_7 a1_8 a1_9 a1_10 a1_11 a1_12) else (if a1_7 ≥ 0 then (gatepostref09_State.j0 k t143 t144 (decide (a1_7 < t143)) a0_0 a0_1 a0_2 a0_3 a0_4 a0_5 a0_6 a0_7 a0_8 a0_9 a0_10 a0_11 a0_12 a0_13 a0_14 a0_15 a0_16 a0_17 a0_18 a0_19 a0_20 a1_0 a1_1 a1_2 a1_3 a1_4 a1_5 a1_6 a1_7 a1_8 a1_9 a1_10 a1_11 a1_12) else (gatepostref09_State.j0 k t143 t144 false a0_0 a0_1 a0_2 a0_3 a0_4 a0_5 a0_6 a0_7 a0_8 a0_9 a0_10 a0_11 a0_12 a0_13 a0_14 a0_15 a0_16 a0_17 a0_18 a0_19 a0_20 a1_0 a1_1 a1_2 a1_3 a1_4 a1_5 a1_6 a1_7 a1_8 a1_9 a1_10 a1_11 a1_12))))) = some r := H
  have A4 := Aside0.mk A40
  clear A40
  replace H := Option.bind_eq_some_iff.mp H
  obtain ⟨t144, A50, H⟩ := H
  replace H : (if a1_1 = true then (gatepostref09_State.j0 k t143 t144 true a0_0 a0_1 a0_2 a0_3 a0_4 a0_5 a0_6 a0_7 a0_8 a0_9 a0_10 a0_11 a0_12 a0_13 a0_14 a0_15 a0_16 a0_17 a0_18 a0_19 a0_20 a1_0 a1_1 a1_2 a1_3 a1_4 a1_5 a1_6 a1_7 a1_8 a1_9 a1_10 a1_11 a1_12) else (if a0_2 = true then (gatepostref09_State.j0 k t143 t144 true a0_0 a0_1 a0_2 a0_3 a0_4 a0_5 a0_6 a0_7 a0_8 a0_9 a0_10 a0_11 a0_12 a0_13 a0_14 a0_15 a0_16 a0_17 a0_18 a0_19 a0_20 a1_0 a1_1 a1_2 a1_3 a1_4 a1_5 a1_6 a1_7 a1_8 a1_9 a1_10 a1_11 a1_12) else (if a1_7 ≥ 0 then (gatepostref09_State.j0 k t143 t144 (decide (a1_7 < t143)) a0_0 a0_1 a0_2 a0_3 a0_4 a0_5 a0_6 a0_7 a0_8 a0_9 a0_10 a0_11 a0_12 a0_13 a0_14 a0_15 a0_16 a0_17 a0_18 a0_19 a0_20 a1_0 a1_1 a1_2 a1_3 a1_4 a1_5 a1_6 a1_7 a1_8 a1_9 a1_10 a1_11 a1_12) else (gatepostref09_State.j0 k t143 t144 false a0_0 a0_1 a0_2 a0_3 a0_4 a0_5 a0_6 a0_7 a0_8 a0_9 a0_10 a0_11 a0_12 a0_13 a0_14 a0_15 a0_16 a0_17 a0_18 a0_19 a0_20 a1_0 a1_1 a1_2 a1_3 a1_4 a1_5 a1_6 a1_7 a1_8 a1_9 a1_10 a1_11 a1_12)))) = some r := H
  have A5 := Aside0.mk A50
  clear A50
  have HC6 := Aside0.mk H
  clear H
  go_enter Try.func14, Try.ntmps14
  go_upto_region 3 with (first | ((with_reducible refine gate_dst (N := 3) rfl ?_); refine box_event ?hg (N := 3) ?hd (cs := #[.int .i64 a0_0, .bool a0_1, .bool a0_2, .bool a0_3, .bool a0_4, .bool a0_5, .bool a0_6, .bool a0_7, .int .i64 a0_8, .int .i64 a0_9, .int .i64 a0_10, .int .i64 a0_11, .int .i64 a0_12, .int .i64 a0_13, .int .i64 a0_14, .int .i64 a0_15, .int .i64 a0_16, .int .i64 a0_17, .int .i64 a0_18, .int .i64 a0_19, .string a0_20]) (t := 25) ?hr ?_; (case hd => rfl); (case hg => rfl); (case hr => first | (go_simp; done) | (go_simp; rfl)); intro gb141 hg w7 hbox hb; have n0_ := Aside0.mk (below_step (by repeat (first | (with_reducible first | exact HB.out | apply below_alloc | apply pw_below_drewN | apply below_drew1) | exact HB.out)) hb); have n1_ := Aside0.mk (hbox); have n2_ := Aside0.mk ((by rw [hg]; exact (below_size (by repeat (first | (with_reducible first | exact HB.out | apply below_alloc | apply pw_below_drewN | apply below_drew1) | exact HB.out))) : w.heap.size ≤ gb141)); have n3_ := Aside0.mk ((by rw [hg]; exact (below_size (by repeat (first | (with_reducible first | exact HB.out | apply below_alloc | apply pw_below_drewN | apply below_drew1) | exact HB.out))) : w.heap.size ≤ gb141)); clear HB; have HB := n0_; have BK141 := n1_; have GW141 := n2_; have GE141 := n3_; clear n0_ n1_ n2_ n3_; clear hb hbox hg) | ((with_reducible refine gate_dst (N := 4) rfl ?_); refine box_event ?hg (N := 4) ?hd (cs := #[.bool a1_0, .bool a1_1, .bool a1_2, .bool a1_3, .bool a1_4, .bool a1_5, .bool a1_6, .int .i64 a1_7, .int .i64 a1_8, .int .i64 a1_9, .int .i64 a1_10, .int .i64 a1_11, .int .i64 a1_12]) (t := 23) ?hr ?_; (case hd => rfl); (case hg => rfl); (case hr => first | (go_simp; done) | (go_simp; rfl)); intro gb142 hg w8 hbox hb; have n0_ := Aside0.mk (blk_below (g := gb141) (o := .cells #[.int .i64 a0_0, .bool a0_1, .bool a0_2, .bool a0_3, .bool a0_4, .bool a0_5, .bool a0_6, .bool a0_7, .int .i64 a0_8, .int .i64 a0_9, .int .i64 a0_10, .int .i64 a0_11, .int .i64 a0_12, .int .i64 a0_13, .int .i64 a0_14, .int .i64 a0_15, .int .i64 a0_16, .int .i64 a0_17, .int .i64 a0_18, .int .i64 a0_19, .string a0_20] 25 (0, 0)) (by (with_reducible repeat (first | refine blk_drewN ?_ _ | refine blk_drew ?_ | refine blk_alloc ?_ _)); exact BK141.out) hb); have n1_ := Aside0.mk (below_step (by repeat (first | (with_reducible first | exact HB.out | apply below_alloc | apply pw_below_drewN | apply below_drew1 | refine below_set ?_ GE141.out) | exact HB.out)) hb); have n2_ := Aside0.mk (hbox); have n3_ := Aside0.mk ((by rw [hg]; exact (below_size (by repeat (first | (with_reducible first | exact HB.out | apply below_alloc | apply pw_below_drewN | apply below_drew1 | refine below_set ?_ GE141.out) | exact HB.out))) : w.heap.size ≤ gb142)); have n4_ := Aside0.mk ((by rw [hg]; exact (below_size (by repeat (first | (with_reducible first | exact HB.out | apply below_alloc | apply pw_below_drewN | apply below_drew1 | refine below_set ?_ GE141.out) | exact HB.out))) : w.heap.size ≤ gb142)); have n5_ := Aside0.mk ((by rw [hg]; exact Nat.ne_of_lt (blk_lt (g := gb141) (o := .cells #[.int .i64 a0_0, .bool a0_1, .bool a0_2, .bool a0_3, .bool a0_4, .bool a0_5, .bool a0_6, .bool a0_7, .int .i64 a0_8, .int .i64 a0_9, .int .i64 a0_10, .int .i64 a0_11, .int .i64 a0_12, .int .i64 a0_13, .int .i64 a0_14, .int .i64 a0_15, .int .i64 a0_16, .int .i64 a0_17, .int .i64 a0_18, .int .i64 a0_19, .string a0_20] 25 (0, 0)) (by (with_reducible repeat (first | refine blk_drewN ?_ _ | refine blk_drew ?_ | refine blk_alloc ?_ _)); exact BK141.out)) : gb141 ≠ gb142)); have n6_ := Aside0.mk ((by rw [hg]; exact Nat.ne_of_gt (blk_lt (g := gb141) (o := .cells #[.int .i64 a0_0, .bool a0_1, .bool a0_2, .bool a0_3, .bool a0_4, .bool a0_5, .bool a0_6, .bool a0_7, .int .i64 a0_8, .int .i64 a0_9, .int .i64 a0_10, .int .i64 a0_11, .int .i64 a0_12, .int .i64 a0_13, .int .i64 a0_14, .int .i64 a0_15, .int .i64 a0_16, .int .i64 a0_17, .int .i64 a0_18, .int .i64 a0_19, .string a0_20] 25 (0, 0)) (by (with_reducible repeat (first | refine blk_drewN ?_ _ | refine blk_drew ?_ | refine blk_alloc ?_ _)); exact BK141.out)) : gb142 ≠ gb141)); clear BK141; clear HB; have BK141 := n0_; have HB := n1_; have BK142 := n2_; have GW142 := n3_; have GE142 := n4_; have NB141_142 := n5_; have NB142_141 := n6_; clear n0_ n1_ n2_ n3_ n4_ n5_ n6_; clear hb hbox hg; have hnb9 := NB141_142.out; have hnc9 := NB142_141.out; have hcz10_0 : w8.cell? ⟨gb141, 0, none⟩ = some (.int .i64 a0_0) := (blk_cell BK141.out 0).trans rfl; have hcz10_1 : w8.cell? ⟨gb141, 1, none⟩ = some (.bool a0_1) := (blk_cell BK141.out 1).trans rfl; have hcz10_2 : w8.cell? ⟨gb141, 2, none⟩ = some (.bool a0_2) := (blk_cell BK141.out 2).trans rfl; have hcz10_3 : w8.cell? ⟨gb141, 3, none⟩ = some (.bool a0_3) := (blk_cell BK141.out 3).trans rfl; have hcz10_4 : w8.cell? ⟨gb141, 4, none⟩ = some (.bool a0_4) := (blk_cell BK141.out 4).trans rfl; have hcz10_5 : w8.cell? ⟨gb141, 5, none⟩ = some (.bool a0_5) := (blk_cell BK141.out 5).trans rfl; have hcz10_6 : w8.cell? ⟨gb141, 6, none⟩ = some (.bool a0_6) := (blk_cell BK141.out 6).trans rfl; have hcz10_7 : w8.cell? ⟨gb141, 7, none⟩ = some (.bool a0_7) := (blk_cell BK141.out 7).trans rfl; have hcz10_8 : w8.cell? ⟨gb141, 8, none⟩ = some (.int .i64 a0_8) := (blk_cell BK141.out 8).trans rfl; have hcz10_9 : w8.cell? ⟨gb141, 9, none⟩ = some (.int .i64 a0_9) := (blk_cell BK141.out 9).trans rfl; have hcz10_10 : w8.cell? ⟨gb141, 10, none⟩ = some (.int .i64 a0_10) := (blk_cell BK141.out 10).trans rfl; have hcz10_11 : w8.cell? ⟨gb141, 11, none⟩ = some (.int .i64 a0_11) := (blk_cell BK141.out 11).trans rfl; have hcz10_12 : w8.cell? ⟨gb141, 12, none⟩ = some (.int .i64 a0_12) := (blk_cell BK141.out 12).trans rfl; have hcz10_13 : w8.cell? ⟨gb141, 13, none⟩ = some (.int .i64 a0_13) := (blk_cell BK141.out 13).trans rfl; have hcz10_14 : w8.cell? ⟨gb141, 14, none⟩ = some (.int .i64 a0_14) := (blk_cell BK141.out 14).trans rfl; have hcz10_15 : w8.cell? ⟨gb141, 15, none⟩ = some (.int .i64 a0_15) := (blk_cell BK141.out 15).trans rfl; have hcz10_16 : w8.cell? ⟨gb141, 16, none⟩ = some (.int .i64 a0_16) := (blk_cell BK141.out 16).trans rfl; have hcz10_17 : w8.cell? ⟨gb141, 17, none⟩ = some (.int .i64 a0_17) := (blk_cell BK141.out 17).trans rfl; have hcz10_18 : w8.cell? ⟨gb141, 18, none⟩ = some (.int .i64 a0_18) := (blk_cell BK141.out 18).trans rfl; have hcz10_19 : w8.cell? ⟨gb141, 19, none⟩ = some (.int .i64 a0_19) := (blk_cell BK141.out 19).trans rfl; have hcz10_20 : w8.cell? ⟨gb141, 20, none⟩ = some (.string a0_20) := (blk_cell BK141.out 20).trans rfl; have hfz10_0 := blk_frozen BK141.out 0; have hfz10_1 := blk_frozen BK141.out 1; have hfz10_2 := blk_frozen BK141.out 2; have hfz10_3 := blk_frozen BK141.out 3; have hfz10_4 := blk_frozen BK141.out 4; have hfz10_5 := blk_frozen BK141.out 5; have hfz10_6 := blk_frozen BK141.out 6; have hfz10_7 := blk_frozen BK141.out 7; have hfz10_8 := blk_frozen BK141.out 8; have hfz10_9 := blk_frozen BK141.out 9; have hfz10_10 := blk_frozen BK141.out 10; have hfz10_11 := blk_frozen BK141.out 11; have hfz10_12 := blk_frozen BK141.out 12; have hfz10_13 := blk_frozen BK141.out 13; have hfz10_14 := blk_frozen BK141.out 14; have hfz10_15 := blk_frozen BK141.out 15; have hfz10_16 := blk_frozen BK141.out 16; have hfz10_17 := blk_frozen BK141.out 17; have hfz10_18 := blk_frozen BK141.out 18; have hfz10_19 := blk_frozen BK141.out 19; have hfz10_20 := blk_frozen BK141.out 20) | ((with_reducible refine gate_callee (f := 10) rfl ?_); refine goesL_ (some 12) rfl rfl Try.func10 (by kernel_rfl) rfl #[.agg #[.int .i64 a0_0, .bool a0_1, .bool a0_2, .bool a0_3, .bool a0_4, .bool a0_5, .bool a0_6, .bool a0_7, .int .i64 a0_8, .int .i64 a0_9, .int .i64 a0_10, .int .i64 a0_11, .int .i64 a0_12, .int .i64 a0_13, .int .i64 a0_14, .int .i64 a0_15, .int .i64 a0_16, .int .i64 a0_17, .int .i64 a0_18, .int .i64 a0_19, .string a0_20], .int .i64 a2] rfl (by (try simp only [List.map_toArray, List.map_cons, List.map_nil]); first | done | rfl | (simp only [List.length_drop, List.length_take]; rfl)) ?_; (with_reducible refine (gatepostref09_Age.calls k a0_0 a0_1 a0_2 a0_3 a0_4 a0_5 a0_6 a0_7 a0_8 a0_9 a0_10 a0_11 a0_12 a0_13 a0_14 a0_15 a0_16 a0_17 a0_18 a0_19 a0_20 a2 t143 _ A4.out).mono ?_); rintro e w11 ⟨rfl, hb⟩; refine ⟨_, rfl, ?_⟩; have n0_ := Aside0.mk (blk_below (g := gb141) (o := .cells #[.int .i64 a0_0, .bool a0_1, .bool a0_2, .bool a0_3, .bool a0_4, .bool a0_5, .bool a0_6, .bool a0_7, .int .i64 a0_8, .int .i64 a0_9, .int .i64 a0_10, .int .i64 a0_11, .int .i64 a0_12, .int .i64 a0_13, .int .i64 a0_14, .int .i64 a0_15, .int .i64 a0_16, .int .i64 a0_17, .int .i64 a0_18, .int .i64 a0_19, .string a0_20] 25 (0, 0)) (by (with_reducible repeat (first | refine blk_drewN ?_ _ | refine blk_drew ?_ | refine blk_alloc ?_ _)); exact BK141.out) hb); have n1_ := Aside0.mk (blk_below (g := gb142) (o := .cells #[.bool a1_0, .bool a1_1, .bool a1_2, .bool a1_3, .bool a1_4, .bool a1_5, .bool a1_6, .int .i64 a1_7, .int .i64 a1_8, .int .i64 a1_9, .int .i64 a1_10, .int .i64 a1_11, .int .i64 a1_12] 23 (0, 0)) (by (with_reducible repeat (first | refine blk_drewN ?_ _ | refine blk_drew ?_ | refine blk_alloc ?_ _)); exact BK142.out) hb); have n2_ := Aside0.mk (below_step (by repeat (first | (with_reducible first | exact HB.out | apply below_alloc | apply pw_below_drewN | apply below_drew1 | refine below_set ?_ GE141.out | refine below_set ?_ GE142.out) | exact HB.out)) hb); clear BK141; clear BK142; clear HB; have BK141 := n0_; have BK142 := n1_; have HB := n2_; clear n0_ n1_ n2_; (try clear hb); (try clear hb2); (try clear hk); (try clear hi); have hcz12_0 : w11.cell? ⟨gb141, 0, none⟩ = some (.int .i64 a0_0) := (blk_cell BK141.out 0).trans rfl; have hcz12_1 : w11.cell? ⟨gb141, 1, none⟩ = some (.bool a0_1) := (blk_cell BK141.out 1).trans rfl; have hcz12_2 : w11.cell? ⟨gb141, 2, none⟩ = some (.bool a0_2) := (blk_cell BK141.out 2).trans rfl; have hcz12_3 : w11.cell? ⟨gb141, 3, none⟩ = some (.bool a0_3) := (blk_cell BK141.out 3).trans rfl; have hcz12_4 : w11.cell? ⟨gb141, 4, none⟩ = some (.bool a0_4) := (blk_cell BK141.out 4).trans rfl; have hcz12_5 : w11.cell? ⟨gb141, 5, none⟩ = some (.bool a0_5) := (blk_cell BK141.out 5).trans rfl; have hcz12_6 : w11.cell? ⟨gb141, 6, none⟩ = some (.bool a0_6) := (blk_cell BK141.out 6).trans rfl; have hcz12_7 : w11.cell? ⟨gb141, 7, none⟩ = some (.bool a0_7) := (blk_cell BK141.out 7).trans rfl; have hcz12_8 : w11.cell? ⟨gb141, 8, none⟩ = some (.int .i64 a0_8) := (blk_cell BK141.out 8).trans rfl; have hcz12_9 : w11.cell? ⟨gb141, 9, none⟩ = some (.int .i64 a0_9) := (blk_cell BK141.out 9).trans rfl; have hcz12_10 : w11.cell? ⟨gb141, 10, none⟩ = some (.int .i64 a0_10) := (blk_cell BK141.out 10).trans rfl; have hcz12_11 : w11.cell? ⟨gb141, 11, none⟩ = some (.int .i64 a0_11) := (blk_cell BK141.out 11).trans rfl; have hcz12_12 : w11.cell? ⟨gb141, 12, none⟩ = some (.int .i64 a0_12) := (blk_cell BK141.out 12).trans rfl; have hcz12_13 : w11.cell? ⟨gb141, 13, none⟩ = some (.int .i64 a0_13) := (blk_cell BK141.out 13).trans rfl; have hcz12_14 : w11.cell? ⟨gb141, 14, none⟩ = some (.int .i64 a0_14) := (blk_cell BK141.out 14).trans rfl; have hcz12_15 : w11.cell? ⟨gb141, 15, none⟩ = some (.int .i64 a0_15) := (blk_cell BK141.out 15).trans rfl; have hcz12_16 : w11.cell? ⟨gb141, 16, none⟩ = some (.int .i64 a0_16) := (blk_cell BK141.out 16).trans rfl; have hcz12_17 : w11.cell? ⟨gb141, 17, none⟩ = some (.int .i64 a0_17) := (blk_cell BK141.out 17).trans rfl; have hcz12_18 : w11.cell? ⟨gb141, 18, none⟩ = some (.int .i64 a0_18) := (blk_cell BK141.out 18).trans rfl; have hcz12_19 : w11.cell? ⟨gb141, 19, none⟩ = some (.int .i64 a0_19) := (blk_cell BK141.out 19).trans rfl; have hcz12_20 : w11.cell? ⟨gb141, 20, none⟩ = some (.string a0_20) := (blk_cell BK141.out 20).trans rfl; have hfz12_0 := blk_frozen BK141.out 0; have hfz12_1 := blk_frozen BK141.out 1; have hfz12_2 := blk_frozen BK141.out 2; have hfz12_3 := blk_frozen BK141.out 3; have hfz12_4 := blk_frozen BK141.out 4; have hfz12_5 := blk_frozen BK141.out 5; have hfz12_6 := blk_frozen BK141.out 6; have hfz12_7 := blk_frozen BK141.out 7; have hfz12_8 := blk_frozen BK141.out 8; have hfz12_9 := blk_frozen BK141.out 9; have hfz12_10 := blk_frozen BK141.out 10; have hfz12_11 := blk_frozen BK141.out 11; have hfz12_12 := blk_frozen BK141.out 12; have hfz12_13 := blk_frozen BK141.out 13; have hfz12_14 := blk_frozen BK141.out 14; have hfz12_15 := blk_frozen BK141.out 15; have hfz12_16 := blk_frozen BK141.out 16; have hfz12_17 := blk_frozen BK141.out 17; have hfz12_18 := blk_frozen BK141.out 18; have hfz12_19 := blk_frozen BK141.out 19; have hfz12_20 := blk_frozen BK141.out 20) | ((with_reducible refine gate_callee (f := 12) rfl ?_); refine goesL_ (some 14) rfl rfl Try.func12 (by kernel_rfl) rfl #[.agg #[.int .i64 a0_0, .bool a0_1, .bool a0_2, .bool a0_3, .bool a0_4, .bool a0_5, .bool a0_6, .bool a0_7, .int .i64 a0_8, .int .i64 a0_9, .int .i64 a0_10, .int .i64 a0_11, .int .i64 a0_12, .int .i64 a0_13, .int .i64 a0_14, .int .i64 a0_15, .int .i64 a0_16, .int .i64 a0_17, .int .i64 a0_18, .int .i64 a0_19, .string a0_20]] rfl (by (try simp only [List.map_toArray, List.map_cons, List.map_nil]); first | done | rfl | (simp only [List.length_drop, List.length_take]; rfl)) ?_; (with_reducible refine (gatepostref09_Lifetime.calls k a0_0 a0_1 a0_2 a0_3 a0_4 a0_5 a0_6 a0_7 a0_8 a0_9 a0_10 a0_11 a0_12 a0_13 a0_14 a0_15 a0_16 a0_17 a0_18 a0_19 a0_20 t144 _ A5.out).mono ?_); rintro e w13 ⟨rfl, hb⟩; refine ⟨_, rfl, ?_⟩; have n0_ := Aside0.mk (blk_below (g := gb141) (o := .cells #[.int .i64 a0_0, .bool a0_1, .bool a0_2, .bool a0_3, .bool a0_4, .bool a0_5, .bool a0_6, .bool a0_7, .int .i64 a0_8, .int .i64 a0_9, .int .i64 a0_10, .int .i64 a0_11, .int .i64 a0_12, .int .i64 a0_13, .int .i64 a0_14, .int .i64 a0_15, .int .i64 a0_16, .int .i64 a0_17, .int .i64 a0_18, .int .i64 a0_19, .string a0_20] 25 (0, 0)) (by (with_reducible repeat (first | refine blk_drewN ?_ _ | refine blk_drew ?_ | refine blk_alloc ?_ _)); exact BK141.out) hb); have n1_ := Aside0.mk (blk_below (g := gb142) (o := .cells #[.bool a1_0, .bool a1_1, .bool a1_2, .bool a1_3, .bool a1_4, .bool a1_5, .bool a1_6, .int .i64 a1_7, .int .i64 a1_8, .int .i64 a1_9, .int .i64 a1_10, .int .i64 a1_11, .int .i64 a1_12] 23 (0, 0)) (by (with_reducible repeat (first | refine blk_drewN ?_ _ | refine blk_drew ?_ | refine blk_alloc ?_ _)); exact BK142.out) hb); have n2_ := Aside0.mk (below_step (by repeat (first | (with_reducible first | exact HB.out | apply below_alloc | apply pw_below_drewN | apply below_drew1 | refine below_set ?_ GE141.out | refine below_set ?_ GE142.out) | exact HB.out)) hb); clear BK141; clear BK142; clear HB; have BK141 := n0_; have BK142 := n1_; have HB := n2_; clear n0_ n1_ n2_; (try clear hb); (try clear hb2); (try clear hk); (try clear hi)) | ((first | (with_reducible refine gate_dst (N := 10) rfl ?_) | (with_reducible refine gate_dst (N := 13) rfl ?_)); refine wpList_load_mid rfl 25 (.tmp 3) rfl _ _ (by rfl) [_, _, _, _, _, _, _, _, _, _, _, _, _, _, _, _, _, _, _, _, _] _ (cellsAt_range _ (by (repeat (refine ⟨by assumption, ?_⟩)); exact trivial)) Try.underlying25 rfl (by kernel_rfl) ?_))
  (try simp only [Act.put, List.setIfInBounds_toArray, List.set_cons_zero, List.set_cons_succ])
  go_cut [32] (fun v32 wc => ∃ (kq : Nat) (x32_5 : Bool), v32 = .bool x32_5 ∧ Aside0 (gatepostref09_State.j0 kq t143 t144 x32_5 a0_0 a0_1 a0_2 a0_3 a0_4 a0_5 a0_6 a0_7 a0_8 a0_9 a0_10 a0_11 a0_12 a0_13 a0_14 a0_15 a0_16 a0_17 a0_18 a0_19 a0_20 a1_0 a1_1 a1_2 a1_3 a1_4 a1_5 a1_6 a1_7 a1_8 a1_9 a1_10 a1_11 a1_12 = some r) ∧ Aside0 (kq ≤ k) ∧ Aside0 (wc.heap[gb141]? = some (.cells #[.int .i64 a0_0, .bool a0_1, .bool a0_2, .bool a0_3, .bool a0_4, .bool a0_5, .bool a0_6, .bool a0_7, .int .i64 a0_8, .int .i64 a0_9, .int .i64 a0_10, .int .i64 a0_11, .int .i64 a0_12, .int .i64 a0_13, .int .i64 a0_14, .int .i64 a0_15, .int .i64 a0_16, .int .i64 a0_17, .int .i64 a0_18, .int .i64 a0_19, .string a0_20] 25 (0, 0))) ∧ Aside0 (wc.heap[gb142]? = some (.cells #[.bool a1_0, .bool a1_1, .bool a1_2, .bool a1_3, .bool a1_4, .bool a1_5, .bool a1_6, .int .i64 a1_7, .int .i64 a1_8, .int .i64 a1_9, .int .i64 a1_10, .int .i64 a1_11, .int .i64 a1_12] 23 (0, 0))) ∧ Aside0 (Below w.heap.size w wc))
  case first =>
    have H := HC6.out
    clear HC6
    by_cases c14 : a1_1 = true
    · subst c14
      have H1 : (gatepostref09_State.j0 k t143 t144 true a0_0 a0_1 a0_2 a0_3 a0_4 a0_5 a0_6 a0_7 a0_8 a0_9 a0_10 a0_11 a0_12 a0_13 a0_14 a0_15 a0_16 a0_17 a0_18 a0_19 a0_20 a1_0 true a1_2 a1_3 a1_4 a1_5 a1_6 a1_7 a1_8 a1_9 a1_10 a1_11 a1_12) = some r := by rw [if_pos rfl] at H; exact H
      clear H
      have H := H1
      clear H1
      have H' := Aside0.mk H
      clear H
      have hnb15 := NB142_141.out
      have hnc15 := NB141_142.out
      have hcz16_0 : w13.cell? ⟨gb142, 0, none⟩ = some (.bool a1_0) := (blk_cell BK142.out 0).trans rfl
      have hcz16_1 : w13.cell? ⟨gb142, 1, none⟩ = some (.bool true) := (blk_cell BK142.out 1).trans rfl
      have hcz16_2 : w13.cell? ⟨gb142, 2, none⟩ = some (.bool a1_2) := (blk_cell BK142.out 2).trans rfl
      have hcz16_3 : w13.cell? ⟨gb142, 3, none⟩ = some (.bool a1_3) := (blk_cell BK142.out 3).trans rfl
      have hcz16_4 : w13.cell? ⟨gb142, 4, none⟩ = some (.bool a1_4) := (blk_cell BK142.out 4).trans rfl
      have hcz16_5 : w13.cell? ⟨gb142, 5, none⟩ = some (.bool a1_5) := (blk_cell BK142.out 5).trans rfl
      have hcz16_6 : w13.cell? ⟨gb142, 6, none⟩ = some (.bool a1_6) := (blk_cell BK142.out 6).trans rfl
      have hcz16_7 : w13.cell? ⟨gb142, 7, none⟩ = some (.int .i64 a1_7) := (blk_cell BK142.out 7).trans rfl
      have hcz16_8 : w13.cell? ⟨gb142, 8, none⟩ = some (.int .i64 a1_8) := (blk_cell BK142.out 8).trans rfl
      have hcz16_9 : w13.cell? ⟨gb142, 9, none⟩ = some (.int .i64 a1_9) := (blk_cell BK142.out 9).trans rfl
      have hcz16_10 : w13.cell? ⟨gb142, 10, none⟩ = some (.int .i64 a1_10) := (blk_cell BK142.out 10).trans rfl
      have hcz16_11 : w13.cell? ⟨gb142, 11, none⟩ = some (.int .i64 a1_11) := (blk_cell BK142.out 11).trans rfl
      have hcz16_12 : w13.cell? ⟨gb142, 12, none⟩ = some (.int .i64 a1_12) := (blk_cell BK142.out 12).trans rfl
      have hfz16_0 := blk_frozen BK142.out 0
      have hfz16_1 := blk_frozen BK142.out 1
      have hfz16_2 := blk_frozen BK142.out 2
      have hfz16_3 := blk_frozen BK142.out 3
      have hfz16_4 := blk_frozen BK142.out 4
      have hfz16_5 := blk_frozen BK142.out 5
      have hfz16_6 := blk_frozen BK142.out 6
      have hfz16_7 := blk_frozen BK142.out 7
      have hfz16_8 := blk_frozen BK142.out 8
      have hfz16_9 := blk_frozen BK142.out 9
      have hfz16_10 := blk_frozen BK142.out 10
      have hfz16_11 := blk_frozen BK142.out 11
      have hfz16_12 := blk_frozen BK142.out 12
      go_wp2_with (first | ((first | (with_reducible refine gate_dst (N := 10) rfl ?_) | (with_reducible refine gate_dst (N := 13) rfl ?_)); refine wpList_load_mid rfl 25 (.tmp 3) rfl _ _ (by rfl) [_, _, _, _, _, _, _, _, _, _, _, _, _, _, _, _, _, _, _, _, _] _ (cellsAt_range _ (by (repeat (refine ⟨by assumption, ?_⟩)); exact trivial)) Try.underlying25 rfl (by kernel_rfl) ?_))
      go_meet
      case rel => exact ⟨_, (true), (by first | rfl | (simp; done) | exact ret_ne _ | (simp [*]; done)), H', ⟨by first | omega | exact Nat.le_refl _⟩, ⟨by (with_reducible repeat (first | refine blk_drewN ?_ _ | refine blk_drew ?_ | refine blk_alloc ?_ _)); exact BK141.out⟩, ⟨by (with_reducible repeat (first | refine blk_drewN ?_ _ | refine blk_drew ?_ | refine blk_alloc ?_ _)); exact BK142.out⟩, ⟨by repeat (first | (with_reducible first | exact HB.out | apply below_alloc | apply pw_below_drewN | apply below_drew1 | refine below_set ?_ GE141.out | refine below_set ?_ GE142.out) | exact HB.out)⟩⟩
    · replace c14 := Bool.eq_false_iff.mpr c14
      subst c14
      have H1 : (if a0_2 = true then (gatepostref09_State.j0 k t143 t144 true a0_0 a0_1 a0_2 a0_3 a0_4 a0_5 a0_6 a0_7 a0_8 a0_9 a0_10 a0_11 a0_12 a0_13 a0_14 a0_15 a0_16 a0_17 a0_18 a0_19 a0_20 a1_0 false a1_2 a1_3 a1_4 a1_5 a1_6 a1_7 a1_8 a1_9 a1_10 a1_11 a1_12) else (if a1_7 ≥ 0 then (gatepostref09_State.j0 k t143 t144 (decide (a1_7 < t143)) a0_0 a0_1 a0_2 a0_3 a0_4 a0_5 a0_6 a0_7 a0_8 a0_9 a0_10 a0_11 a0_12 a0_13 a0_14 a0_15 a0_16 a0_17 a0_18 a0_19 a0_20 a1_0 false a1_2 a1_3 a1_4 a1_5 a1_6 a1_7 a1_8 a1_9 a1_10 a1_11 a1_12) else (gatepostref09_State.j0 k t143 t144 false a0_0 a0_1 a0_2 a0_3 a0_4 a0_5 a0_6 a0_7 a0_8 a0_9 a0_10 a0_11 a0_12 a0_13 a0_14 a0_15 a0_16 a0_17 a0_18 a0_19 a0_20 a1_0 false a1_2 a1_3 a1_4 a1_5 a1_6 a1_7 a1_8 a1_9 a1_10 a1_11 a1_12))) = some r := by rw [if_neg (show ¬ (false = true) by decide)] at H; exact H
      clear H
      have H := H1
      clear H1
      by_cases c17 : a0_2 = true
      · subst c17
        have H1 : (gatepostref09_State.j0 k t143 t144 true a0_0 a0_1 true a0_3 a0_4 a0_5 a0_6 a0_7 a0_8 a0_9 a0_10 a0_11 a0_12 a0_13 a0_14 a0_15 a0_16 a0_17 a0_18 a0_19 a0_20 a1_0 false a1_2 a1_3 a1_4 a1_5 a1_6 a1_7 a1_8 a1_9 a1_10 a1_11 a1_12) = some r := by rw [if_pos rfl] at H; exact H
        clear H
        have H := H1
        clear H1
        have H' := Aside0.mk H
        clear H
        have hnb18 := NB142_141.out
        have hnc18 := NB141_142.out
        have hcz19_0 : w13.cell? ⟨gb142, 0, none⟩ = some (.bool a1_0) := (blk_cell BK142.out 0).trans rfl
        have hcz19_1 : w13.cell? ⟨gb142, 1, none⟩ = some (.bool false) := (blk_cell BK142.out 1).trans rfl
        have hcz19_2 : w13.cell? ⟨gb142, 2, none⟩ = some (.bool a1_2) := (blk_cell BK142.out 2).trans rfl
        have hcz19_3 : w13.cell? ⟨gb142, 3, none⟩ = some (.bool a1_3) := (blk_cell BK142.out 3).trans rfl
        have hcz19_4 : w13.cell? ⟨gb142, 4, none⟩ = some (.bool a1_4) := (blk_cell BK142.out 4).trans rfl
        have hcz19_5 : w13.cell? ⟨gb142, 5, none⟩ = some (.bool a1_5) := (blk_cell BK142.out 5).trans rfl
        have hcz19_6 : w13.cell? ⟨gb142, 6, none⟩ = some (.bool a1_6) := (blk_cell BK142.out 6).trans rfl
        have hcz19_7 : w13.cell? ⟨gb142, 7, none⟩ = some (.int .i64 a1_7) := (blk_cell BK142.out 7).trans rfl
        have hcz19_8 : w13.cell? ⟨gb142, 8, none⟩ = some (.int .i64 a1_8) := (blk_cell BK142.out 8).trans rfl
        have hcz19_9 : w13.cell? ⟨gb142, 9, none⟩ = some (.int .i64 a1_9) := (blk_cell BK142.out 9).trans rfl
        have hcz19_10 : w13.cell? ⟨gb142, 10, none⟩ = some (.int .i64 a1_10) := (blk_cell BK142.out 10).trans rfl
        have hcz19_11 : w13.cell? ⟨gb142, 11, none⟩ = some (.int .i64 a1_11) := (blk_cell BK142.out 11).trans rfl
        have hcz19_12 : w13.cell? ⟨gb142, 12, none⟩ = some (.int .i64 a1_12) := (blk_cell BK142.out 12).trans rfl
        have hfz19_0 := blk_frozen BK142.out 0
        have hfz19_1 := blk_frozen BK142.out 1
        have hfz19_2 := blk_frozen BK142.out 2
        have hfz19_3 := blk_frozen BK142.out 3
        have hfz19_4 := blk_frozen BK142.out 4
        have hfz19_5 := blk_frozen BK142.out 5
        have hfz19_6 := blk_frozen BK142.out 6
        have hfz19_7 := blk_frozen BK142.out 7
        have hfz19_8 := blk_frozen BK142.out 8
        have hfz19_9 := blk_frozen BK142.out 9
        have hfz19_10 := blk_frozen BK142.out 10
        have hfz19_11 := blk_frozen BK142.out 11
        have hfz19_12 := blk_frozen BK142.out 12
        have hcz20_0 : w13.cell? ⟨gb141, 0, none⟩ = some (.int .i64 a0_0) := (blk_cell BK141.out 0).trans rfl
        have hcz20_1 : w13.cell? ⟨gb141, 1, none⟩ = some (.bool a0_1) := (blk_cell BK141.out 1).trans rfl
        have hcz20_2 : w13.cell? ⟨gb141, 2, none⟩ = some (.bool true) := (blk_cell BK141.out 2).trans rfl
        have hcz20_3 : w13.cell? ⟨gb141, 3, none⟩ = some (.bool a0_3) := (blk_cell BK141.out 3).trans rfl
        have hcz20_4 : w13.cell? ⟨gb141, 4, none⟩ = some (.bool a0_4) := (blk_cell BK141.out 4).trans rfl
        have hcz20_5 : w13.cell? ⟨gb141, 5, none⟩ = some (.bool a0_5) := (blk_cell BK141.out 5).trans rfl
        have hcz20_6 : w13.cell? ⟨gb141, 6, none⟩ = some (.bool a0_6) := (blk_cell BK141.out 6).trans rfl
        have hcz20_7 : w13.cell? ⟨gb141, 7, none⟩ = some (.bool a0_7) := (blk_cell BK141.out 7).trans rfl
        have hcz20_8 : w13.cell? ⟨gb141, 8, none⟩ = some (.int .i64 a0_8) := (blk_cell BK141.out 8).trans rfl
        have hcz20_9 : w13.cell? ⟨gb141, 9, none⟩ = some (.int .i64 a0_9) := (blk_cell BK141.out 9).trans rfl
        have hcz20_10 : w13.cell? ⟨gb141, 10, none⟩ = some (.int .i64 a0_10) := (blk_cell BK141.out 10).trans rfl
        have hcz20_11 : w13.cell? ⟨gb141, 11, none⟩ = some (.int .i64 a0_11) := (blk_cell BK141.out 11).trans rfl
        have hcz20_12 : w13.cell? ⟨gb141, 12, none⟩ = some (.int .i64 a0_12) := (blk_cell BK141.out 12).trans rfl
        have hcz20_13 : w13.cell? ⟨gb141, 13, none⟩ = some (.int .i64 a0_13) := (blk_cell BK141.out 13).trans rfl
        have hcz20_14 : w13.cell? ⟨gb141, 14, none⟩ = some (.int .i64 a0_14) := (blk_cell BK141.out 14).trans rfl
        have hcz20_15 : w13.cell? ⟨gb141, 15, none⟩ = some (.int .i64 a0_15) := (blk_cell BK141.out 15).trans rfl
        have hcz20_16 : w13.cell? ⟨gb141, 16, none⟩ = some (.int .i64 a0_16) := (blk_cell BK141.out 16).trans rfl
        have hcz20_17 : w13.cell? ⟨gb141, 17, none⟩ = some (.int .i64 a0_17) := (blk_cell BK141.out 17).trans rfl
        have hcz20_18 : w13.cell? ⟨gb141, 18, none⟩ = some (.int .i64 a0_18) := (blk_cell BK141.out 18).trans rfl
        have hcz20_19 : w13.cell? ⟨gb141, 19, none⟩ = some (.int .i64 a0_19) := (blk_cell BK141.out 19).trans rfl
        have hcz20_20 : w13.cell? ⟨gb141, 20, none⟩ = some (.string a0_20) := (blk_cell BK141.out 20).trans rfl
        have hfz20_0 := blk_frozen BK141.out 0
        have hfz20_1 := blk_frozen BK141.out 1
        have hfz20_2 := blk_frozen BK141.out 2
        have hfz20_3 := blk_frozen BK141.out 3
        have hfz20_4 := blk_frozen BK141.out 4
        have hfz20_5 := blk_frozen BK141.out 5
        have hfz20_6 := blk_frozen BK141.out 6
        have hfz20_7 := blk_frozen BK141.out 7
        have hfz20_8 := blk_frozen BK141.out 8
        have hfz20_9 := blk_frozen BK141.out 9
        have hfz20_10 := blk_frozen BK141.out 10
        have hfz20_11 := blk_frozen BK141.out 11
        have hfz20_12 := blk_frozen BK141.out 12
        have hfz20_13 := blk_frozen BK141.out 13
        have hfz20_14 := blk_frozen BK141.out 14
        have hfz20_15 := blk_frozen BK141.out 15
        have hfz20_16 := blk_frozen BK141.out 16
        have hfz20_17 := blk_frozen BK141.out 17
        have hfz20_18 := blk_frozen BK141.out 18
        have hfz20_19 := blk_frozen BK141.out 19
        have hfz20_20 := blk_frozen BK141.out 20
        go_wp2_with (first | ((first | (with_reducible refine gate_dst (N := 10) rfl ?_) | (with_reducible refine gate_dst (N := 13) rfl ?_)); refine wpList_load_mid rfl 25 (.tmp 3) rfl _ _ (by rfl) [_, _, _, _, _, _, _, _, _, _, _, _, _, _, _, _, _, _, _, _, _] _ (cellsAt_range _ (by (repeat (refine ⟨by assumption, ?_⟩)); exact trivial)) Try.underlying25 rfl (by kernel_rfl) ?_))
        go_meet
        case rel => exact ⟨_, (true), (by first | rfl | (simp; done) | exact ret_ne _ | (simp [*]; done)), H', ⟨by first | omega | exact Nat.le_refl _⟩, ⟨by (with_reducible repeat (first | refine blk_drewN ?_ _ | refine blk_drew ?_ | refine blk_alloc ?_ _)); exact BK141.out⟩, ⟨by (with_reducible repeat (first | refine blk_drewN ?_ _ | refine blk_drew ?_ | refine blk_alloc ?_ _)); exact BK142.out⟩, ⟨by repeat (first | (with_reducible first | exact HB.out | apply below_alloc | apply pw_below_drewN | apply below_drew1 | refine below_set ?_ GE141.out | refine below_set ?_ GE142.out) | exact HB.out)⟩⟩
      · replace c17 := Bool.eq_false_iff.mpr c17
        subst c17
        have H1 : (if a1_7 ≥ 0 then (gatepostref09_State.j0 k t143 t144 (decide (a1_7 < t143)) a0_0 a0_1 false a0_3 a0_4 a0_5 a0_6 a0_7 a0_8 a0_9 a0_10 a0_11 a0_12 a0_13 a0_14 a0_15 a0_16 a0_17 a0_18 a0_19 a0_20 a1_0 false a1_2 a1_3 a1_4 a1_5 a1_6 a1_7 a1_8 a1_9 a1_10 a1_11 a1_12) else (gatepostref09_State.j0 k t143 t144 false a0_0 a0_1 false a0_3 a0_4 a0_5 a0_6 a0_7 a0_8 a0_9 a0_10 a0_11 a0_12 a0_13 a0_14 a0_15 a0_16 a0_17 a0_18 a0_19 a0_20 a1_0 false a1_2 a1_3 a1_4 a1_5 a1_6 a1_7 a1_8 a1_9 a1_10 a1_11 a1_12)) = some r := by rw [if_neg (show ¬ (false = true) by decide)] at H; exact H
        clear H
        have H := H1
        clear H1
        by_cases c21 : a1_7 ≥ 0
        · rw [if_pos c21] at H
          have c21b0 : decide (0 ≤ a1_7) = true := decide_eq_true c21
          clear c21
          (first | rw [c21b0] | (simp only [i64_w, i32_w]; rw [c21b0]) | skip)
          have H' := Aside0.mk H
          clear H
          have hnb22 := NB142_141.out
          have hnc22 := NB141_142.out
          have hcz23_0 : w13.cell? ⟨gb142, 0, none⟩ = some (.bool a1_0) := (blk_cell BK142.out 0).trans rfl
          have hcz23_1 : w13.cell? ⟨gb142, 1, none⟩ = some (.bool false) := (blk_cell BK142.out 1).trans rfl
          have hcz23_2 : w13.cell? ⟨gb142, 2, none⟩ = some (.bool a1_2) := (blk_cell BK142.out 2).trans rfl
          have hcz23_3 : w13.cell? ⟨gb142, 3, none⟩ = some (.bool a1_3) := (blk_cell BK142.out 3).trans rfl
          have hcz23_4 : w13.cell? ⟨gb142, 4, none⟩ = some (.bool a1_4) := (blk_cell BK142.out 4).trans rfl
          have hcz23_5 : w13.cell? ⟨gb142, 5, none⟩ = some (.bool a1_5) := (blk_cell BK142.out 5).trans rfl
          have hcz23_6 : w13.cell? ⟨gb142, 6, none⟩ = some (.bool a1_6) := (blk_cell BK142.out 6).trans rfl
          have hcz23_7 : w13.cell? ⟨gb142, 7, none⟩ = some (.int .i64 a1_7) := (blk_cell BK142.out 7).trans rfl
          have hcz23_8 : w13.cell? ⟨gb142, 8, none⟩ = some (.int .i64 a1_8) := (blk_cell BK142.out 8).trans rfl
          have hcz23_9 : w13.cell? ⟨gb142, 9, none⟩ = some (.int .i64 a1_9) := (blk_cell BK142.out 9).trans rfl
          have hcz23_10 : w13.cell? ⟨gb142, 10, none⟩ = some (.int .i64 a1_10) := (blk_cell BK142.out 10).trans rfl
          have hcz23_11 : w13.cell? ⟨gb142, 11, none⟩ = some (.int .i64 a1_11) := (blk_cell BK142.out 11).trans rfl
          have hcz23_12 : w13.cell? ⟨gb142, 12, none⟩ = some (.int .i64 a1_12) := (blk_cell BK142.out 12).trans rfl
          have hfz23_0 := blk_frozen BK142.out 0
          have hfz23_1 := blk_frozen BK142.out 1
          have hfz23_2 := blk_frozen BK142.out 2
          have hfz23_3 := blk_frozen BK142.out 3
          have hfz23_4 := blk_frozen BK142.out 4
          have hfz23_5 := blk_frozen BK142.out 5
          have hfz23_6 := blk_frozen BK142.out 6
          have hfz23_7 := blk_frozen BK142.out 7
          have hfz23_8 := blk_frozen BK142.out 8
          have hfz23_9 := blk_frozen BK142.out 9
          have hfz23_10 := blk_frozen BK142.out 10
          have hfz23_11 := blk_frozen BK142.out 11
          have hfz23_12 := blk_frozen BK142.out 12
          have hcz24_0 : w13.cell? ⟨gb141, 0, none⟩ = some (.int .i64 a0_0) := (blk_cell BK141.out 0).trans rfl
          have hcz24_1 : w13.cell? ⟨gb141, 1, none⟩ = some (.bool a0_1) := (blk_cell BK141.out 1).trans rfl
          have hcz24_2 : w13.cell? ⟨gb141, 2, none⟩ = some (.bool false) := (blk_cell BK141.out 2).trans rfl
          have hcz24_3 : w13.cell? ⟨gb141, 3, none⟩ = some (.bool a0_3) := (blk_cell BK141.out 3).trans rfl
          have hcz24_4 : w13.cell? ⟨gb141, 4, none⟩ = some (.bool a0_4) := (blk_cell BK141.out 4).trans rfl
          have hcz24_5 : w13.cell? ⟨gb141, 5, none⟩ = some (.bool a0_5) := (blk_cell BK141.out 5).trans rfl
          have hcz24_6 : w13.cell? ⟨gb141, 6, none⟩ = some (.bool a0_6) := (blk_cell BK141.out 6).trans rfl
          have hcz24_7 : w13.cell? ⟨gb141, 7, none⟩ = some (.bool a0_7) := (blk_cell BK141.out 7).trans rfl
          have hcz24_8 : w13.cell? ⟨gb141, 8, none⟩ = some (.int .i64 a0_8) := (blk_cell BK141.out 8).trans rfl
          have hcz24_9 : w13.cell? ⟨gb141, 9, none⟩ = some (.int .i64 a0_9) := (blk_cell BK141.out 9).trans rfl
          have hcz24_10 : w13.cell? ⟨gb141, 10, none⟩ = some (.int .i64 a0_10) := (blk_cell BK141.out 10).trans rfl
          have hcz24_11 : w13.cell? ⟨gb141, 11, none⟩ = some (.int .i64 a0_11) := (blk_cell BK141.out 11).trans rfl
          have hcz24_12 : w13.cell? ⟨gb141, 12, none⟩ = some (.int .i64 a0_12) := (blk_cell BK141.out 12).trans rfl
          have hcz24_13 : w13.cell? ⟨gb141, 13, none⟩ = some (.int .i64 a0_13) := (blk_cell BK141.out 13).trans rfl
          have hcz24_14 : w13.cell? ⟨gb141, 14, none⟩ = some (.int .i64 a0_14) := (blk_cell BK141.out 14).trans rfl
          have hcz24_15 : w13.cell? ⟨gb141, 15, none⟩ = some (.int .i64 a0_15) := (blk_cell BK141.out 15).trans rfl
          have hcz24_16 : w13.cell? ⟨gb141, 16, none⟩ = some (.int .i64 a0_16) := (blk_cell BK141.out 16).trans rfl
          have hcz24_17 : w13.cell? ⟨gb141, 17, none⟩ = some (.int .i64 a0_17) := (blk_cell BK141.out 17).trans rfl
          have hcz24_18 : w13.cell? ⟨gb141, 18, none⟩ = some (.int .i64 a0_18) := (blk_cell BK141.out 18).trans rfl
          have hcz24_19 : w13.cell? ⟨gb141, 19, none⟩ = some (.int .i64 a0_19) := (blk_cell BK141.out 19).trans rfl
          have hcz24_20 : w13.cell? ⟨gb141, 20, none⟩ = some (.string a0_20) := (blk_cell BK141.out 20).trans rfl
          have hfz24_0 := blk_frozen BK141.out 0
          have hfz24_1 := blk_frozen BK141.out 1
          have hfz24_2 := blk_frozen BK141.out 2
          have hfz24_3 := blk_frozen BK141.out 3
          have hfz24_4 := blk_frozen BK141.out 4
          have hfz24_5 := blk_frozen BK141.out 5
          have hfz24_6 := blk_frozen BK141.out 6
          have hfz24_7 := blk_frozen BK141.out 7
          have hfz24_8 := blk_frozen BK141.out 8
          have hfz24_9 := blk_frozen BK141.out 9
          have hfz24_10 := blk_frozen BK141.out 10
          have hfz24_11 := blk_frozen BK141.out 11
          have hfz24_12 := blk_frozen BK141.out 12
          have hfz24_13 := blk_frozen BK141.out 13
          have hfz24_14 := blk_frozen BK141.out 14
          have hfz24_15 := blk_frozen BK141.out 15
          have hfz24_16 := blk_frozen BK141.out 16
          have hfz24_17 := blk_frozen BK141.out 17
          have hfz24_18 := blk_frozen BK141.out 18
          have hfz24_19 := blk_frozen BK141.out 19
          have hfz24_20 := blk_frozen BK141.out 20
          go_wp2_with (first | ((first | (with_reducible refine gate_dst (N := 10) rfl ?_) | (with_reducible refine gate_dst (N := 13) rfl ?_)); refine wpList_load_mid rfl 25 (.tmp 3) rfl _ _ (by rfl) [_, _, _, _, _, _, _, _, _, _, _, _, _, _, _, _, _, _, _, _, _] _ (cellsAt_range _ (by (repeat (refine ⟨by assumption, ?_⟩)); exact trivial)) Try.underlying25 rfl (by kernel_rfl) ?_))
          go_meet
          case rel => exact ⟨_, (decide (a1_7 < t143)), (by first | rfl | (simp; done) | exact ret_ne _ | (simp [*]; done)), H', ⟨by first | omega | exact Nat.le_refl _⟩, ⟨by (with_reducible repeat (first | refine blk_drewN ?_ _ | refine blk_drew ?_ | refine blk_alloc ?_ _)); exact BK141.out⟩, ⟨by (with_reducible repeat (first | refine blk_drewN ?_ _ | refine blk_drew ?_ | refine blk_alloc ?_ _)); exact BK142.out⟩, ⟨by repeat (first | (with_reducible first | exact HB.out | apply below_alloc | apply pw_below_drewN | apply below_drew1 | refine below_set ?_ GE141.out | refine below_set ?_ GE142.out) | exact HB.out)⟩⟩
        · rw [if_neg c21] at H
          have c21b0 : decide (0 ≤ a1_7) = false := decide_eq_false c21
          clear c21
          (first | rw [c21b0] | (simp only [i64_w, i32_w]; rw [c21b0]) | skip)
          have H' := Aside0.mk H
          clear H
          have hnb25 := NB142_141.out
          have hnc25 := NB141_142.out
          have hcz26_0 : w13.cell? ⟨gb142, 0, none⟩ = some (.bool a1_0) := (blk_cell BK142.out 0).trans rfl
          have hcz26_1 : w13.cell? ⟨gb142, 1, none⟩ = some (.bool false) := (blk_cell BK142.out 1).trans rfl
          have hcz26_2 : w13.cell? ⟨gb142, 2, none⟩ = some (.bool a1_2) := (blk_cell BK142.out 2).trans rfl
          have hcz26_3 : w13.cell? ⟨gb142, 3, none⟩ = some (.bool a1_3) := (blk_cell BK142.out 3).trans rfl
          have hcz26_4 : w13.cell? ⟨gb142, 4, none⟩ = some (.bool a1_4) := (blk_cell BK142.out 4).trans rfl
          have hcz26_5 : w13.cell? ⟨gb142, 5, none⟩ = some (.bool a1_5) := (blk_cell BK142.out 5).trans rfl
          have hcz26_6 : w13.cell? ⟨gb142, 6, none⟩ = some (.bool a1_6) := (blk_cell BK142.out 6).trans rfl
          have hcz26_7 : w13.cell? ⟨gb142, 7, none⟩ = some (.int .i64 a1_7) := (blk_cell BK142.out 7).trans rfl
          have hcz26_8 : w13.cell? ⟨gb142, 8, none⟩ = some (.int .i64 a1_8) := (blk_cell BK142.out 8).trans rfl
          have hcz26_9 : w13.cell? ⟨gb142, 9, none⟩ = some (.int .i64 a1_9) := (blk_cell BK142.out 9).trans rfl
          have hcz26_10 : w13.cell? ⟨gb142, 10, none⟩ = some (.int .i64 a1_10) := (blk_cell BK142.out 10).trans rfl
          have hcz26_11 : w13.cell? ⟨gb142, 11, none⟩ = some (.int .i64 a1_11) := (blk_cell BK142.out 11).trans rfl
          have hcz26_12 : w13.cell? ⟨gb142, 12, none⟩ = some (.int .i64 a1_12) := (blk_cell BK142.out 12).trans rfl
          have hfz26_0 := blk_frozen BK142.out 0
          have hfz26_1 := blk_frozen BK142.out 1
          have hfz26_2 := blk_frozen BK142.out 2
          have hfz26_3 := blk_frozen BK142.out 3
          have hfz26_4 := blk_frozen BK142.out 4
          have hfz26_5 := blk_frozen BK142.out 5
          have hfz26_6 := blk_frozen BK142.out 6
          have hfz26_7 := blk_frozen BK142.out 7
          have hfz26_8 := blk_frozen BK142.out 8
          have hfz26_9 := blk_frozen BK142.out 9
          have hfz26_10 := blk_frozen BK142.out 10
          have hfz26_11 := blk_frozen BK142.out 11
          have hfz26_12 := blk_frozen BK142.out 12
          have hcz27_0 : w13.cell? ⟨gb141, 0, none⟩ = some (.int .i64 a0_0) := (blk_cell BK141.out 0).trans rfl
          have hcz27_1 : w13.cell? ⟨gb141, 1, none⟩ = some (.bool a0_1) := (blk_cell BK141.out 1).trans rfl
          have hcz27_2 : w13.cell? ⟨gb141, 2, none⟩ = some (.bool false) := (blk_cell BK141.out 2).trans rfl
          have hcz27_3 : w13.cell? ⟨gb141, 3, none⟩ = some (.bool a0_3) := (blk_cell BK141.out 3).trans rfl
          have hcz27_4 : w13.cell? ⟨gb141, 4, none⟩ = some (.bool a0_4) := (blk_cell BK141.out 4).trans rfl
          have hcz27_5 : w13.cell? ⟨gb141, 5, none⟩ = some (.bool a0_5) := (blk_cell BK141.out 5).trans rfl
          have hcz27_6 : w13.cell? ⟨gb141, 6, none⟩ = some (.bool a0_6) := (blk_cell BK141.out 6).trans rfl
          have hcz27_7 : w13.cell? ⟨gb141, 7, none⟩ = some (.bool a0_7) := (blk_cell BK141.out 7).trans rfl
          have hcz27_8 : w13.cell? ⟨gb141, 8, none⟩ = some (.int .i64 a0_8) := (blk_cell BK141.out 8).trans rfl
          have hcz27_9 : w13.cell? ⟨gb141, 9, none⟩ = some (.int .i64 a0_9) := (blk_cell BK141.out 9).trans rfl
          have hcz27_10 : w13.cell? ⟨gb141, 10, none⟩ = some (.int .i64 a0_10) := (blk_cell BK141.out 10).trans rfl
          have hcz27_11 : w13.cell? ⟨gb141, 11, none⟩ = some (.int .i64 a0_11) := (blk_cell BK141.out 11).trans rfl
          have hcz27_12 : w13.cell? ⟨gb141, 12, none⟩ = some (.int .i64 a0_12) := (blk_cell BK141.out 12).trans rfl
          have hcz27_13 : w13.cell? ⟨gb141, 13, none⟩ = some (.int .i64 a0_13) := (blk_cell BK141.out 13).trans rfl
          have hcz27_14 : w13.cell? ⟨gb141, 14, none⟩ = some (.int .i64 a0_14) := (blk_cell BK141.out 14).trans rfl
          have hcz27_15 : w13.cell? ⟨gb141, 15, none⟩ = some (.int .i64 a0_15) := (blk_cell BK141.out 15).trans rfl
          have hcz27_16 : w13.cell? ⟨gb141, 16, none⟩ = some (.int .i64 a0_16) := (blk_cell BK141.out 16).trans rfl
          have hcz27_17 : w13.cell? ⟨gb141, 17, none⟩ = some (.int .i64 a0_17) := (blk_cell BK141.out 17).trans rfl
          have hcz27_18 : w13.cell? ⟨gb141, 18, none⟩ = some (.int .i64 a0_18) := (blk_cell BK141.out 18).trans rfl
          have hcz27_19 : w13.cell? ⟨gb141, 19, none⟩ = some (.int .i64 a0_19) := (blk_cell BK141.out 19).trans rfl
          have hcz27_20 : w13.cell? ⟨gb141, 20, none⟩ = some (.string a0_20) := (blk_cell BK141.out 20).trans rfl
          have hfz27_0 := blk_frozen BK141.out 0
          have hfz27_1 := blk_frozen BK141.out 1
          have hfz27_2 := blk_frozen BK141.out 2
          have hfz27_3 := blk_frozen BK141.out 3
          have hfz27_4 := blk_frozen BK141.out 4
          have hfz27_5 := blk_frozen BK141.out 5
          have hfz27_6 := blk_frozen BK141.out 6
          have hfz27_7 := blk_frozen BK141.out 7
          have hfz27_8 := blk_frozen BK141.out 8
          have hfz27_9 := blk_frozen BK141.out 9
          have hfz27_10 := blk_frozen BK141.out 10
          have hfz27_11 := blk_frozen BK141.out 11
          have hfz27_12 := blk_frozen BK141.out 12
          have hfz27_13 := blk_frozen BK141.out 13
          have hfz27_14 := blk_frozen BK141.out 14
          have hfz27_15 := blk_frozen BK141.out 15
          have hfz27_16 := blk_frozen BK141.out 16
          have hfz27_17 := blk_frozen BK141.out 17
          have hfz27_18 := blk_frozen BK141.out 18
          have hfz27_19 := blk_frozen BK141.out 19
          have hfz27_20 := blk_frozen BK141.out 20
          go_wp2_with (first | ((first | (with_reducible refine gate_dst (N := 10) rfl ?_) | (with_reducible refine gate_dst (N := 13) rfl ?_)); refine wpList_load_mid rfl 25 (.tmp 3) rfl _ _ (by rfl) [_, _, _, _, _, _, _, _, _, _, _, _, _, _, _, _, _, _, _, _, _] _ (cellsAt_range _ (by (repeat (refine ⟨by assumption, ?_⟩)); exact trivial)) Try.underlying25 rfl (by kernel_rfl) ?_))
          go_meet
          case rel => exact ⟨_, (false), (by first | rfl | (simp; done) | exact ret_ne _ | (simp [*]; done)), H', ⟨by first | omega | exact Nat.le_refl _⟩, ⟨by (with_reducible repeat (first | refine blk_drewN ?_ _ | refine blk_drew ?_ | refine blk_alloc ?_ _)); exact BK141.out⟩, ⟨by (with_reducible repeat (first | refine blk_drewN ?_ _ | refine blk_drew ?_ | refine blk_alloc ?_ _)); exact BK142.out⟩, ⟨by repeat (first | (with_reducible first | exact HB.out | apply below_alloc | apply pw_below_drewN | apply below_drew1 | refine below_set ?_ GE141.out | refine below_set ?_ GE142.out) | exact HB.out)⟩⟩
  case rest =>
    clear HC6
    try clear c1
    try clear c2
    try clear p2
    try clear c9
    try clear c10
    try clear c12
    try clear c14
    try clear c15
    try clear c17
    try clear c18
    try clear c21
    try clear c21b0
    try clear c22
    try clear c25
    try clear hcz10_0
    try clear hcz10_1
    try clear hcz10_10
    try clear hcz10_11
    try clear hcz10_12
    try clear hcz10_13
    try clear hcz10_14
    try clear hcz10_15
    try clear hcz10_16
    try clear hcz10_17
    try clear hcz10_18
    try clear hcz10_19
    try clear hcz10_2
    try clear hcz10_20
    try clear hcz10_3
    try clear hcz10_4
    try clear hcz10_5
    try clear hcz10_6
    try clear hcz10_7
    try clear hcz10_8
    try clear hcz10_9
    try clear hcz12_0
    try clear hcz12_1
    try clear hcz12_10
    try clear hcz12_11
    try clear hcz12_12
    try clear hcz12_13
    try clear hcz12_14
    try clear hcz12_15
    try clear hcz12_16
    try clear hcz12_17
    try clear hcz12_18
    try clear hcz12_19
    try clear hcz12_2
    try clear hcz12_20
    try clear hcz12_3
    try clear hcz12_4
    try clear hcz12_5
    try clear hcz12_6
    try clear hcz12_7
    try clear hcz12_8
    try clear hcz12_9
    try clear hcz16_0
    try clear hcz16_1
    try clear hcz16_10
    try clear hcz16_11
    try clear hcz16_12
    try clear hcz16_2
    try clear hcz16_3
    try clear hcz16_4
    try clear hcz16_5
    try clear hcz16_6
    try clear hcz16_7
    try clear hcz16_8
    try clear hcz16_9
    try clear hcz19_0
    try clear hcz19_1
    try clear hcz19_10
    try clear hcz19_11
    try clear hcz19_12
    try clear hcz19_2
    try clear hcz19_3
    try clear hcz19_4
    try clear hcz19_5
    try clear hcz19_6
    try clear hcz19_7
    try clear hcz19_8
    try clear hcz19_9
    try clear hcz20_0
    try clear hcz20_1
    try clear hcz20_10
    try clear hcz20_11
    try clear hcz20_12
    try clear hcz20_13
    try clear hcz20_14
    try clear hcz20_15
    try clear hcz20_16
    try clear hcz20_17
    try clear hcz20_18
    try clear hcz20_19
    try clear hcz20_2
    try clear hcz20_20
    try clear hcz20_3
    try clear hcz20_4
    try clear hcz20_5
    try clear hcz20_6
    try clear hcz20_7
    try clear hcz20_8
    try clear hcz20_9
    try clear hcz23_0
    try clear hcz23_1
    try clear hcz23_10
    try clear hcz23_11
    try clear hcz23_12
    try clear hcz23_2
    try clear hcz23_3
    try clear hcz23_4
    try clear hcz23_5
    try clear hcz23_6
    try clear hcz23_7
    try clear hcz23_8
    try clear hcz23_9
    try clear hcz24_0
    try clear hcz24_1
    try clear hcz24_10
    try clear hcz24_11
    try clear hcz24_12
    try clear hcz24_13
    try clear hcz24_14
    try clear hcz24_15
    try clear hcz24_16
    try clear hcz24_17
    try clear hcz24_18
    try clear hcz24_19
    try clear hcz24_2
    try clear hcz24_20
    try clear hcz24_3
    try clear hcz24_4
    try clear hcz24_5
    try clear hcz24_6
    try clear hcz24_7
    try clear hcz24_8
    try clear hcz24_9
    try clear hcz26_0
    try clear hcz26_1
    try clear hcz26_10
    try clear hcz26_11
    try clear hcz26_12
    try clear hcz26_2
    try clear hcz26_3
    try clear hcz26_4
    try clear hcz26_5
    try clear hcz26_6
    try clear hcz26_7
    try clear hcz26_8
    try clear hcz26_9
    try clear hcz27_0
    try clear hcz27_1
    try clear hcz27_10
    try clear hcz27_11
    try clear hcz27_12
    try clear hcz27_13
    try clear hcz27_14
    try clear hcz27_15
    try clear hcz27_16
    try clear hcz27_17
    try clear hcz27_18
    try clear hcz27_19
    try clear hcz27_2
    try clear hcz27_20
    try clear hcz27_3
    try clear hcz27_4
    try clear hcz27_5
    try clear hcz27_6
    try clear hcz27_7
    try clear hcz27_8
    try clear hcz27_9
    try clear hfz10_0
    try clear hfz10_1
    try clear hfz10_10
    try clear hfz10_11
    try clear hfz10_12
    try clear hfz10_13
    try clear hfz10_14
    try clear hfz10_15
    try clear hfz10_16
    try clear hfz10_17
    try clear hfz10_18
    try clear hfz10_19
    try clear hfz10_2
    try clear hfz10_20
    try clear hfz10_3
    try clear hfz10_4
    try clear hfz10_5
    try clear hfz10_6
    try clear hfz10_7
    try clear hfz10_8
    try clear hfz10_9
    try clear hfz12_0
    try clear hfz12_1
    try clear hfz12_10
    try clear hfz12_11
    try clear hfz12_12
    try clear hfz12_13
    try clear hfz12_14
    try clear hfz12_15
    try clear hfz12_16
    try clear hfz12_17
    try clear hfz12_18
    try clear hfz12_19
    try clear hfz12_2
    try clear hfz12_20
    try clear hfz12_3
    try clear hfz12_4
    try clear hfz12_5
    try clear hfz12_6
    try clear hfz12_7
    try clear hfz12_8
    try clear hfz12_9
    try clear hfz16_0
    try clear hfz16_1
    try clear hfz16_10
    try clear hfz16_11
    try clear hfz16_12
    try clear hfz16_2
    try clear hfz16_3
    try clear hfz16_4
    try clear hfz16_5
    try clear hfz16_6
    try clear hfz16_7
    try clear hfz16_8
    try clear hfz16_9
    try clear hfz19_0
    try clear hfz19_1
    try clear hfz19_10
    try clear hfz19_11
    try clear hfz19_12
    try clear hfz19_2
    try clear hfz19_3
    try clear hfz19_4
    try clear hfz19_5
    try clear hfz19_6
    try clear hfz19_7
    try clear hfz19_8
    try clear hfz19_9
    try clear hfz20_0
    try clear hfz20_1
    try clear hfz20_10
    try clear hfz20_11
    try clear hfz20_12
    try clear hfz20_13
    try clear hfz20_14
    try clear hfz20_15
    try clear hfz20_16
    try clear hfz20_17
    try clear hfz20_18
    try clear hfz20_19
    try clear hfz20_2
    try clear hfz20_20
    try clear hfz20_3
    try clear hfz20_4
    try clear hfz20_5
    try clear hfz20_6
    try clear hfz20_7
    try clear hfz20_8
    try clear hfz20_9
    try clear hfz23_0
    try clear hfz23_1
    try clear hfz23_10
    try clear hfz23_11
    try clear hfz23_12
    try clear hfz23_2
    try clear hfz23_3
    try clear hfz23_4
    try clear hfz23_5
    try clear hfz23_6
    try clear hfz23_7
    try clear hfz23_8
    try clear hfz23_9
    try clear hfz24_0
    try clear hfz24_1
    try clear hfz24_10
    try clear hfz24_11
    try clear hfz24_12
    try clear hfz24_13
    try clear hfz24_14
    try clear hfz24_15
    try clear hfz24_16
    try clear hfz24_17
    try clear hfz24_18
    try clear hfz24_19
    try clear hfz24_2
    try clear hfz24_20
    try clear hfz24_3
    try clear hfz24_4
    try clear hfz24_5
    try clear hfz24_6
    try clear hfz24_7
    try clear hfz24_8
    try clear hfz24_9
    try clear hfz26_0
    try clear hfz26_1
    try clear hfz26_10
    try clear hfz26_11
    try clear hfz26_12
    try clear hfz26_2
    try clear hfz26_3
    try clear hfz26_4
    try clear hfz26_5
    try clear hfz26_6
    try clear hfz26_7
    try clear hfz26_8
    try clear hfz26_9
    try clear hfz27_0
    try clear hfz27_1
    try clear hfz27_10
    try clear hfz27_11
    try clear hfz27_12
    try clear hfz27_13
    try clear hfz27_14
    try clear hfz27_15
    try clear hfz27_16
    try clear hfz27_17
    try clear hfz27_18
    try clear hfz27_19
    try clear hfz27_2
    try clear hfz27_20
    try clear hfz27_3
    try clear hfz27_4
    try clear hfz27_5
    try clear hfz27_6
    try clear hfz27_7
    try clear hfz27_8
    try clear hfz27_9
    obtain ⟨kq, x32_5, rfl, HA, HJ5, BK141, BK142, HB⟩ := hcut
    cases kq with
    | zero => exact absurd HA.out (by simp [gatepostref09_State.j0])
    | succ kj5 =>
      have H := HA.out
      clear HA
      simp only [gatepostref09_State.j0] at H
      by_cases c28 : x32_5 = true
      · subst c28
        have H1 : (some 2) = some r := by rw [if_pos rfl] at H; exact H
        clear H
        have H := H1
        clear H1
        obtain rfl := Option.some.inj H
        go_wp2_with (first | ((first | (with_reducible refine gate_dst (N := 10) rfl ?_) | (with_reducible refine gate_dst (N := 13) rfl ?_)); refine wpList_load_mid rfl 25 (.tmp 3) rfl _ _ (by rfl) [_, _, _, _, _, _, _, _, _, _, _, _, _, _, _, _, _, _, _, _, _] _ (cellsAt_range _ (by (repeat (refine ⟨by assumption, ?_⟩)); exact trivial)) Try.underlying25 rfl (by kernel_rfl) ?_))
        go_ret
        exact ⟨by first | rfl | (simp [errW_none, errW_some] <;> rfl) | (simp [*, errW_none, errW_some] <;> rfl), by repeat (first | (with_reducible first | exact HB.out | apply below_alloc | apply pw_below_drewN | apply below_drew1 | refine below_set ?_ GE141.out | refine below_set ?_ GE142.out) | exact HB.out)⟩
      · replace c28 := Bool.eq_false_iff.mpr c28
        subst c28
        have H1 : (if t143 < t144 then (if a1_11 ≥ 0 then (if a1_11 > (wrap64 (t144 - t143)) then (some 2) else (some 0)) else (some 0)) else (if a0_5 = true then (gatepostref09_State.j1 kj5 (wrap64 (t143 - t144)) true a0_0 a0_1 a0_2 a0_3 a0_4 a0_5 a0_6 a0_7 a0_8 a0_9 a0_10 a0_11 a0_12 a0_13 a0_14 a0_15 a0_16 a0_17 a0_18 a0_19 a0_20 a1_0 a1_1 a1_2 a1_3 a1_4 a1_5 a1_6 a1_7 a1_8 a1_9 a1_10 a1_11 a1_12) else (if a0_6 = true then (gatepostref09_State.j1 kj5 (wrap64 (t143 - t144)) true a0_0 a0_1 a0_2 a0_3 a0_4 a0_5 a0_6 a0_7 a0_8 a0_9 a0_10 a0_11 a0_12 a0_13 a0_14 a0_15 a0_16 a0_17 a0_18 a0_19 a0_20 a1_0 a1_1 a1_2 a1_3 a1_4 a1_5 a1_6 a1_7 a1_8 a1_9 a1_10 a1_11 a1_12) else (gatepostref09_State.j1 kj5 (wrap64 (t143 - t144)) (decide (a0_9 ≥ 0)) a0_0 a0_1 a0_2 a0_3 a0_4 a0_5 a0_6 a0_7 a0_8 a0_9 a0_10 a0_11 a0_12 a0_13 a0_14 a0_15 a0_16 a0_17 a0_18 a0_19 a0_20 a1_0 a1_1 a1_2 a1_3 a1_4 a1_5 a1_6 a1_7 a1_8 a1_9 a1_10 a1_11 a1_12)))) = some r := by rw [if_neg (show ¬ (false = true) by decide)] at H; exact H
        clear H
        have H := H1
        clear H1
        by_cases c29 : t143 < t144
        · rw [if_pos c29] at H
          have c29b0 : decide (t143 < t144) = true := decide_eq_true c29
          clear c29
          by_cases c30 : a1_11 ≥ 0
          · rw [if_pos c30] at H
            have c30b0 : decide (0 ≤ a1_11) = true := decide_eq_true c30
            clear c30
            by_cases c31 : a1_11 > (wrap64 (t144 - t143))
            · rw [if_pos c31] at H
              have c31b0 : decide ((wrap64 (t144 - t143)) < a1_11) = true := decide_eq_true c31
              clear c31
              obtain rfl := Option.some.inj H
              have hnb32 := NB142_141.out
              have hnc32 := NB141_142.out
              have hcz33_0 : wc.cell? ⟨gb142, 0, none⟩ = some (.bool a1_0) := (blk_cell BK142.out 0).trans rfl
              have hcz33_1 : wc.cell? ⟨gb142, 1, none⟩ = some (.bool a1_1) := (blk_cell BK142.out 1).trans rfl
              have hcz33_2 : wc.cell? ⟨gb142, 2, none⟩ = some (.bool a1_2) := (blk_cell BK142.out 2).trans rfl
              have hcz33_3 : wc.cell? ⟨gb142, 3, none⟩ = some (.bool a1_3) := (blk_cell BK142.out 3).trans rfl
              have hcz33_4 : wc.cell? ⟨gb142, 4, none⟩ = some (.bool a1_4) := (blk_cell BK142.out 4).trans rfl
              have hcz33_5 : wc.cell? ⟨gb142, 5, none⟩ = some (.bool a1_5) := (blk_cell BK142.out 5).trans rfl
              have hcz33_6 : wc.cell? ⟨gb142, 6, none⟩ = some (.bool a1_6) := (blk_cell BK142.out 6).trans rfl
              have hcz33_7 : wc.cell? ⟨gb142, 7, none⟩ = some (.int .i64 a1_7) := (blk_cell BK142.out 7).trans rfl
              have hcz33_8 : wc.cell? ⟨gb142, 8, none⟩ = some (.int .i64 a1_8) := (blk_cell BK142.out 8).trans rfl
              have hcz33_9 : wc.cell? ⟨gb142, 9, none⟩ = some (.int .i64 a1_9) := (blk_cell BK142.out 9).trans rfl
              have hcz33_10 : wc.cell? ⟨gb142, 10, none⟩ = some (.int .i64 a1_10) := (blk_cell BK142.out 10).trans rfl
              have hcz33_11 : wc.cell? ⟨gb142, 11, none⟩ = some (.int .i64 a1_11) := (blk_cell BK142.out 11).trans rfl
              have hcz33_12 : wc.cell? ⟨gb142, 12, none⟩ = some (.int .i64 a1_12) := (blk_cell BK142.out 12).trans rfl
              have hfz33_0 := blk_frozen BK142.out 0
              have hfz33_1 := blk_frozen BK142.out 1
              have hfz33_2 := blk_frozen BK142.out 2
              have hfz33_3 := blk_frozen BK142.out 3
              have hfz33_4 := blk_frozen BK142.out 4
              have hfz33_5 := blk_frozen BK142.out 5
              have hfz33_6 := blk_frozen BK142.out 6
              have hfz33_7 := blk_frozen BK142.out 7
              have hfz33_8 := blk_frozen BK142.out 8
              have hfz33_9 := blk_frozen BK142.out 9
              have hfz33_10 := blk_frozen BK142.out 10
              have hfz33_11 := blk_frozen BK142.out 11
              have hfz33_12 := blk_frozen BK142.out 12
              go_wp2_with (first | ((first | (with_reducible refine gate_dst (N := 10) rfl ?_) | (with_reducible refine gate_dst (N := 13) rfl ?_)); refine wpList_load_mid rfl 25 (.tmp 3) rfl _ _ (by rfl) [_, _, _, _, _, _, _, _, _, _, _, _, _, _, _, _, _, _, _, _, _] _ (cellsAt_range _ (by (repeat (refine ⟨by assumption, ?_⟩)); exact trivial)) Try.underlying25 rfl (by kernel_rfl) ?_))
              go_ret
              exact ⟨by first | rfl | (simp [errW_none, errW_some] <;> rfl) | (simp [*, errW_none, errW_some] <;> rfl), by repeat (first | (with_reducible first | exact HB.out | apply below_alloc | apply pw_below_drewN | apply below_drew1 | refine below_set ?_ GE141.out | refine below_set ?_ GE142.out) | exact HB.out)⟩
            · rw [if_neg c31] at H
              have c31b0 : decide ((wrap64 (t144 - t143)) < a1_11) = false := decide_eq_false c31
              clear c31
              obtain rfl := Option.some.inj H
              have hnb34 := NB142_141.out
              have hnc34 := NB141_142.out
              have hcz35_0 : wc.cell? ⟨gb142, 0, none⟩ = some (.bool a1_0) := (blk_cell BK142.out 0).trans rfl
              have hcz35_1 : wc.cell? ⟨gb142, 1, none⟩ = some (.bool a1_1) := (blk_cell BK142.out 1).trans rfl
              have hcz35_2 : wc.cell? ⟨gb142, 2, none⟩ = some (.bool a1_2) := (blk_cell BK142.out 2).trans rfl
              have hcz35_3 : wc.cell? ⟨gb142, 3, none⟩ = some (.bool a1_3) := (blk_cell BK142.out 3).trans rfl
              have hcz35_4 : wc.cell? ⟨gb142, 4, none⟩ = some (.bool a1_4) := (blk_cell BK142.out 4).trans rfl
              have hcz35_5 : wc.cell? ⟨gb142, 5, none⟩ = some (.bool a1_5) := (blk_cell BK142.out 5).trans rfl
              have hcz35_6 : wc.cell? ⟨gb142, 6, none⟩ = some (.bool a1_6) := (blk_cell BK142.out 6).trans rfl
              have hcz35_7 : wc.cell? ⟨gb142, 7, none⟩ = some (.int .i64 a1_7) := (blk_cell BK142.out 7).trans rfl
              have hcz35_8 : wc.cell? ⟨gb142, 8, none⟩ = some (.int .i64 a1_8) := (blk_cell BK142.out 8).trans rfl
              have hcz35_9 : wc.cell? ⟨gb142, 9, none⟩ = some (.int .i64 a1_9) := (blk_cell BK142.out 9).trans rfl
              have hcz35_10 : wc.cell? ⟨gb142, 10, none⟩ = some (.int .i64 a1_10) := (blk_cell BK142.out 10).trans rfl
              have hcz35_11 : wc.cell? ⟨gb142, 11, none⟩ = some (.int .i64 a1_11) := (blk_cell BK142.out 11).trans rfl
              have hcz35_12 : wc.cell? ⟨gb142, 12, none⟩ = some (.int .i64 a1_12) := (blk_cell BK142.out 12).trans rfl
              have hfz35_0 := blk_frozen BK142.out 0
              have hfz35_1 := blk_frozen BK142.out 1
              have hfz35_2 := blk_frozen BK142.out 2
              have hfz35_3 := blk_frozen BK142.out 3
              have hfz35_4 := blk_frozen BK142.out 4
              have hfz35_5 := blk_frozen BK142.out 5
              have hfz35_6 := blk_frozen BK142.out 6
              have hfz35_7 := blk_frozen BK142.out 7
              have hfz35_8 := blk_frozen BK142.out 8
              have hfz35_9 := blk_frozen BK142.out 9
              have hfz35_10 := blk_frozen BK142.out 10
              have hfz35_11 := blk_frozen BK142.out 11
              have hfz35_12 := blk_frozen BK142.out 12
              go_wp2_with (first | ((first | (with_reducible refine gate_dst (N := 10) rfl ?_) | (with_reducible refine gate_dst (N := 13) rfl ?_)); refine wpList_load_mid rfl 25 (.tmp 3) rfl _ _ (by rfl) [_, _, _, _, _, _, _, _, _, _, _, _, _, _, _, _, _, _, _, _, _] _ (cellsAt_range _ (by (repeat (refine ⟨by assumption, ?_⟩)); exact trivial)) Try.underlying25 rfl (by kernel_rfl) ?_))
              go_ret
              exact ⟨by first | rfl | (simp [errW_none, errW_some] <;> rfl) | (simp [*, errW_none, errW_some] <;> rfl), by repeat (first | (with_reducible first | exact HB.out | apply below_alloc | apply pw_below_drewN | apply below_drew1 | refine below_set ?_ GE141.out | refine below_set ?_ GE142.out) | exact HB.out)⟩
          · rw [if_neg c30] at H
            have c30b0 : decide (0 ≤ a1_11) = false := decide_eq_false c30
            clear c30
            obtain rfl := Option.some.inj H
            have hnb36 := NB142_141.out
            have hnc36 := NB141_142.out
            have hcz37_0 : wc.cell? ⟨gb142, 0, none⟩ = some (.bool a1_0) := (blk_cell BK142.out 0).trans rfl
            have hcz37_1 : wc.cell? ⟨gb142, 1, none⟩ = some (.bool a1_1) := (blk_cell BK142.out 1).trans rfl
            have hcz37_2 : wc.cell? ⟨gb142, 2, none⟩ = some (.bool a1_2) := (blk_cell BK142.out 2).trans rfl
            have hcz37_3 : wc.cell? ⟨gb142, 3, none⟩ = some (.bool a1_3) := (blk_cell BK142.out 3).trans rfl
            have hcz37_4 : wc.cell? ⟨gb142, 4, none⟩ = some (.bool a1_4) := (blk_cell BK142.out 4).trans rfl
            have hcz37_5 : wc.cell? ⟨gb142, 5, none⟩ = some (.bool a1_5) := (blk_cell BK142.out 5).trans rfl
            have hcz37_6 : wc.cell? ⟨gb142, 6, none⟩ = some (.bool a1_6) := (blk_cell BK142.out 6).trans rfl
            have hcz37_7 : wc.cell? ⟨gb142, 7, none⟩ = some (.int .i64 a1_7) := (blk_cell BK142.out 7).trans rfl
            have hcz37_8 : wc.cell? ⟨gb142, 8, none⟩ = some (.int .i64 a1_8) := (blk_cell BK142.out 8).trans rfl
            have hcz37_9 : wc.cell? ⟨gb142, 9, none⟩ = some (.int .i64 a1_9) := (blk_cell BK142.out 9).trans rfl
            have hcz37_10 : wc.cell? ⟨gb142, 10, none⟩ = some (.int .i64 a1_10) := (blk_cell BK142.out 10).trans rfl
            have hcz37_11 : wc.cell? ⟨gb142, 11, none⟩ = some (.int .i64 a1_11) := (blk_cell BK142.out 11).trans rfl
            have hcz37_12 : wc.cell? ⟨gb142, 12, none⟩ = some (.int .i64 a1_12) := (blk_cell BK142.out 12).trans rfl
            have hfz37_0 := blk_frozen BK142.out 0
            have hfz37_1 := blk_frozen BK142.out 1
            have hfz37_2 := blk_frozen BK142.out 2
            have hfz37_3 := blk_frozen BK142.out 3
            have hfz37_4 := blk_frozen BK142.out 4
            have hfz37_5 := blk_frozen BK142.out 5
            have hfz37_6 := blk_frozen BK142.out 6
            have hfz37_7 := blk_frozen BK142.out 7
            have hfz37_8 := blk_frozen BK142.out 8
            have hfz37_9 := blk_frozen BK142.out 9
            have hfz37_10 := blk_frozen BK142.out 10
            have hfz37_11 := blk_frozen BK142.out 11
            have hfz37_12 := blk_frozen BK142.out 12
            go_wp2_with (first | ((first | (with_reducible refine gate_dst (N := 10) rfl ?_) | (with_reducible refine gate_dst (N := 13) rfl ?_)); refine wpList_load_mid rfl 25 (.tmp 3) rfl _ _ (by rfl) [_, _, _, _, _, _, _, _, _, _, _, _, _, _, _, _, _, _, _, _, _] _ (cellsAt_range _ (by (repeat (refine ⟨by assumption, ?_⟩)); exact trivial)) Try.underlying25 rfl (by kernel_rfl) ?_))
            go_ret
            exact ⟨by first | rfl | (simp [errW_none, errW_some] <;> rfl) | (simp [*, errW_none, errW_some] <;> rfl), by repeat (first | (with_reducible first | exact HB.out | apply below_alloc | apply pw_below_drewN | apply below_drew1 | refine below_set ?_ GE141.out | refine below_set ?_ GE142.out) | exact HB.out)⟩
        · rw [if_neg c29] at H
          have c29b0 : decide (t143 < t144) = false := decide_eq_false c29
          clear c29
          have HC38 := Aside0.mk H
          clear H
          go_upto_region 10 with (first | ((first | (with_reducible refine gate_dst (N := 10) rfl ?_) | (with_reducible refine gate_dst (N := 13) rfl ?_)); refine wpList_load_mid rfl 25 (.tmp 3) rfl _ _ (by rfl) [_, _, _, _, _, _, _, _, _, _, _, _, _, _, _, _, _, _, _, _, _] _ (cellsAt_range _ (by (repeat (refine ⟨by assumption, ?_⟩)); exact trivial)) Try.underlying25 rfl (by kernel_rfl) ?_))
          go_cut [63] (fun v63 wc => ∃ (kq : Nat) (x63_37 : Bool), v63 = .bool x63_37 ∧ Aside0 (gatepostref09_State.j1 kq (wrap64 (t143 - t144)) x63_37 a0_0 a0_1 a0_2 a0_3 a0_4 a0_5 a0_6 a0_7 a0_8 a0_9 a0_10 a0_11 a0_12 a0_13 a0_14 a0_15 a0_16 a0_17 a0_18 a0_19 a0_20 a1_0 a1_1 a1_2 a1_3 a1_4 a1_5 a1_6 a1_7 a1_8 a1_9 a1_10 a1_11 a1_12 = some r) ∧ Aside0 (kq ≤ kj5) ∧ Aside0 (wc.heap[gb141]? = some (.cells #[.int .i64 a0_0, .bool a0_1, .bool a0_2, .bool a0_3, .bool a0_4, .bool a0_5, .bool a0_6, .bool a0_7, .int .i64 a0_8, .int .i64 a0_9, .int .i64 a0_10, .int .i64 a0_11, .int .i64 a0_12, .int .i64 a0_13, .int .i64 a0_14, .int .i64 a0_15, .int .i64 a0_16, .int .i64 a0_17, .int .i64 a0_18, .int .i64 a0_19, .string a0_20] 25 (0, 0))) ∧ Aside0 (wc.heap[gb142]? = some (.cells #[.bool a1_0, .bool a1_1, .bool a1_2, .bool a1_3, .bool a1_4, .bool a1_5, .bool a1_6, .int .i64 a1_7, .int .i64 a1_8, .int .i64 a1_9, .int .i64 a1_10, .int .i64 a1_11, .int .i64 a1_12] 23 (0, 0))) ∧ Aside0 (Below w.heap.size w wc))
          case first =>
            have H := HC38.out
            clear HC38
            by_cases c39 : a0_5 = true
            · subst c39
              have H1 : (gatepostref09_State.j1 kj5 (wrap64 (t143 - t144)) true a0_0 a0_1 a0_2 a0_3 a0_4 true a0_6 a0_7 a0_8 a0_9 a0_10 a0_11 a0_12 a0_13 a0_14 a0_15 a0_16 a0_17 a0_18 a0_19 a0_20 a1_0 a1_1 a1_2 a1_3 a1_4 a1_5 a1_6 a1_7 a1_8 a1_9 a1_10 a1_11 a1_12) = some r := by rw [if_pos rfl] at H; exact H
              clear H
              have H := H1
              clear H1
              have H' := Aside0.mk H
              clear H
              have hnb40 := NB141_142.out
              have hnc40 := NB142_141.out
              have hcz41_0 : wc.cell? ⟨gb141, 0, none⟩ = some (.int .i64 a0_0) := (blk_cell BK141.out 0).trans rfl
              have hcz41_1 : wc.cell? ⟨gb141, 1, none⟩ = some (.bool a0_1) := (blk_cell BK141.out 1).trans rfl
              have hcz41_2 : wc.cell? ⟨gb141, 2, none⟩ = some (.bool a0_2) := (blk_cell BK141.out 2).trans rfl
              have hcz41_3 : wc.cell? ⟨gb141, 3, none⟩ = some (.bool a0_3) := (blk_cell BK141.out 3).trans rfl
              have hcz41_4 : wc.cell? ⟨gb141, 4, none⟩ = some (.bool a0_4) := (blk_cell BK141.out 4).trans rfl
              have hcz41_5 : wc.cell? ⟨gb141, 5, none⟩ = some (.bool true) := (blk_cell BK141.out 5).trans rfl
              have hcz41_6 : wc.cell? ⟨gb141, 6, none⟩ = some (.bool a0_6) := (blk_cell BK141.out 6).trans rfl
              have hcz41_7 : wc.cell? ⟨gb141, 7, none⟩ = some (.bool a0_7) := (blk_cell BK141.out 7).trans rfl
              have hcz41_8 : wc.cell? ⟨gb141, 8, none⟩ = some (.int .i64 a0_8) := (blk_cell BK141.out 8).trans rfl
              have hcz41_9 : wc.cell? ⟨gb141, 9, none⟩ = some (.int .i64 a0_9) := (blk_cell BK141.out 9).trans rfl
              have hcz41_10 : wc.cell? ⟨gb141, 10, none⟩ = some (.int .i64 a0_10) := (blk_cell BK141.out 10).trans rfl
              have hcz41_11 : wc.cell? ⟨gb141, 11, none⟩ = some (.int .i64 a0_11) := (blk_cell BK141.out 11).trans rfl
              have hcz41_12 : wc.cell? ⟨gb141, 12, none⟩ = some (.int .i64 a0_12) := (blk_cell BK141.out 12).trans rfl
              have hcz41_13 : wc.cell? ⟨gb141, 13, none⟩ = some (.int .i64 a0_13) := (blk_cell BK141.out 13).trans rfl
              have hcz41_14 : wc.cell? ⟨gb141, 14, none⟩ = some (.int .i64 a0_14) := (blk_cell BK141.out 14).trans rfl
              have hcz41_15 : wc.cell? ⟨gb141, 15, none⟩ = some (.int .i64 a0_15) := (blk_cell BK141.out 15).trans rfl
              have hcz41_16 : wc.cell? ⟨gb141, 16, none⟩ = some (.int .i64 a0_16) := (blk_cell BK141.out 16).trans rfl
              have hcz41_17 : wc.cell? ⟨gb141, 17, none⟩ = some (.int .i64 a0_17) := (blk_cell BK141.out 17).trans rfl
              have hcz41_18 : wc.cell? ⟨gb141, 18, none⟩ = some (.int .i64 a0_18) := (blk_cell BK141.out 18).trans rfl
              have hcz41_19 : wc.cell? ⟨gb141, 19, none⟩ = some (.int .i64 a0_19) := (blk_cell BK141.out 19).trans rfl
              have hcz41_20 : wc.cell? ⟨gb141, 20, none⟩ = some (.string a0_20) := (blk_cell BK141.out 20).trans rfl
              have hfz41_0 := blk_frozen BK141.out 0
              have hfz41_1 := blk_frozen BK141.out 1
              have hfz41_2 := blk_frozen BK141.out 2
              have hfz41_3 := blk_frozen BK141.out 3
              have hfz41_4 := blk_frozen BK141.out 4
              have hfz41_5 := blk_frozen BK141.out 5
              have hfz41_6 := blk_frozen BK141.out 6
              have hfz41_7 := blk_frozen BK141.out 7
              have hfz41_8 := blk_frozen BK141.out 8
              have hfz41_9 := blk_frozen BK141.out 9
              have hfz41_10 := blk_frozen BK141.out 10
              have hfz41_11 := blk_frozen BK141.out 11
              have hfz41_12 := blk_frozen BK141.out 12
              have hfz41_13 := blk_frozen BK141.out 13
              have hfz41_14 := blk_frozen BK141.out 14
              have hfz41_15 := blk_frozen BK141.out 15
              have hfz41_16 := blk_frozen BK141.out 16
              have hfz41_17 := blk_frozen BK141.out 17
              have hfz41_18 := blk_frozen BK141.out 18
              have hfz41_19 := blk_frozen BK141.out 19
              have hfz41_20 := blk_frozen BK141.out 20
              go_wp2_with (first | ((first | (with_reducible refine gate_dst (N := 10) rfl ?_) | (with_reducible refine gate_dst (N := 13) rfl ?_)); refine wpList_load_mid rfl 25 (.tmp 3) rfl _ _ (by rfl) [_, _, _, _, _, _, _, _, _, _, _, _, _, _, _, _, _, _, _, _, _] _ (cellsAt_range _ (by (repeat (refine ⟨by assumption, ?_⟩)); exact trivial)) Try.underlying25 rfl (by kernel_rfl) ?_))
              go_meet
              case rel => exact ⟨_, (true), (by first | rfl | (simp; done) | exact ret_ne _ | (simp [*]; done)), H', ⟨by have := HJ5.out; first | omega | exact Nat.le_refl _⟩, ⟨by (with_reducible repeat (first | refine blk_drewN ?_ _ | refine blk_drew ?_ | refine blk_alloc ?_ _)); exact BK141.out⟩, ⟨by (with_reducible repeat (first | refine blk_drewN ?_ _ | refine blk_drew ?_ | refine blk_alloc ?_ _)); exact BK142.out⟩, ⟨by repeat (first | (with_reducible first | exact HB.out | apply below_alloc | apply pw_below_drewN | apply below_drew1 | refine below_set ?_ GE141.out | refine below_set ?_ GE142.out) | exact HB.out)⟩⟩
            · replace c39 := Bool.eq_false_iff.mpr c39
              subst c39
              have H1 : (if a0_6 = true then (gatepostref09_State.j1 kj5 (wrap64 (t143 - t144)) true a0_0 a0_1 a0_2 a0_3 a0_4 false a0_6 a0_7 a0_8 a0_9 a0_10 a0_11 a0_12 a0_13 a0_14 a0_15 a0_16 a0_17 a0_18 a0_19 a0_20 a1_0 a1_1 a1_2 a1_3 a1_4 a1_5 a1_6 a1_7 a1_8 a1_9 a1_10 a1_11 a1_12) else (gatepostref09_State.j1 kj5 (wrap64 (t143 - t144)) (decide (a0_9 ≥ 0)) a0_0 a0_1 a0_2 a0_3 a0_4 false a0_6 a0_7 a0_8 a0_9 a0_10 a0_11 a0_12 a0_13 a0_14 a0_15 a0_16 a0_17 a0_18 a0_19 a0_20 a1_0 a1_1 a1_2 a1_3 a1_4 a1_5 a1_6 a1_7 a1_8 a1_9 a1_10 a1_11 a1_12)) = some r := by rw [if_neg (show ¬ (false = true) by decide)] at H; exact H
              clear H
              have H := H1
              clear H1
              by_cases c42 : a0_6 = true
              · subst c42
                have H1 : (gatepostref09_State.j1 kj5 (wrap64 (t143 - t144)) true a0_0 a0_1 a0_2 a0_3 a0_4 false true a0_7 a0_8 a0_9 a0_10 a0_11 a0_12 a0_13 a0_14 a0_15 a0_16 a0_17 a0_18 a0_19 a0_20 a1_0 a1_1 a1_2 a1_3 a1_4 a1_5 a1_6 a1_7 a1_8 a1_9 a1_10 a1_11 a1_12) = some r := by rw [if_pos rfl] at H; exact H
                clear H
                have H := H1
                clear H1
                have H' := Aside0.mk H
                clear H
                have hnb43 := NB141_142.out
                have hnc43 := NB142_141.out
                have hcz44_0 : wc.cell? ⟨gb141, 0, none⟩ = some (.int .i64 a0_0) := (blk_cell BK141.out 0).trans rfl
                have hcz44_1 : wc.cell? ⟨gb141, 1, none⟩ = some (.bool a0_1) := (blk_cell BK141.out 1).trans rfl
                have hcz44_2 : wc.cell? ⟨gb141, 2, none⟩ = some (.bool a0_2) := (blk_cell BK141.out 2).trans rfl
                have hcz44_3 : wc.cell? ⟨gb141, 3, none⟩ = some (.bool a0_3) := (blk_cell BK141.out 3).trans rfl
                have hcz44_4 : wc.cell? ⟨gb141, 4, none⟩ = some (.bool a0_4) := (blk_cell BK141.out 4).trans rfl
                have hcz44_5 : wc.cell? ⟨gb141, 5, none⟩ = some (.bool false) := (blk_cell BK141.out 5).trans rfl
                have hcz44_6 : wc.cell? ⟨gb141, 6, none⟩ = some (.bool true) := (blk_cell BK141.out 6).trans rfl
                have hcz44_7 : wc.cell? ⟨gb141, 7, none⟩ = some (.bool a0_7) := (blk_cell BK141.out 7).trans rfl
                have hcz44_8 : wc.cell? ⟨gb141, 8, none⟩ = some (.int .i64 a0_8) := (blk_cell BK141.out 8).trans rfl
                have hcz44_9 : wc.cell? ⟨gb141, 9, none⟩ = some (.int .i64 a0_9) := (blk_cell BK141.out 9).trans rfl
                have hcz44_10 : wc.cell? ⟨gb141, 10, none⟩ = some (.int .i64 a0_10) := (blk_cell BK141.out 10).trans rfl
                have hcz44_11 : wc.cell? ⟨gb141, 11, none⟩ = some (.int .i64 a0_11) := (blk_cell BK141.out 11).trans rfl
                have hcz44_12 : wc.cell? ⟨gb141, 12, none⟩ = some (.int .i64 a0_12) := (blk_cell BK141.out 12).trans rfl
                have hcz44_13 : wc.cell? ⟨gb141, 13, none⟩ = some (.int .i64 a0_13) := (blk_cell BK141.out 13).trans rfl
                have hcz44_14 : wc.cell? ⟨gb141, 14, none⟩ = some (.int .i64 a0_14) := (blk_cell BK141.out 14).trans rfl
                have hcz44_15 : wc.cell? ⟨gb141, 15, none⟩ = some (.int .i64 a0_15) := (blk_cell BK141.out 15).trans rfl
                have hcz44_16 : wc.cell? ⟨gb141, 16, none⟩ = some (.int .i64 a0_16) := (blk_cell BK141.out 16).trans rfl
                have hcz44_17 : wc.cell? ⟨gb141, 17, none⟩ = some (.int .i64 a0_17) := (blk_cell BK141.out 17).trans rfl
                have hcz44_18 : wc.cell? ⟨gb141, 18, none⟩ = some (.int .i64 a0_18) := (blk_cell BK141.out 18).trans rfl
                have hcz44_19 : wc.cell? ⟨gb141, 19, none⟩ = some (.int .i64 a0_19) := (blk_cell BK141.out 19).trans rfl
                have hcz44_20 : wc.cell? ⟨gb141, 20, none⟩ = some (.string a0_20) := (blk_cell BK141.out 20).trans rfl
                have hfz44_0 := blk_frozen BK141.out 0
                have hfz44_1 := blk_frozen BK141.out 1
                have hfz44_2 := blk_frozen BK141.out 2
                have hfz44_3 := blk_frozen BK141.out 3
                have hfz44_4 := blk_frozen BK141.out 4
                have hfz44_5 := blk_frozen BK141.out 5
                have hfz44_6 := blk_frozen BK141.out 6
                have hfz44_7 := blk_frozen BK141.out 7
                have hfz44_8 := blk_frozen BK141.out 8
                have hfz44_9 := blk_frozen BK141.out 9
                have hfz44_10 := blk_frozen BK141.out 10
                have hfz44_11 := blk_frozen BK141.out 11
                have hfz44_12 := blk_frozen BK141.out 12
                have hfz44_13 := blk_frozen BK141.out 13
                have hfz44_14 := blk_frozen BK141.out 14
                have hfz44_15 := blk_frozen BK141.out 15
                have hfz44_16 := blk_frozen BK141.out 16
                have hfz44_17 := blk_frozen BK141.out 17
                have hfz44_18 := blk_frozen BK141.out 18
                have hfz44_19 := blk_frozen BK141.out 19
                have hfz44_20 := blk_frozen BK141.out 20
                go_wp2_with (first | ((first | (with_reducible refine gate_dst (N := 10) rfl ?_) | (with_reducible refine gate_dst (N := 13) rfl ?_)); refine wpList_load_mid rfl 25 (.tmp 3) rfl _ _ (by rfl) [_, _, _, _, _, _, _, _, _, _, _, _, _, _, _, _, _, _, _, _, _] _ (cellsAt_range _ (by (repeat (refine ⟨by assumption, ?_⟩)); exact trivial)) Try.underlying25 rfl (by kernel_rfl) ?_))
                go_meet
                case rel => exact ⟨_, (true), (by first | rfl | (simp; done) | exact ret_ne _ | (simp [*]; done)), H', ⟨by have := HJ5.out; first | omega | exact Nat.le_refl _⟩, ⟨by (with_reducible repeat (first | refine blk_drewN ?_ _ | refine blk_drew ?_ | refine blk_alloc ?_ _)); exact BK141.out⟩, ⟨by (with_reducible repeat (first | refine blk_drewN ?_ _ | refine blk_drew ?_ | refine blk_alloc ?_ _)); exact BK142.out⟩, ⟨by repeat (first | (with_reducible first | exact HB.out | apply below_alloc | apply pw_below_drewN | apply below_drew1 | refine below_set ?_ GE141.out | refine below_set ?_ GE142.out) | exact HB.out)⟩⟩
              · replace c42 := Bool.eq_false_iff.mpr c42
                subst c42
                have H1 : (gatepostref09_State.j1 kj5 (wrap64 (t143 - t144)) (decide (a0_9 ≥ 0)) a0_0 a0_1 a0_2 a0_3 a0_4 false false a0_7 a0_8 a0_9 a0_10 a0_11 a0_12 a0_13 a0_14 a0_15 a0_16 a0_17 a0_18 a0_19 a0_20 a1_0 a1_1 a1_2 a1_3 a1_4 a1_5 a1_6 a1_7 a1_8 a1_9 a1_10 a1_11 a1_12) = some r := by rw [if_neg (show ¬ (false = true) by decide)] at H; exact H
                clear H
                have H := H1
                clear H1
                have H' := Aside0.mk H
                clear H
                have hnb45 := NB141_142.out
                have hnc45 := NB142_141.out
                have hcz46_0 : wc.cell? ⟨gb141, 0, none⟩ = some (.int .i64 a0_0) := (blk_cell BK141.out 0).trans rfl
                have hcz46_1 : wc.cell? ⟨gb141, 1, none⟩ = some (.bool a0_1) := (blk_cell BK141.out 1).trans rfl
                have hcz46_2 : wc.cell? ⟨gb141, 2, none⟩ = some (.bool a0_2) := (blk_cell BK141.out 2).trans rfl
                have hcz46_3 : wc.cell? ⟨gb141, 3, none⟩ = some (.bool a0_3) := (blk_cell BK141.out 3).trans rfl
                have hcz46_4 : wc.cell? ⟨gb141, 4, none⟩ = some (.bool a0_4) := (blk_cell BK141.out 4).trans rfl
                have hcz46_5 : wc.cell? ⟨gb141, 5, none⟩ = some (.bool false) := (blk_cell BK141.out 5).trans rfl
                have hcz46_6 : wc.cell? ⟨gb141, 6, none⟩ = some (.bool false) := (blk_cell BK141.out 6).trans rfl
                have hcz46_7 : wc.cell? ⟨gb141, 7, none⟩ = some (.bool a0_7) := (blk_cell BK141.out 7).trans rfl
                have hcz46_8 : wc.cell? ⟨gb141, 8, none⟩ = some (.int .i64 a0_8) := (blk_cell BK141.out 8).trans rfl
                have hcz46_9 : wc.cell? ⟨gb141, 9, none⟩ = some (.int .i64 a0_9) := (blk_cell BK141.out 9).trans rfl
                have hcz46_10 : wc.cell? ⟨gb141, 10, none⟩ = some (.int .i64 a0_10) := (blk_cell BK141.out 10).trans rfl
                have hcz46_11 : wc.cell? ⟨gb141, 11, none⟩ = some (.int .i64 a0_11) := (blk_cell BK141.out 11).trans rfl
                have hcz46_12 : wc.cell? ⟨gb141, 12, none⟩ = some (.int .i64 a0_12) := (blk_cell BK141.out 12).trans rfl
                have hcz46_13 : wc.cell? ⟨gb141, 13, none⟩ = some (.int .i64 a0_13) := (blk_cell BK141.out 13).trans rfl
                have hcz46_14 : wc.cell? ⟨gb141, 14, none⟩ = some (.int .i64 a0_14) := (blk_cell BK141.out 14).trans rfl
                have hcz46_15 : wc.cell? ⟨gb141, 15, none⟩ = some (.int .i64 a0_15) := (blk_cell BK141.out 15).trans rfl
                have hcz46_16 : wc.cell? ⟨gb141, 16, none⟩ = some (.int .i64 a0_16) := (blk_cell BK141.out 16).trans rfl
                have hcz46_17 : wc.cell? ⟨gb141, 17, none⟩ = some (.int .i64 a0_17) := (blk_cell BK141.out 17).trans rfl
                have hcz46_18 : wc.cell? ⟨gb141, 18, none⟩ = some (.int .i64 a0_18) := (blk_cell BK141.out 18).trans rfl
                have hcz46_19 : wc.cell? ⟨gb141, 19, none⟩ = some (.int .i64 a0_19) := (blk_cell BK141.out 19).trans rfl
                have hcz46_20 : wc.cell? ⟨gb141, 20, none⟩ = some (.string a0_20) := (blk_cell BK141.out 20).trans rfl
                have hfz46_0 := blk_frozen BK141.out 0
                have hfz46_1 := blk_frozen BK141.out 1
                have hfz46_2 := blk_frozen BK141.out 2
                have hfz46_3 := blk_frozen BK141.out 3
                have hfz46_4 := blk_frozen BK141.out 4
                have hfz46_5 := blk_frozen BK141.out 5
                have hfz46_6 := blk_frozen BK141.out 6
                have hfz46_7 := blk_frozen BK141.out 7
                have hfz46_8 := blk_frozen BK141.out 8
                have hfz46_9 := blk_frozen BK141.out 9
                have hfz46_10 := blk_frozen BK141.out 10
                have hfz46_11 := blk_frozen BK141.out 11
                have hfz46_12 := blk_frozen BK141.out 12
                have hfz46_13 := blk_frozen BK141.out 13
                have hfz46_14 := blk_frozen BK141.out 14
                have hfz46_15 := blk_frozen BK141.out 15
                have hfz46_16 := blk_frozen BK141.out 16
                have hfz46_17 := blk_frozen BK141.out 17
                have hfz46_18 := blk_frozen BK141.out 18
                have hfz46_19 := blk_frozen BK141.out 19
                have hfz46_20 := blk_frozen BK141.out 20
                go_wp2_with (first | ((first | (with_reducible refine gate_dst (N := 10) rfl ?_) | (with_reducible refine gate_dst (N := 13) rfl ?_)); refine wpList_load_mid rfl 25 (.tmp 3) rfl _ _ (by rfl) [_, _, _, _, _, _, _, _, _, _, _, _, _, _, _, _, _, _, _, _, _] _ (cellsAt_range _ (by (repeat (refine ⟨by assumption, ?_⟩)); exact trivial)) Try.underlying25 rfl (by kernel_rfl) ?_))
                go_meet
                case rel => exact ⟨_, (decide (a0_9 ≥ 0)), (by first | rfl | (simp; done) | exact ret_ne _ | (simp [*]; done)), H', ⟨by have := HJ5.out; first | omega | exact Nat.le_refl _⟩, ⟨by (with_reducible repeat (first | refine blk_drewN ?_ _ | refine blk_drew ?_ | refine blk_alloc ?_ _)); exact BK141.out⟩, ⟨by (with_reducible repeat (first | refine blk_drewN ?_ _ | refine blk_drew ?_ | refine blk_alloc ?_ _)); exact BK142.out⟩, ⟨by repeat (first | (with_reducible first | exact HB.out | apply below_alloc | apply pw_below_drewN | apply below_drew1 | refine below_set ?_ GE141.out | refine below_set ?_ GE142.out) | exact HB.out)⟩⟩
          case rest =>
            clear HC38
            try clear c2
            try clear p2
            try clear c3
            try clear c4
            try clear p6
            try clear c28
            try clear c29
            try clear c29b0
            try clear c30
            try clear c30b0
            try clear c31
            try clear c31b0
            try clear c32
            try clear c34
            try clear c36
            try clear c39
            try clear c40
            try clear c42
            try clear c43
            try clear c45
            try clear hcz12_20
            try clear hcz12_3
            try clear hcz12_4
            try clear hcz12_5
            try clear hcz12_6
            try clear hcz12_7
            try clear hcz12_8
            try clear hcz12_9
            try clear hcz16_0
            try clear hcz16_1
            try clear hcz16_10
            try clear hcz16_11
            try clear hcz16_12
            try clear hcz16_2
            try clear hcz16_3
            try clear hcz16_4
            try clear hcz16_5
            try clear hcz16_6
            try clear hcz16_7
            try clear hcz16_8
            try clear hcz16_9
            try clear hcz19_0
            try clear hcz19_1
            try clear hcz19_10
            try clear hcz19_11
            try clear hcz19_12
            try clear hcz19_2
            try clear hcz19_3
            try clear hcz19_4
            try clear hcz19_5
            try clear hcz19_6
            try clear hcz19_7
            try clear hcz19_8
            try clear hcz19_9
            try clear hcz20_0
            try clear hcz20_1
            try clear hcz20_10
            try clear hcz20_11
            try clear hcz20_12
            try clear hcz20_13
            try clear hcz20_14
            try clear hcz20_15
            try clear hcz20_16
            try clear hcz20_17
            try clear hcz20_18
            try clear hcz20_19
            try clear hcz20_2
            try clear hcz20_20
            try clear hcz20_3
            try clear hcz20_4
            try clear hcz20_5
            try clear hcz20_6
            try clear hcz20_7
            try clear hcz20_8
            try clear hcz20_9
            try clear hcz23_0
            try clear hcz23_1
            try clear hcz23_10
            try clear hcz23_11
            try clear hcz23_12
            try clear hcz23_2
            try clear hcz23_3
            try clear hcz23_4
            try clear hcz23_5
            try clear hcz23_6
            try clear hcz23_7
            try clear hcz23_8
            try clear hcz23_9
            try clear hcz24_0
            try clear hcz24_1
            try clear hcz24_10
            try clear hcz24_11
            try clear hcz24_12
            try clear hcz24_13
            try clear hcz24_14
            try clear hcz24_15
            try clear hcz24_16
            try clear hcz24_17
            try clear hcz24_18
            try clear hcz24_19
            try clear hcz24_2
            try clear hcz24_20
            try clear hcz24_3
            try clear hcz24_4
            try clear hcz24_5
            try clear hcz24_6
            try clear hcz24_7
            try clear hcz24_8
            try clear hcz24_9
            try clear hcz26_0
            try clear hcz26_1
            try clear hcz26_10
            try clear hcz26_11
            try clear hcz26_12
            try clear hcz26_2
            try clear hcz26_3
            try clear hcz26_4
            try clear hcz26_5
            try clear hcz26_6
            try clear hcz26_7
            try clear hcz26_8
            try clear hcz26_9
            try clear hcz27_0
            try clear hcz27_1
            try clear hcz27_10
            try clear hcz27_11
            try clear hcz27_12
            try clear hcz27_13
            try clear hcz27_14
            try clear hcz27_15
            try clear hcz27_16
            try clear hcz27_17
            try clear hcz27_18
            try clear hcz27_19
            try clear hcz27_2
            try clear hcz27_20
            try clear hcz27_3
            try clear hcz27_4
            try clear hcz27_5
            try clear hcz27_6
            try clear hcz27_7
            try clear hcz27_8
            try clear hcz27_9
            try clear hcz33_0
            try clear hcz33_1
            try clear hcz33_10
            try clear hcz33_11
            try clear hcz33_12
            try clear hcz33_2
            try clear hcz33_3
            try clear hcz33_4
            try clear hcz33_5
            try clear hcz33_6
            try clear hcz33_7
            try clear hcz33_8
            try clear hcz33_9
            try clear hcz35_0
            try clear hcz35_1
            try clear hcz35_10
            try clear hcz35_11
            try clear hcz35_12
            try clear hcz35_2
            try clear hcz35_3
            try clear hcz35_4
            try clear hcz35_5
            try clear hcz35_6
            try clear hcz35_7
            try clear hcz35_8
            try clear hcz35_9
            try clear hcz37_0
            try clear hcz37_1
            try clear hcz37_10
            try clear hcz37_11
            try clear hcz37_12
            try clear hcz37_2
            try clear hcz37_3
            try clear hcz37_4
            try clear hcz37_5
            try clear hcz37_6
            try clear hcz37_7
            try clear hcz37_8
            try clear hcz37_9
            try clear hcz41_0
            try clear hcz41_1
            try clear hcz41_10
            try clear hcz41_11
            try clear hcz41_12
            try clear hcz41_13
            try clear hcz41_14
            try clear hcz41_15
            try clear hcz41_16
            try clear hcz41_17
            try clear hcz41_18
            try clear hcz41_19
            try clear hcz41_2
            try clear hcz41_20
            try clear hcz41_3
            try clear hcz41_4
            try clear hcz41_5
            try clear hcz41_6
            try clear hcz41_7
            try clear hcz41_8
            try clear hcz41_9
            try clear hcz44_0
            try clear hcz44_1
            try clear hcz44_10
            try clear hcz44_11
            try clear hcz44_12
            try clear hcz44_13
            try clear hcz44_14
            try clear hcz44_15
            try clear hcz44_16
            try clear hcz44_17
            try clear hcz44_18
            try clear hcz44_19
            try clear hcz44_2
            try clear hcz44_20
            try clear hcz44_3
            try clear hcz44_4
            try clear hcz44_5
            try clear hcz44_6
            try clear hcz44_7
            try clear hcz44_8
            try clear hcz44_9
            try clear hcz46_0
            try clear hcz46_1
            try clear hcz46_10
            try clear hcz46_11
            try clear hcz46_12
            try clear hcz46_13
            try clear hcz46_14
            try clear hcz46_15
            try clear hcz46_16
            try clear hcz46_17
            try clear hcz46_18
            try clear hcz46_19
            try clear hcz46_2
            try clear hcz46_20
            try clear hcz46_3
            try clear hcz46_4
            try clear hcz46_5
            try clear hcz46_6
            try clear hcz46_7
            try clear hcz46_8
            try clear hcz46_9
            try clear hfz10_0
            try clear hfz10_1
            try clear hfz10_10
            try clear hfz10_11
            try clear hfz10_12
            try clear hfz10_13
            try clear hfz10_14
            try clear hfz10_15
            try clear hfz10_16
            try clear hfz10_17
            try clear hfz10_18
            try clear hfz10_19
            try clear hfz10_2
            try clear hfz10_20
            try clear hfz10_3
            try clear hfz10_4
            try clear hfz10_5
            try clear hfz10_6
            try clear hfz10_7
            try clear hfz10_8
            try clear hfz10_9
            try clear hfz12_0
            try clear hfz12_1
            try clear hfz12_10
            try clear hfz12_11
            try clear hfz12_12
            try clear hfz12_13
            try clear hfz12_14
            try clear hfz12_15
            try clear hfz12_16
            try clear hfz12_17
            try clear hfz12_18
            try clear hfz12_19
            try clear hfz12_2
            try clear hfz12_20
            try clear hfz12_3
            try clear hfz12_4
            try clear hfz12_5
            try clear hfz12_6
            try clear hfz12_7
            try clear hfz12_8
            try clear hfz12_9
            try clear hfz16_0
            try clear hfz16_1
            try clear hfz16_10
            try clear hfz16_11
            try clear hfz16_12
            try clear hfz16_2
            try clear hfz16_3
            try clear hfz16_4
            try clear hfz16_5
            try clear hfz16_6
            try clear hfz16_7
            try clear hfz16_8
            try clear hfz16_9
            try clear hfz19_0
            try clear hfz19_1
            try clear hfz19_10
            try clear hfz19_11
            try clear hfz19_12
            try clear hfz19_2
            try clear hfz19_3
            try clear hfz19_4
            try clear hfz19_5
            try clear hfz19_6
            try clear hfz19_7
            try clear hfz19_8
            try clear hfz19_9
            try clear hfz20_0
            try clear hfz20_1
            try clear hfz20_10
            try clear hfz20_11
            try clear hfz20_12
            try clear hfz20_13
            try clear hfz20_14
            try clear hfz20_15
            try clear hfz20_16
            try clear hfz20_17
            try clear hfz20_18
            try clear hfz20_19
            try clear hfz20_2
            try clear hfz20_20
            try clear hfz20_3
            try clear hfz20_4
            try clear hfz20_5
            try clear hfz20_6
            try clear hfz20_7
            try clear hfz20_8
            try clear hfz20_9
            try clear hfz23_0
            try clear hfz23_1
            try clear hfz23_10
            try clear hfz23_11
            try clear hfz23_12
            try clear hfz23_2
            try clear hfz23_3
            try clear hfz23_4
            try clear hfz23_5
            try clear hfz23_6
            try clear hfz23_7
            try clear hfz23_8
            try clear hfz23_9
            try clear hfz24_0
            try clear hfz24_1
            try clear hfz24_10
            try clear hfz24_11
            try clear hfz24_12
            try clear hfz24_13
            try clear hfz24_14
            try clear hfz24_15
            try clear hfz24_16
            try clear hfz24_17
            try clear hfz24_18
            try clear hfz24_19
            try clear hfz24_2
            try clear hfz24_20
            try clear hfz24_3
            try clear hfz24_4
            try clear hfz24_5
            try clear hfz24_6
            try clear hfz24_7
            try clear hfz24_8
            try clear hfz24_9
            try clear hfz26_0
            try clear hfz26_1
            try clear hfz26_10
            try clear hfz26_11
            try clear hfz26_12
            try clear hfz26_2
            try clear hfz26_3
            try clear hfz26_4
            try clear hfz26_5
            try clear hfz26_6
            try clear hfz26_7
            try clear hfz26_8
            try clear hfz26_9
            try clear hfz27_0
            try clear hfz27_1
            try clear hfz27_10
            try clear hfz27_11
            try clear hfz27_12
            try clear hfz27_13
            try clear hfz27_14
            try clear hfz27_15
            try clear hfz27_16
            try clear hfz27_17
            try clear hfz27_18
            try clear hfz27_19
            try clear hfz27_2
            try clear hfz27_20
            try clear hfz27_3
            try clear hfz27_4
            try clear hfz27_5
            try clear hfz27_6
            try clear hfz27_7
            try clear hfz27_8
            try clear hfz27_9
            try clear hfz33_0
            try clear hfz33_1
            try clear hfz33_10
            try clear hfz33_11
            try clear hfz33_12
            try clear hfz33_2
            try clear hfz33_3
            try clear hfz33_4
            try clear hfz33_5
            try clear hfz33_6
            try clear hfz33_7
            try clear hfz33_8
            try clear hfz33_9
            try clear hfz35_0
            try clear hfz35_1
            try clear hfz35_10
            try clear hfz35_11
            try clear hfz35_12
            try clear hfz35_2
            try clear hfz35_3
            try clear hfz35_4
            try clear hfz35_5
            try clear hfz35_6
            try clear hfz35_7
            try clear hfz35_8
            try clear hfz35_9
            try clear hfz37_0
            try clear hfz37_1
            try clear hfz37_10
            try clear hfz37_11
            try clear hfz37_12
            try clear hfz37_2
            try clear hfz37_3
            try clear hfz37_4
            try clear hfz37_5
            try clear hfz37_6
            try clear hfz37_7
            try clear hfz37_8
            try clear hfz37_9
            try clear hfz41_0
            try clear hfz41_1
            try clear hfz41_10
            try clear hfz41_11
            try clear hfz41_12
            try clear hfz41_13
            try clear hfz41_14
            try clear hfz41_15
            try clear hfz41_16
            try clear hfz41_17
            try clear hfz41_18
            try clear hfz41_19
            try clear hfz41_2
            try clear hfz41_20
            try clear hfz41_3
            try clear hfz41_4
            try clear hfz41_5
            try clear hfz41_6
            try clear hfz41_7
            try clear hfz41_8
            try clear hfz41_9
            try clear hfz44_0
            try clear hfz44_1
            try clear hfz44_10
            try clear hfz44_11
            try clear hfz44_12
            try clear hfz44_13
            try clear hfz44_14
            try clear hfz44_15
            try clear hfz44_16
            try clear hfz44_17
            try clear hfz44_18
            try clear hfz44_19
            try clear hfz44_2
            try clear hfz44_20
            try clear hfz44_3
            try clear hfz44_4
            try clear hfz44_5
            try clear hfz44_6
            try clear hfz44_7
            try clear hfz44_8
            try clear hfz44_9
            try clear hfz46_0
            try clear hfz46_1
            try clear hfz46_10
            try clear hfz46_11
            try clear hfz46_12
            try clear hfz46_13
            try clear hfz46_14
            try clear hfz46_15
            try clear hfz46_16
            try clear hfz46_17
            try clear hfz46_18
            try clear hfz46_19
            try clear hfz46_2
            try clear hfz46_20
            try clear hfz46_3
            try clear hfz46_4
            try clear hfz46_5
            try clear hfz46_6
            try clear hfz46_7
            try clear hfz46_8
            try clear hfz46_9
            obtain ⟨kq, x63_37, rfl, HA, HJ37, BK141, BK142, HB⟩ := hcut
            cases kq with
            | zero => exact absurd HA.out (by simp [gatepostref09_State.j1])
            | succ kj37 =>
              have H := HA.out
              clear HA
              simp only [gatepostref09_State.j1] at H
              by_cases c47 : x63_37 = true
              · subst c47
                have H1 : (some 2) = some r := by rw [if_pos rfl] at H; exact H
                clear H
                have H := H1
                clear H1
                obtain rfl := Option.some.inj H
                go_wp2_with (first | ((first | (with_reducible refine gate_dst (N := 10) rfl ?_) | (with_reducible refine gate_dst (N := 13) rfl ?_)); refine wpList_load_mid rfl 25 (.tmp 3) rfl _ _ (by rfl) [_, _, _, _, _, _, _, _, _, _, _, _, _, _, _, _, _, _, _, _, _] _ (cellsAt_range _ (by (repeat (refine ⟨by assumption, ?_⟩)); exact trivial)) Try.underlying25 rfl (by kernel_rfl) ?_))
                go_ret
                exact ⟨by first | rfl | (simp [errW_none, errW_some] <;> rfl) | (simp [*, errW_none, errW_some] <;> rfl), by repeat (first | (with_reducible first | exact HB.out | apply below_alloc | apply pw_below_drewN | apply below_drew1 | refine below_set ?_ GE141.out | refine below_set ?_ GE142.out) | exact HB.out)⟩
              · replace c47 := Bool.eq_false_iff.mpr c47
                subst c47
                have H1 : (if a1_12 ≥ 0 then (gatepostref09_State.j2 kj37 (wrap64 (t143 - t144)) (decide (a1_12 ≥ (wrap64 (t143 - t144)))) a0_0 a0_1 a0_2 a0_3 a0_4 a0_5 a0_6 a0_7 a0_8 a0_9 a0_10 a0_11 a0_12 a0_13 a0_14 a0_15 a0_16 a0_17 a0_18 a0_19 a0_20 a1_0 a1_1 a1_2 a1_3 a1_4 a1_5 a1_6 a1_7 a1_8 a1_9 a1_10 a1_11 a1_12) else (gatepostref09_State.j2 kj37 (wrap64 (t143 - t144)) false a0_0 a0_1 a0_2 a0_3 a0_4 a0_5 a0_6 a0_7 a0_8 a0_9 a0_10 a0_11 a0_12 a0_13 a0_14 a0_15 a0_16 a0_17 a0_18 a0_19 a0_20 a1_0 a1_1 a1_2 a1_3 a1_4 a1_5 a1_6 a1_7 a1_8 a1_9 a1_10 a1_11 a1_12)) = some r := by rw [if_neg (show ¬ (false = true) by decide)] at H; exact H
                clear H
                have H := H1
                clear H1
                have HC48 := Aside0.mk H
                clear H
                go_upto_region 12 with (first | ((first | (with_reducible refine gate_dst (N := 10) rfl ?_) | (with_reducible refine gate_dst (N := 13) rfl ?_)); refine wpList_load_mid rfl 25 (.tmp 3) rfl _ _ (by rfl) [_, _, _, _, _, _, _, _, _, _, _, _, _, _, _, _, _, _, _, _, _] _ (cellsAt_range _ (by (repeat (refine ⟨by assumption, ?_⟩)); exact trivial)) Try.underlying25 rfl (by kernel_rfl) ?_))
                go_cut [72] (fun v72 wc => ∃ (kq : Nat) (x72_47 : Bool), v72 = .bool x72_47 ∧ Aside0 (gatepostref09_State.j2 kq (wrap64 (t143 - t144)) x72_47 a0_0 a0_1 a0_2 a0_3 a0_4 a0_5 a0_6 a0_7 a0_8 a0_9 a0_10 a0_11 a0_12 a0_13 a0_14 a0_15 a0_16 a0_17 a0_18 a0_19 a0_20 a1_0 a1_1 a1_2 a1_3 a1_4 a1_5 a1_6 a1_7 a1_8 a1_9 a1_10 a1_11 a1_12 = some r) ∧ Aside0 (kq ≤ kj37) ∧ Aside0 (wc.heap[gb141]? = some (.cells #[.int .i64 a0_0, .bool a0_1, .bool a0_2, .bool a0_3, .bool a0_4, .bool a0_5, .bool a0_6, .bool a0_7, .int .i64 a0_8, .int .i64 a0_9, .int .i64 a0_10, .int .i64 a0_11, .int .i64 a0_12, .int .i64 a0_13, .int .i64 a0_14, .int .i64 a0_15, .int .i64 a0_16, .int .i64 a0_17, .int .i64 a0_18, .int .i64 a0_19, .string a0_20] 25 (0, 0))) ∧ Aside0 (wc.heap[gb142]? = some (.cells #[.bool a1_0, .bool a1_1, .bool a1_2, .bool a1_3, .bool a1_4, .bool a1_5, .bool a1_6, .int .i64 a1_7, .int .i64 a1_8, .int .i64 a1_9, .int .i64 a1_10, .int .i64 a1_11, .int .i64 a1_12] 23 (0, 0))) ∧ Aside0 (Below w.heap.size w wc))
                case first =>
                  have H := HC48.out
                  clear HC48
                  by_cases c49 : a1_12 ≥ 0
                  · rw [if_pos c49] at H
                    have c49b0 : decide (0 ≤ a1_12) = true := decide_eq_true c49
                    clear c49
                    (first | rw [c49b0] | (simp only [i64_w, i32_w]; rw [c49b0]) | skip)
                    have H' := Aside0.mk H
                    clear H
                    have hnb50 := NB142_141.out
                    have hnc50 := NB141_142.out
                    have hcz51_0 : wc.cell? ⟨gb142, 0, none⟩ = some (.bool a1_0) := (blk_cell BK142.out 0).trans rfl
                    have hcz51_1 : wc.cell? ⟨gb142, 1, none⟩ = some (.bool a1_1) := (blk_cell BK142.out 1).trans rfl
                    have hcz51_2 : wc.cell? ⟨gb142, 2, none⟩ = some (.bool a1_2) := (blk_cell BK142.out 2).trans rfl
                    have hcz51_3 : wc.cell? ⟨gb142, 3, none⟩ = some (.bool a1_3) := (blk_cell BK142.out 3).trans rfl
                    have hcz51_4 : wc.cell? ⟨gb142, 4, none⟩ = some (.bool a1_4) := (blk_cell BK142.out 4).trans rfl
                    have hcz51_5 : wc.cell? ⟨gb142, 5, none⟩ = some (.bool a1_5) := (blk_cell BK142.out 5).trans rfl
                    have hcz51_6 : wc.cell? ⟨gb142, 6, none⟩ = some (.bool a1_6) := (blk_cell BK142.out 6).trans rfl
                    have hcz51_7 : wc.cell? ⟨gb142, 7, none⟩ = some (.int .i64 a1_7) := (blk_cell BK142.out 7).trans rfl
                    have hcz51_8 : wc.cell? ⟨gb142, 8, none⟩ = some (.int .i64 a1_8) := (blk_cell BK142.out 8).trans rfl
                    have hcz51_9 : wc.cell? ⟨gb142, 9, none⟩ = some (.int .i64 a1_9) := (blk_cell BK142.out 9).trans rfl
                    have hcz51_10 : wc.cell? ⟨gb142, 10, none⟩ = some (.int .i64 a1_10) := (blk_cell BK142.out 10).trans rfl
                    have hcz51_11 : wc.cell? ⟨gb142, 11, none⟩ = some (.int .i64 a1_11) := (blk_cell BK142.out 11).trans rfl
                    have hcz51_12 : wc.cell? ⟨gb142, 12, none⟩ = some (.int .i64 a1_12) := (blk_cell BK142.out 12).trans rfl
                    have hfz51_0 := blk_frozen BK142.out 0
                    have hfz51_1 := blk_frozen BK142.out 1
                    have hfz51_2 := blk_frozen BK142.out 2
                    have hfz51_3 := blk_frozen BK142.out 3
                    have hfz51_4 := blk_frozen BK142.out 4
                    have hfz51_5 := blk_frozen BK142.out 5
                    have hfz51_6 := blk_frozen BK142.out 6
                    have hfz51_7 := blk_frozen BK142.out 7
                    have hfz51_8 := blk_frozen BK142.out 8
                    have hfz51_9 := blk_frozen BK142.out 9
                    have hfz51_10 := blk_frozen BK142.out 10
                    have hfz51_11 := blk_frozen BK142.out 11
                    have hfz51_12 := blk_frozen BK142.out 12
                    go_wp2_with (first | ((first | (with_reducible refine gate_dst (N := 10) rfl ?_) | (with_reducible refine gate_dst (N := 13) rfl ?_)); refine wpList_load_mid rfl 25 (.tmp 3) rfl _ _ (by rfl) [_, _, _, _, _, _, _, _, _, _, _, _, _, _, _, _, _, _, _, _, _] _ (cellsAt_range _ (by (repeat (refine ⟨by assumption, ?_⟩)); exact trivial)) Try.underlying25 rfl (by kernel_rfl) ?_))
                    go_meet
                    case rel => exact ⟨_, (decide (a1_12 ≥ (wrap64 (t143 - t144)))), (by first | rfl | (simp; done) | exact ret_ne _ | (simp [*]; done)), H', ⟨by have := HJ5.out; have := HJ37.out; first | omega | exact Nat.le_refl _⟩, ⟨by (with_reducible repeat (first | refine blk_drewN ?_ _ | refine blk_drew ?_ | refine blk_alloc ?_ _)); exact BK141.out⟩, ⟨by (with_reducible repeat (first | refine blk_drewN ?_ _ | refine blk_drew ?_ | refine blk_alloc ?_ _)); exact BK142.out⟩, ⟨by repeat (first | (with_reducible first | exact HB.out | apply below_alloc | apply pw_below_drewN | apply below_drew1 | refine below_set ?_ GE141.out | refine below_set ?_ GE142.out) | exact HB.out)⟩⟩
                  · rw [if_neg c49] at H
                    have c49b0 : decide (0 ≤ a1_12) = false := decide_eq_false c49
                    clear c49
                    (first | rw [c49b0] | (simp only [i64_w, i32_w]; rw [c49b0]) | skip)
                    have H' := Aside0.mk H
                    clear H
                    have hnb52 := NB142_141.out
                    have hnc52 := NB141_142.out
                    have hcz53_0 : wc.cell? ⟨gb142, 0, none⟩ = some (.bool a1_0) := (blk_cell BK142.out 0).trans rfl
                    have hcz53_1 : wc.cell? ⟨gb142, 1, none⟩ = some (.bool a1_1) := (blk_cell BK142.out 1).trans rfl
                    have hcz53_2 : wc.cell? ⟨gb142, 2, none⟩ = some (.bool a1_2) := (blk_cell BK142.out 2).trans rfl
                    have hcz53_3 : wc.cell? ⟨gb142, 3, none⟩ = some (.bool a1_3) := (blk_cell BK142.out 3).trans rfl
                    have hcz53_4 : wc.cell? ⟨gb142, 4, none⟩ = some (.bool a1_4) := (blk_cell BK142.out 4).trans rfl
                    have hcz53_5 : wc.cell? ⟨gb142, 5, none⟩ = some (.bool a1_5) := (blk_cell BK142.out 5).trans rfl
                    have hcz53_6 : wc.cell? ⟨gb142, 6, none⟩ = some (.bool a1_6) := (blk_cell BK142.out 6).trans rfl
                    have hcz53_7 : wc.cell? ⟨gb142, 7, none⟩ = some (.int .i64 a1_7) := (blk_cell BK142.out 7).trans rfl
                    have hcz53_8 : wc.cell? ⟨gb142, 8, none⟩ = some (.int .i64 a1_8) := (blk_cell BK142.out 8).trans rfl
                    have hcz53_9 : wc.cell? ⟨gb142, 9, none⟩ = some (.int .i64 a1_9) := (blk_cell BK142.out 9).trans rfl
                    have hcz53_10 : wc.cell? ⟨gb142, 10, none⟩ = some (.int .i64 a1_10) := (blk_cell BK142.out 10).trans rfl
                    have hcz53_11 : wc.cell? ⟨gb142, 11, none⟩ = some (.int .i64 a1_11) := (blk_cell BK142.out 11).trans rfl
                    have hcz53_12 : wc.cell? ⟨gb142, 12, none⟩ = some (.int .i64 a1_12) := (blk_cell BK142.out 12).trans rfl
                    have hfz53_0 := blk_frozen BK142.out 0
                    have hfz53_1 := blk_frozen BK142.out 1
                    have hfz53_2 := blk_frozen BK142.out 2
                    have hfz53_3 := blk_frozen BK142.out 3
                    have hfz53_4 := blk_frozen BK142.out 4
                    have hfz53_5 := blk_frozen BK142.out 5
                    have hfz53_6 := blk_frozen BK142.out 6
                    have hfz53_7 := blk_frozen BK142.out 7
                    have hfz53_8 := blk_frozen BK142.out 8
                    have hfz53_9 := blk_frozen BK142.out 9
                    have hfz53_10 := blk_frozen BK142.out 10
                    have hfz53_11 := blk_frozen BK142.out 11
                    have hfz53_12 := blk_frozen BK142.out 12
                    go_wp2_with (first | ((first | (with_reducible refine gate_dst (N := 10) rfl ?_) | (with_reducible refine gate_dst (N := 13) rfl ?_)); refine wpList_load_mid rfl 25 (.tmp 3) rfl _ _ (by rfl) [_, _, _, _, _, _, _, _, _, _, _, _, _, _, _, _, _, _, _, _, _] _ (cellsAt_range _ (by (repeat (refine ⟨by assumption, ?_⟩)); exact trivial)) Try.underlying25 rfl (by kernel_rfl) ?_))
                    go_meet
                    case rel => exact ⟨_, (false), (by first | rfl | (simp; done) | exact ret_ne _ | (simp [*]; done)), H', ⟨by have := HJ5.out; have := HJ37.out; first | omega | exact Nat.le_refl _⟩, ⟨by (with_reducible repeat (first | refine blk_drewN ?_ _ | refine blk_drew ?_ | refine blk_alloc ?_ _)); exact BK141.out⟩, ⟨by (with_reducible repeat (first | refine blk_drewN ?_ _ | refine blk_drew ?_ | refine blk_alloc ?_ _)); exact BK142.out⟩, ⟨by repeat (first | (with_reducible first | exact HB.out | apply below_alloc | apply pw_below_drewN | apply below_drew1 | refine below_set ?_ GE141.out | refine below_set ?_ GE142.out) | exact HB.out)⟩⟩
                case rest =>
                  clear HC48
                  try clear p2
                  try clear c3
                  try clear c4
                  try clear c5
                  try clear p6
                  try clear c31
                  try clear c31b0
                  try clear c32
                  try clear c34
                  try clear c36
                  try clear c39
                  try clear c40
                  try clear c42
                  try clear c43
                  try clear c45
                  try clear c47
                  try clear c49
                  try clear c49b0
                  try clear c50
                  try clear c52
                  try clear hcz12_20
                  try clear hcz12_3
                  try clear hcz12_4
                  try clear hcz12_5
                  try clear hcz12_6
                  try clear hcz12_7
                  try clear hcz12_8
                  try clear hcz12_9
                  try clear hcz16_0
                  try clear hcz16_1
                  try clear hcz16_10
                  try clear hcz16_11
                  try clear hcz16_12
                  try clear hcz16_2
                  try clear hcz16_3
                  try clear hcz16_4
                  try clear hcz16_5
                  try clear hcz16_6
                  try clear hcz16_7
                  try clear hcz16_8
                  try clear hcz16_9
                  try clear hcz19_0
                  try clear hcz19_1
                  try clear hcz19_10
                  try clear hcz19_11
                  try clear hcz19_12
                  try clear hcz19_2
                  try clear hcz19_3
                  try clear hcz19_4
                  try clear hcz19_5
                  try clear hcz19_6
                  try clear hcz19_7
                  try clear hcz19_8
                  try clear hcz19_9
                  try clear hcz20_0
                  try clear hcz20_1
                  try clear hcz20_10
                  try clear hcz20_11
                  try clear hcz20_12
                  try clear hcz20_13
                  try clear hcz20_14
                  try clear hcz20_15
                  try clear hcz20_16
                  try clear hcz20_17
                  try clear hcz20_18
                  try clear hcz20_19
                  try clear hcz20_2
                  try clear hcz20_20
                  try clear hcz20_3
                  try clear hcz20_4
                  try clear hcz20_5
                  try clear hcz20_6
                  try clear hcz20_7
                  try clear hcz20_8
                  try clear hcz20_9
                  try clear hcz23_0
                  try clear hcz23_1
                  try clear hcz23_10
                  try clear hcz23_11
                  try clear hcz23_12
                  try clear hcz23_2
                  try clear hcz23_3
                  try clear hcz23_4
                  try clear hcz23_5
                  try clear hcz23_6
                  try clear hcz23_7
                  try clear hcz23_8
                  try clear hcz23_9
                  try clear hcz24_0
                  try clear hcz24_1
                  try clear hcz24_10
                  try clear hcz24_11
                  try clear hcz24_12
                  try clear hcz24_13
                  try clear hcz24_14
                  try clear hcz24_15
                  try clear hcz24_16
                  try clear hcz24_17
                  try clear hcz24_18
                  try clear hcz24_19
                  try clear hcz24_2
                  try clear hcz24_20
                  try clear hcz24_3
                  try clear hcz24_4
                  try clear hcz24_5
                  try clear hcz24_6
                  try clear hcz24_7
                  try clear hcz24_8
                  try clear hcz24_9
                  try clear hcz26_0
                  try clear hcz26_1
                  try clear hcz26_10
                  try clear hcz26_11
                  try clear hcz26_12
                  try clear hcz26_2
                  try clear hcz26_3
                  try clear hcz26_4
                  try clear hcz26_5
                  try clear hcz26_6
                  try clear hcz26_7
                  try clear hcz26_8
                  try clear hcz26_9
                  try clear hcz27_0
                  try clear hcz27_1
                  try clear hcz27_10
                  try clear hcz27_11
                  try clear hcz27_12
                  try clear hcz27_13
                  try clear hcz27_14
                  try clear hcz27_15
                  try clear hcz27_16
                  try clear hcz27_17
                  try clear hcz27_18
                  try clear hcz27_19
                  try clear hcz27_2
                  try clear hcz27_20
                  try clear hcz27_3
                  try clear hcz27_4
                  try clear hcz27_5
                  try clear hcz27_6
                  try clear hcz27_7
                  try clear hcz27_8
                  try clear hcz27_9
                  try clear hcz33_0
                  try clear hcz33_1
                  try clear hcz33_10
                  try clear hcz33_11
                  try clear hcz33_12
                  try clear hcz33_2
                  try clear hcz33_3
                  try clear hcz33_4
                  try clear hcz33_5
                  try clear hcz33_6
                  try clear hcz33_7
                  try clear hcz33_8
                  try clear hcz33_9
                  try clear hcz35_0
                  try clear hcz35_1
                  try clear hcz35_10
                  try clear hcz35_11
                  try clear hcz35_12
                  try clear hcz35_2
                  try clear hcz35_3
                  try clear hcz35_4
                  try clear hcz35_5
                  try clear hcz35_6
                  try clear hcz35_7
                  try clear hcz35_8
                  try clear hcz35_9
                  try clear hcz37_0
                  try clear hcz37_1
                  try clear hcz37_10
                  try clear hcz37_11
                  try clear hcz37_12
                  try clear hcz37_2
                  try clear hcz37_3
                  try clear hcz37_4
                  try clear hcz37_5
                  try clear hcz37_6
                  try clear hcz37_7
                  try clear hcz37_8
                  try clear hcz37_9
                  try clear hcz41_0
                  try clear hcz41_1
                  try clear hcz41_10
                  try clear hcz41_11
                  try clear hcz41_12
                  try clear hcz41_13
                  try clear hcz41_14
                  try clear hcz41_15
                  try clear hcz41_16
                  try clear hcz41_17
                  try clear hcz41_18
                  try clear hcz41_19
                  try clear hcz41_2
                  try clear hcz41_20
                  try clear hcz41_3
                  try clear hcz41_4
                  try clear hcz41_5
                  try clear hcz41_6
                  try clear hcz41_7
                  try clear hcz41_8
                  try clear hcz41_9
                  try clear hcz44_0
                  try clear hcz44_1
                  try clear hcz44_10
                  try clear hcz44_11
                  try clear hcz44_12
                  try clear hcz44_13
                  try clear hcz44_14
                  try clear hcz44_15
                  try clear hcz44_16
                  try clear hcz44_17
                  try clear hcz44_18
                  try clear hcz44_19
                  try clear hcz44_2
                  try clear hcz44_20
                  try clear hcz44_3
                  try clear hcz44_4
                  try clear hcz44_5
                  try clear hcz44_6
                  try clear hcz44_7
                  try clear hcz44_8
                  try clear hcz44_9
                  try clear hcz46_0
                  try clear hcz46_1
                  try clear hcz46_10
                  try clear hcz46_11
                  try clear hcz46_12
                  try clear hcz46_13
                  try clear hcz46_14
                  try clear hcz46_15
                  try clear hcz46_16
                  try clear hcz46_17
                  try clear hcz46_18
                  try clear hcz46_19
                  try clear hcz46_2
                  try clear hcz46_20
                  try clear hcz46_3
                  try clear hcz46_4
                  try clear hcz46_5
                  try clear hcz46_6
                  try clear hcz46_7
                  try clear hcz46_8
                  try clear hcz46_9
                  try clear hcz51_0
                  try clear hcz51_1
                  try clear hcz51_10
                  try clear hcz51_11
                  try clear hcz51_12
                  try clear hcz51_2
                  try clear hcz51_3
                  try clear hcz51_4
                  try clear hcz51_5
                  try clear hcz51_6
                  try clear hcz51_7
                  try clear hcz51_8
                  try clear hcz51_9
                  try clear hcz53_0
                  try clear hcz53_1
                  try clear hcz53_10
                  try clear hcz53_11
                  try clear hcz53_12
                  try clear hcz53_2
                  try clear hcz53_3
                  try clear hcz53_4
                  try clear hcz53_5
                  try clear hcz53_6
                  try clear hcz53_7
                  try clear hcz53_8
                  try clear hcz53_9
                  try clear hfz10_0
                  try clear hfz10_1
                  try clear hfz10_10
                  try clear hfz10_11
                  try clear hfz10_12
                  try clear hfz10_13
                  try clear hfz10_14
                  try clear hfz10_15
                  try clear hfz10_16
                  try clear hfz10_17
                  try clear hfz10_18
                  try clear hfz10_19
                  try clear hfz10_2
                  try clear hfz10_20
                  try clear hfz10_3
                  try clear hfz10_4
                  try clear hfz10_5
                  try clear hfz10_6
                  try clear hfz10_7
                  try clear hfz10_8
                  try clear hfz10_9
                  try clear hfz12_0
                  try clear hfz12_1
                  try clear hfz12_10
                  try clear hfz12_11
                  try clear hfz12_12
                  try clear hfz12_13
                  try clear hfz12_14
                  try clear hfz12_15
                  try clear hfz12_16
                  try clear hfz12_17
                  try clear hfz12_18
                  try clear hfz12_19
                  try clear hfz12_2
                  try clear hfz12_20
                  try clear hfz12_3
                  try clear hfz12_4
                  try clear hfz12_5
                  try clear hfz12_6
                  try clear hfz12_7
                  try clear hfz12_8
                  try clear hfz12_9
                  try clear hfz16_0
                  try clear hfz16_1
                  try clear hfz16_10
                  try clear hfz16_11
                  try clear hfz16_12
                  try clear hfz16_2
                  try clear hfz16_3
                  try clear hfz16_4
                  try clear hfz16_5
                  try clear hfz16_6
                  try clear hfz16_7
                  try clear hfz16_8
                  try clear hfz16_9
                  try clear hfz19_0
                  try clear hfz19_1
                  try clear hfz19_10
                  try clear hfz19_11
                  try clear hfz19_12
                  try clear hfz19_2
                  try clear hfz19_3
                  try clear hfz19_4
                  try clear hfz19_5
                  try clear hfz19_6
                  try clear hfz19_7
                  try clear hfz19_8
                  try clear hfz19_9
                  try clear hfz20_0
                  try clear hfz20_1
                  try clear hfz20_10
                  try clear hfz20_11
                  try clear hfz20_12
                  try clear hfz20_13
                  try clear hfz20_14
                  try clear hfz20_15
                  try clear hfz20_16
                  try clear hfz20_17
                  try clear hfz20_18
                  try clear hfz20_19
                  try clear hfz20_2
                  try clear hfz20_20
                  try clear hfz20_3
                  try clear hfz20_4
                  try clear hfz20_5
                  try clear hfz20_6
                  try clear hfz20_7
                  try clear hfz20_8
                  try clear hfz20_9
                  try clear hfz23_0
                  try clear hfz23_1
                  try clear hfz23_10
                  try clear hfz23_11
                  try clear hfz23_12
                  try clear hfz23_2
                  try clear hfz23_3
                  try clear hfz23_4
                  try clear hfz23_5
                  try clear hfz23_6
                  try clear hfz23_7
                  try clear hfz23_8
                  try clear hfz23_9
                  try clear hfz24_0
                  try clear hfz24_1
                  try clear hfz24_10
                  try clear hfz24_11
                  try clear hfz24_12
                  try clear hfz24_13
                  try clear hfz24_14
                  try clear hfz24_15
                  try clear hfz24_16
                  try clear hfz24_17
                  try clear hfz24_18
                  try clear hfz24_19
                  try clear hfz24_2
                  try clear hfz24_20
                  try clear hfz24_3
                  try clear hfz24_4
                  try clear hfz24_5
                  try clear hfz24_6
                  try clear hfz24_7
                  try clear hfz24_8
                  try clear hfz24_9
                  try clear hfz26_0
                  try clear hfz26_1
                  try clear hfz26_10
                  try clear hfz26_11
                  try clear hfz26_12
                  try clear hfz26_2
                  try clear hfz26_3
                  try clear hfz26_4
                  try clear hfz26_5
                  try clear hfz26_6
                  try clear hfz26_7
                  try clear hfz26_8
                  try clear hfz26_9
                  try clear hfz27_0
                  try clear hfz27_1
                  try clear hfz27_10
                  try clear hfz27_11
                  try clear hfz27_12
                  try clear hfz27_13
                  try clear hfz27_14
                  try clear hfz27_15
                  try clear hfz27_16
                  try clear hfz27_17
                  try clear hfz27_18
                  try clear hfz27_19
                  try clear hfz27_2
                  try clear hfz27_20
                  try clear hfz27_3
                  try clear hfz27_4
                  try clear hfz27_5
                  try clear hfz27_6
                  try clear hfz27_7
                  try clear hfz27_8
                  try clear hfz27_9
                  try clear hfz33_0
                  try clear hfz33_1
                  try clear hfz33_10
                  try clear hfz33_11
                  try clear hfz33_12
                  try clear hfz33_2
                  try clear hfz33_3
                  try clear hfz33_4
                  try clear hfz33_5
                  try clear hfz33_6
                  try clear hfz33_7
                  try clear hfz33_8
                  try clear hfz33_9
                  try clear hfz35_0
                  try clear hfz35_1
                  try clear hfz35_10
                  try clear hfz35_11
                  try clear hfz35_12
                  try clear hfz35_2
                  try clear hfz35_3
                  try clear hfz35_4
                  try clear hfz35_5
                  try clear hfz35_6
                  try clear hfz35_7
                  try clear hfz35_8
                  try clear hfz35_9
                  try clear hfz37_0
                  try clear hfz37_1
                  try clear hfz37_10
                  try clear hfz37_11
                  try clear hfz37_12
                  try clear hfz37_2
                  try clear hfz37_3
                  try clear hfz37_4
                  try clear hfz37_5
                  try clear hfz37_6
                  try clear hfz37_7
                  try clear hfz37_8
                  try clear hfz37_9
                  try clear hfz41_0
                  try clear hfz41_1
                  try clear hfz41_10
                  try clear hfz41_11
                  try clear hfz41_12
                  try clear hfz41_13
                  try clear hfz41_14
                  try clear hfz41_15
                  try clear hfz41_16
                  try clear hfz41_17
                  try clear hfz41_18
                  try clear hfz41_19
                  try clear hfz41_2
                  try clear hfz41_20
                  try clear hfz41_3
                  try clear hfz41_4
                  try clear hfz41_5
                  try clear hfz41_6
                  try clear hfz41_7
                  try clear hfz41_8
                  try clear hfz41_9
                  try clear hfz44_0
                  try clear hfz44_1
                  try clear hfz44_10
                  try clear hfz44_11
                  try clear hfz44_12
                  try clear hfz44_13
                  try clear hfz44_14
                  try clear hfz44_15
                  try clear hfz44_16
                  try clear hfz44_17
                  try clear hfz44_18
                  try clear hfz44_19
                  try clear hfz44_2
                  try clear hfz44_20
                  try clear hfz44_3
                  try clear hfz44_4
                  try clear hfz44_5
                  try clear hfz44_6
                  try clear hfz44_7
                  try clear hfz44_8
                  try clear hfz44_9
                  try clear hfz46_0
                  try clear hfz46_1
                  try clear hfz46_10
                  try clear hfz46_11
                  try clear hfz46_12
                  try clear hfz46_13
                  try clear hfz46_14
                  try clear hfz46_15
                  try clear hfz46_16
                  try clear hfz46_17
                  try clear hfz46_18
                  try clear hfz46_19
                  try clear hfz46_2
                  try clear hfz46_20
                  try clear hfz46_3
                  try clear hfz46_4
                  try clear hfz46_5
                  try clear hfz46_6
                  try clear hfz46_7
                  try clear hfz46_8
                  try clear hfz46_9
                  try clear hfz51_0
                  try clear hfz51_1
                  try clear hfz51_10
                  try clear hfz51_11
                  try clear hfz51_12
                  try clear hfz51_2
                  try clear hfz51_3
                  try clear hfz51_4
                  try clear hfz51_5
                  try clear hfz51_6
                  try clear hfz51_7
                  try clear hfz51_8
                  try clear hfz51_9
                  try clear hfz53_0
                  try clear hfz53_1
                  try clear hfz53_10
                  try clear hfz53_11
                  try clear hfz53_12
                  try clear hfz53_2
                  try clear hfz53_3
                  try clear hfz53_4
                  try clear hfz53_5
                  try clear hfz53_6
                  try clear hfz53_7
                  try clear hfz53_8
                  try clear hfz53_9
                  obtain ⟨kq, x72_47, rfl, HA, HJ47, BK141, BK142, HB⟩ := hcut
                  cases kq with
                  | zero => exact absurd HA.out (by simp [gatepostref09_State.j2])
                  | succ kj47 =>
                    have H := HA.out
                    clear HA
                    simp only [gatepostref09_State.j2] at H
                    by_cases c54 : x72_47 = true
                    · subst c54
                      have H1 : (some 0) = some r := by rw [if_pos rfl] at H; exact H
                      clear H
                      have H := H1
                      clear H1
                      obtain rfl := Option.some.inj H
                      go_wp2_with (first | ((first | (with_reducible refine gate_dst (N := 10) rfl ?_) | (with_reducible refine gate_dst (N := 13) rfl ?_)); refine wpList_load_mid rfl 25 (.tmp 3) rfl _ _ (by rfl) [_, _, _, _, _, _, _, _, _, _, _, _, _, _, _, _, _, _, _, _, _] _ (cellsAt_range _ (by (repeat (refine ⟨by assumption, ?_⟩)); exact trivial)) Try.underlying25 rfl (by kernel_rfl) ?_))
                      go_ret
                      exact ⟨by first | rfl | (simp [errW_none, errW_some] <;> rfl) | (simp [*, errW_none, errW_some] <;> rfl), by repeat (first | (with_reducible first | exact HB.out | apply below_alloc | apply pw_below_drewN | apply below_drew1 | refine below_set ?_ GE141.out | refine below_set ?_ GE142.out) | exact HB.out)⟩
                    · replace c54 := Bool.eq_false_iff.mpr c54
                      subst c54
                      have H1 : (if a0_10 ≥ 0 then (if a0_10 > (wrap64 (t143 - t144)) then (if a1_11 ≤ 0 then (some 1) else (some 2)) else (some 2)) else (some 2)) = some r := by rw [if_neg (show ¬ (false = true) by decide)] at H; exact H
                      clear H
                      have H := H1
                      clear H1
                      by_cases c55 : a0_10 ≥ 0
                      · rw [if_pos c55] at H
                        have c55b0 : decide (0 ≤ a0_10) = true := decide_eq_true c55
                        clear c55
                        by_cases c56 : a0_10 > (wrap64 (t143 - t144))
                        · rw [if_pos c56] at H
                          have c56b0 : decide ((wrap64 (t143 - t144)) < a0_10) = true := decide_eq_true c56
                          clear c56
                          by_cases c57 : a1_11 ≤ 0
                          · rw [if_pos c57] at H
                            have c57b0 : decide (a1_11 ≤ 0) = true := decide_eq_true c57
                            clear c57
                            obtain rfl := Option.some.inj H
                            have hnb58 := NB141_142.out
                            have hnc58 := NB142_141.out
                            have hcz59_0 : wc.cell? ⟨gb141, 0, none⟩ = some (.int .i64 a0_0) := (blk_cell BK141.out 0).trans rfl
                            have hcz59_1 : wc.cell? ⟨gb141, 1, none⟩ = some (.bool a0_1) := (blk_cell BK141.out 1).trans rfl
                            have hcz59_2 : wc.cell? ⟨gb141, 2, none⟩ = some (.bool a0_2) := (blk_cell BK141.out 2).trans rfl
                            have hcz59_3 : wc.cell? ⟨gb141, 3, none⟩ = some (.bool a0_3) := (blk_cell BK141.out 3).trans rfl
                            have hcz59_4 : wc.cell? ⟨gb141, 4, none⟩ = some (.bool a0_4) := (blk_cell BK141.out 4).trans rfl
                            have hcz59_5 : wc.cell? ⟨gb141, 5, none⟩ = some (.bool a0_5) := (blk_cell BK141.out 5).trans rfl
                            have hcz59_6 : wc.cell? ⟨gb141, 6, none⟩ = some (.bool a0_6) := (blk_cell BK141.out 6).trans rfl
                            have hcz59_7 : wc.cell? ⟨gb141, 7, none⟩ = some (.bool a0_7) := (blk_cell BK141.out 7).trans rfl
                            have hcz59_8 : wc.cell? ⟨gb141, 8, none⟩ = some (.int .i64 a0_8) := (blk_cell BK141.out 8).trans rfl
                            have hcz59_9 : wc.cell? ⟨gb141, 9, none⟩ = some (.int .i64 a0_9) := (blk_cell BK141.out 9).trans rfl
                            have hcz59_10 : wc.cell? ⟨gb141, 10, none⟩ = some (.int .i64 a0_10) := (blk_cell BK141.out 10).trans rfl
                            have hcz59_11 : wc.cell? ⟨gb141, 11, none⟩ = some (.int .i64 a0_11) := (blk_cell BK141.out 11).trans rfl
                            have hcz59_12 : wc.cell? ⟨gb141, 12, none⟩ = some (.int .i64 a0_12) := (blk_cell BK141.out 12).trans rfl
                            have hcz59_13 : wc.cell? ⟨gb141, 13, none⟩ = some (.int .i64 a0_13) := (blk_cell BK141.out 13).trans rfl
                            have hcz59_14 : wc.cell? ⟨gb141, 14, none⟩ = some (.int .i64 a0_14) := (blk_cell BK141.out 14).trans rfl
                            have hcz59_15 : wc.cell? ⟨gb141, 15, none⟩ = some (.int .i64 a0_15) := (blk_cell BK141.out 15).trans rfl
                            have hcz59_16 : wc.cell? ⟨gb141, 16, none⟩ = some (.int .i64 a0_16) := (blk_cell BK141.out 16).trans rfl
                            have hcz59_17 : wc.cell? ⟨gb141, 17, none⟩ = some (.int .i64 a0_17) := (blk_cell BK141.out 17).trans rfl
                            have hcz59_18 : wc.cell? ⟨gb141, 18, none⟩ = some (.int .i64 a0_18) := (blk_cell BK141.out 18).trans rfl
                            have hcz59_19 : wc.cell? ⟨gb141, 19, none⟩ = some (.int .i64 a0_19) := (blk_cell BK141.out 19).trans rfl
                            have hcz59_20 : wc.cell? ⟨gb141, 20, none⟩ = some (.string a0_20) := (blk_cell BK141.out 20).trans rfl
                            have hfz59_0 := blk_frozen BK141.out 0
                            have hfz59_1 := blk_frozen BK141.out 1
                            have hfz59_2 := blk_frozen BK141.out 2
                            have hfz59_3 := blk_frozen BK141.out 3
                            have hfz59_4 := blk_frozen BK141.out 4
                            have hfz59_5 := blk_frozen BK141.out 5
                            have hfz59_6 := blk_frozen BK141.out 6
                            have hfz59_7 := blk_frozen BK141.out 7
                            have hfz59_8 := blk_frozen BK141.out 8
                            have hfz59_9 := blk_frozen BK141.out 9
                            have hfz59_10 := blk_frozen BK141.out 10
                            have hfz59_11 := blk_frozen BK141.out 11
                            have hfz59_12 := blk_frozen BK141.out 12
                            have hfz59_13 := blk_frozen BK141.out 13
                            have hfz59_14 := blk_frozen BK141.out 14
                            have hfz59_15 := blk_frozen BK141.out 15
                            have hfz59_16 := blk_frozen BK141.out 16
                            have hfz59_17 := blk_frozen BK141.out 17
                            have hfz59_18 := blk_frozen BK141.out 18
                            have hfz59_19 := blk_frozen BK141.out 19
                            have hfz59_20 := blk_frozen BK141.out 20
                            have hcz60_0 : wc.cell? ⟨gb142, 0, none⟩ = some (.bool a1_0) := (blk_cell BK142.out 0).trans rfl
                            have hcz60_1 : wc.cell? ⟨gb142, 1, none⟩ = some (.bool a1_1) := (blk_cell BK142.out 1).trans rfl
                            have hcz60_2 : wc.cell? ⟨gb142, 2, none⟩ = some (.bool a1_2) := (blk_cell BK142.out 2).trans rfl
                            have hcz60_3 : wc.cell? ⟨gb142, 3, none⟩ = some (.bool a1_3) := (blk_cell BK142.out 3).trans rfl
                            have hcz60_4 : wc.cell? ⟨gb142, 4, none⟩ = some (.bool a1_4) := (blk_cell BK142.out 4).trans rfl
                            have hcz60_5 : wc.cell? ⟨gb142, 5, none⟩ = some (.bool a1_5) := (blk_cell BK142.out 5).trans rfl
                            have hcz60_6 : wc.cell? ⟨gb142, 6, none⟩ = some (.bool a1_6) := (blk_cell BK142.out 6).trans rfl
                            have hcz60_7 : wc.cell? ⟨gb142, 7, none⟩ = some (.int .i64 a1_7) := (blk_cell BK142.out 7).trans rfl
                            have hcz60_8 : wc.cell? ⟨gb142, 8, none⟩ = some (.int .i64 a1_8) := (blk_cell BK142.out 8).trans rfl
                            have hcz60_9 : wc.cell? ⟨gb142, 9, none⟩ = some (.int .i64 a1_9) := (blk_cell BK142.out 9).trans rfl
                            have hcz60_10 : wc.cell? ⟨gb142, 10, none⟩ = some (.int .i64 a1_10) := (blk_cell BK142.out 10).trans rfl
                            have hcz60_11 : wc.cell? ⟨gb142, 11, none⟩ = some (.int .i64 a1_11) := (blk_cell BK142.out 11).trans rfl
                            have hcz60_12 : wc.cell? ⟨gb142, 12, none⟩ = some (.int .i64 a1_12) := (blk_cell BK142.out 12).trans rfl
                            have hfz60_0 := blk_frozen BK142.out 0
                            have hfz60_1 := blk_frozen BK142.out 1
                            have hfz60_2 := blk_frozen BK142.out 2
                            have hfz60_3 := blk_frozen BK142.out 3
                            have hfz60_4 := blk_frozen BK142.out 4
                            have hfz60_5 := blk_frozen BK142.out 5
                            have hfz60_6 := blk_frozen BK142.out 6
                            have hfz60_7 := blk_frozen BK142.out 7
                            have hfz60_8 := blk_frozen BK142.out 8
                            have hfz60_9 := blk_frozen BK142.out 9
                            have hfz60_10 := blk_frozen BK142.out 10
                            have hfz60_11 := blk_frozen BK142.out 11
                            have hfz60_12 := blk_frozen BK142.out 12
                            go_wp2_with (first | ((first | (with_reducible refine gate_dst (N := 10) rfl ?_) | (with_reducible refine gate_dst (N := 13) rfl ?_)); refine wpList_load_mid rfl 25 (.tmp 3) rfl _ _ (by rfl) [_, _, _, _, _, _, _, _, _, _, _, _, _, _, _, _, _, _, _, _, _] _ (cellsAt_range _ (by (repeat (refine ⟨by assumption, ?_⟩)); exact trivial)) Try.underlying25 rfl (by kernel_rfl) ?_))
                            go_ret
                            exact ⟨by first | rfl | (simp [errW_none, errW_some] <;> rfl) | (simp [*, errW_none, errW_some] <;> rfl), by repeat (first | (with_reducible first | exact HB.out | apply below_alloc | apply pw_below_drewN | apply below_drew1 | refine below_set ?_ GE141.out | refine below_set ?_ GE142.out) | exact HB.out)⟩
                          · rw [if_neg c57] at H
                            have c57b0 : decide (a1_11 ≤ 0) = false := decide_eq_false c57
                            clear c57
                            obtain rfl := Option.some.inj H
                            have hnb61 := NB141_142.out
                            have hnc61 := NB142_141.out
                            have hcz62_0 : wc.cell? ⟨gb141, 0, none⟩ = some (.int .i64 a0_0) := (blk_cell BK141.out 0).trans rfl
                            have hcz62_1 : wc.cell? ⟨gb141, 1, none⟩ = some (.bool a0_1) := (blk_cell BK141.out 1).trans rfl
                            have hcz62_2 : wc.cell? ⟨gb141, 2, none⟩ = some (.bool a0_2) := (blk_cell BK141.out 2).trans rfl
                            have hcz62_3 : wc.cell? ⟨gb141, 3, none⟩ = some (.bool a0_3) := (blk_cell BK141.out 3).trans rfl
                            have hcz62_4 : wc.cell? ⟨gb141, 4, none⟩ = some (.bool a0_4) := (blk_cell BK141.out 4).trans rfl
                            have hcz62_5 : wc.cell? ⟨gb141, 5, none⟩ = some (.bool a0_5) := (blk_cell BK141.out 5).trans rfl
                            have hcz62_6 : wc.cell? ⟨gb141, 6, none⟩ = some (.bool a0_6) := (blk_cell BK141.out 6).trans rfl
                            have hcz62_7 : wc.cell? ⟨gb141, 7, none⟩ = some (.bool a0_7) := (blk_cell BK141.out 7).trans rfl
                            have hcz62_8 : wc.cell? ⟨gb141, 8, none⟩ = some (.int .i64 a0_8) := (blk_cell BK141.out 8).trans rfl
                            have hcz62_9 : wc.cell? ⟨gb141, 9, none⟩ = some (.int .i64 a0_9) := (blk_cell BK141.out 9).trans rfl
                            have hcz62_10 : wc.cell? ⟨gb141, 10, none⟩ = some (.int .i64 a0_10) := (blk_cell BK141.out 10).trans rfl
                            have hcz62_11 : wc.cell? ⟨gb141, 11, none⟩ = some (.int .i64 a0_11) := (blk_cell BK141.out 11).trans rfl
                            have hcz62_12 : wc.cell? ⟨gb141, 12, none⟩ = some (.int .i64 a0_12) := (blk_cell BK141.out 12).trans rfl
                            have hcz62_13 : wc.cell? ⟨gb141, 13, none⟩ = some (.int .i64 a0_13) := (blk_cell BK141.out 13).trans rfl
                            have hcz62_14 : wc.cell? ⟨gb141, 14, none⟩ = some (.int .i64 a0_14) := (blk_cell BK141.out 14).trans rfl
                            have hcz62_15 : wc.cell? ⟨gb141, 15, none⟩ = some (.int .i64 a0_15) := (blk_cell BK141.out 15).trans rfl
                            have hcz62_16 : wc.cell? ⟨gb141, 16, none⟩ = some (.int .i64 a0_16) := (blk_cell BK141.out 16).trans rfl
                            have hcz62_17 : wc.cell? ⟨gb141, 17, none⟩ = some (.int .i64 a0_17) := (blk_cell BK141.out 17).trans rfl
                            have hcz62_18 : wc.cell? ⟨gb141, 18, none⟩ = some (.int .i64 a0_18) := (blk_cell BK141.out 18).trans rfl
                            have hcz62_19 : wc.cell? ⟨gb141, 19, none⟩ = some (.int .i64 a0_19) := (blk_cell BK141.out 19).trans rfl
                            have hcz62_20 : wc.cell? ⟨gb141, 20, none⟩ = some (.string a0_20) := (blk_cell BK141.out 20).trans rfl
                            have hfz62_0 := blk_frozen BK141.out 0
                            have hfz62_1 := blk_frozen BK141.out 1
                            have hfz62_2 := blk_frozen BK141.out 2
                            have hfz62_3 := blk_frozen BK141.out 3
                            have hfz62_4 := blk_frozen BK141.out 4
                            have hfz62_5 := blk_frozen BK141.out 5
                            have hfz62_6 := blk_frozen BK141.out 6
                            have hfz62_7 := blk_frozen BK141.out 7
                            have hfz62_8 := blk_frozen BK141.out 8
                            have hfz62_9 := blk_frozen BK141.out 9
                            have hfz62_10 := blk_frozen BK141.out 10
                            have hfz62_11 := blk_frozen BK141.out 11
                            have hfz62_12 := blk_frozen BK141.out 12
                            have hfz62_13 := blk_frozen BK141.out 13
                            have hfz62_14 := blk_frozen BK141.out 14
                            have hfz62_15 := blk_frozen BK141.out 15
                            have hfz62_16 := blk_frozen BK141.out 16
                            have hfz62_17 := blk_frozen BK141.out 17
                            have hfz62_18 := blk_frozen BK141.out 18
                            have hfz62_19 := blk_frozen BK141.out 19
                            have hfz62_20 := blk_frozen BK141.out 20
                            have hcz63_0 : wc.cell? ⟨gb142, 0, none⟩ = some (.bool a1_0) := (blk_cell BK142.out 0).trans rfl
                            have hcz63_1 : wc.cell? ⟨gb142, 1, none⟩ = some (.bool a1_1) := (blk_cell BK142.out 1).trans rfl
                            have hcz63_2 : wc.cell? ⟨gb142, 2, none⟩ = some (.bool a1_2) := (blk_cell BK142.out 2).trans rfl
                            have hcz63_3 : wc.cell? ⟨gb142, 3, none⟩ = some (.bool a1_3) := (blk_cell BK142.out 3).trans rfl
                            have hcz63_4 : wc.cell? ⟨gb142, 4, none⟩ = some (.bool a1_4) := (blk_cell BK142.out 4).trans rfl
                            have hcz63_5 : wc.cell? ⟨gb142, 5, none⟩ = some (.bool a1_5) := (blk_cell BK142.out 5).trans rfl
                            have hcz63_6 : wc.cell? ⟨gb142, 6, none⟩ = some (.bool a1_6) := (blk_cell BK142.out 6).trans rfl
                            have hcz63_7 : wc.cell? ⟨gb142, 7, none⟩ = some (.int .i64 a1_7) := (blk_cell BK142.out 7).trans rfl
                            have hcz63_8 : wc.cell? ⟨gb142, 8, none⟩ = some (.int .i64 a1_8) := (blk_cell BK142.out 8).trans rfl
                            have hcz63_9 : wc.cell? ⟨gb142, 9, none⟩ = some (.int .i64 a1_9) := (blk_cell BK142.out 9).trans rfl
                            have hcz63_10 : wc.cell? ⟨gb142, 10, none⟩ = some (.int .i64 a1_10) := (blk_cell BK142.out 10).trans rfl
                            have hcz63_11 : wc.cell? ⟨gb142, 11, none⟩ = some (.int .i64 a1_11) := (blk_cell BK142.out 11).trans rfl
                            have hcz63_12 : wc.cell? ⟨gb142, 12, none⟩ = some (.int .i64 a1_12) := (blk_cell BK142.out 12).trans rfl
                            have hfz63_0 := blk_frozen BK142.out 0
                            have hfz63_1 := blk_frozen BK142.out 1
                            have hfz63_2 := blk_frozen BK142.out 2
                            have hfz63_3 := blk_frozen BK142.out 3
                            have hfz63_4 := blk_frozen BK142.out 4
                            have hfz63_5 := blk_frozen BK142.out 5
                            have hfz63_6 := blk_frozen BK142.out 6
                            have hfz63_7 := blk_frozen BK142.out 7
                            have hfz63_8 := blk_frozen BK142.out 8
                            have hfz63_9 := blk_frozen BK142.out 9
                            have hfz63_10 := blk_frozen BK142.out 10
                            have hfz63_11 := blk_frozen BK142.out 11
                            have hfz63_12 := blk_frozen BK142.out 12
                            go_wp2_with (first | ((first | (with_reducible refine gate_dst (N := 10) rfl ?_) | (with_reducible refine gate_dst (N := 13) rfl ?_)); refine wpList_load_mid rfl 25 (.tmp 3) rfl _ _ (by rfl) [_, _, _, _, _, _, _, _, _, _, _, _, _, _, _, _, _, _, _, _, _] _ (cellsAt_range _ (by (repeat (refine ⟨by assumption, ?_⟩)); exact trivial)) Try.underlying25 rfl (by kernel_rfl) ?_))
                            go_ret
                            exact ⟨by first | rfl | (simp [errW_none, errW_some] <;> rfl) | (simp [*, errW_none, errW_some] <;> rfl), by repeat (first | (with_reducible first | exact HB.out | apply below_alloc | apply pw_below_drewN | apply below_drew1 | refine below_set ?_ GE141.out | refine below_set ?_ GE142.out) | exact HB.out)⟩
                        · rw [if_neg c56] at H
                          have c56b0 : decide ((wrap64 (t143 - t144)) < a0_10) = false := decide_eq_false c56
                          clear c56
                          obtain rfl := Option.some.inj H
                          have hnb64 := NB141_142.out
                          have hnc64 := NB142_141.out
                          have hcz65_0 : wc.cell? ⟨gb141, 0, none⟩ = some (.int .i64 a0_0) := (blk_cell BK141.out 0).trans rfl
                          have hcz65_1 : wc.cell? ⟨gb141, 1, none⟩ = some (.bool a0_1) := (blk_cell BK141.out 1).trans rfl
                          have hcz65_2 : wc.cell? ⟨gb141, 2, none⟩ = some (.bool a0_2) := (blk_cell BK141.out 2).trans rfl
                          have hcz65_3 : wc.cell? ⟨gb141, 3, none⟩ = some (.bool a0_3) := (blk_cell BK141.out 3).trans rfl
                          have hcz65_4 : wc.cell? ⟨gb141, 4, none⟩ = some (.bool a0_4) := (blk_cell BK141.out 4).trans rfl
                          have hcz65_5 : wc.cell? ⟨gb141, 5, none⟩ = some (.bool a0_5) := (blk_cell BK141.out 5).trans rfl
                          have hcz65_6 : wc.cell? ⟨gb141, 6, none⟩ = some (.bool a0_6) := (blk_cell BK141.out 6).trans rfl
                          have hcz65_7 : wc.cell? ⟨gb141, 7, none⟩ = some (.bool a0_7) := (blk_cell BK141.out 7).trans rfl
                          have hcz65_8 : wc.cell? ⟨gb141, 8, none⟩ = some (.int .i64 a0_8) := (blk_cell BK141.out 8).trans rfl
                          have hcz65_9 : wc.cell? ⟨gb141, 9, none⟩ = some (.int .i64 a0_9) := (blk_cell BK141.out 9).trans rfl
                          have hcz65_10 : wc.cell? ⟨gb141, 10, none⟩ = some (.int .i64 a0_10) := (blk_cell BK141.out 10).trans rfl
                          have hcz65_11 : wc.cell? ⟨gb141, 11, none⟩ = some (.int .i64 a0_11) := (blk_cell BK141.out 11).trans rfl
                          have hcz65_12 : wc.cell? ⟨gb141, 12, none⟩ = some (.int .i64 a0_12) := (blk_cell BK141.out 12).trans rfl
                          have hcz65_13 : wc.cell? ⟨gb141, 13, none⟩ = some (.int .i64 a0_13) := (blk_cell BK141.out 13).trans rfl
                          have hcz65_14 : wc.cell? ⟨gb141, 14, none⟩ = some (.int .i64 a0_14) := (blk_cell BK141.out 14).trans rfl
                          have hcz65_15 : wc.cell? ⟨gb141, 15, none⟩ = some (.int .i64 a0_15) := (blk_cell BK141.out 15).trans rfl
                          have hcz65_16 : wc.cell? ⟨gb141, 16, none⟩ = some (.int .i64 a0_16) := (blk_cell BK141.out 16).trans rfl
                          have hcz65_17 : wc.cell? ⟨gb141, 17, none⟩ = some (.int .i64 a0_17) := (blk_cell BK141.out 17).trans rfl
                          have hcz65_18 : wc.cell? ⟨gb141, 18, none⟩ = some (.int .i64 a0_18) := (blk_cell BK141.out 18).trans rfl
                          have hcz65_19 : wc.cell? ⟨gb141, 19, none⟩ = some (.int .i64 a0_19) := (blk_cell BK141.out 19).trans rfl
                          have hcz65_20 : wc.cell? ⟨gb141, 20, none⟩ = some (.string a0_20) := (blk_cell BK141.out 20).trans rfl
                          have hfz65_0 := blk_frozen BK141.out 0
                          have hfz65_1 := blk_frozen BK141.out 1
                          have hfz65_2 := blk_frozen BK141.out 2
                          have hfz65_3 := blk_frozen BK141.out 3
                          have hfz65_4 := blk_frozen BK141.out 4
                          have hfz65_5 := blk_frozen BK141.out 5
                          have hfz65_6 := blk_frozen BK141.out 6
                          have hfz65_7 := blk_frozen BK141.out 7
                          have hfz65_8 := blk_frozen BK141.out 8
                          have hfz65_9 := blk_frozen BK141.out 9
                          have hfz65_10 := blk_frozen BK141.out 10
                          have hfz65_11 := blk_frozen BK141.out 11
                          have hfz65_12 := blk_frozen BK141.out 12
                          have hfz65_13 := blk_frozen BK141.out 13
                          have hfz65_14 := blk_frozen BK141.out 14
                          have hfz65_15 := blk_frozen BK141.out 15
                          have hfz65_16 := blk_frozen BK141.out 16
                          have hfz65_17 := blk_frozen BK141.out 17
                          have hfz65_18 := blk_frozen BK141.out 18
                          have hfz65_19 := blk_frozen BK141.out 19
                          have hfz65_20 := blk_frozen BK141.out 20
                          go_wp2_with (first | ((first | (with_reducible refine gate_dst (N := 10) rfl ?_) | (with_reducible refine gate_dst (N := 13) rfl ?_)); refine wpList_load_mid rfl 25 (.tmp 3) rfl _ _ (by rfl) [_, _, _, _, _, _, _, _, _, _, _, _, _, _, _, _, _, _, _, _, _] _ (cellsAt_range _ (by (repeat (refine ⟨by assumption, ?_⟩)); exact trivial)) Try.underlying25 rfl (by kernel_rfl) ?_))
                          go_ret
                          exact ⟨by first | rfl | (simp [errW_none, errW_some] <;> rfl) | (simp [*, errW_none, errW_some] <;> rfl), by repeat (first | (with_reducible first | exact HB.out | apply below_alloc | apply pw_below_drewN | apply below_drew1 | refine below_set ?_ GE141.out | refine below_set ?_ GE142.out) | exact HB.out)⟩
                      · rw [if_neg c55] at H
                        have c55b0 : decide (0 ≤ a0_10) = false := decide_eq_false c55
                        clear c55
                        obtain rfl := Option.some.inj H
                        have hnb66 := NB141_142.out
                        have hnc66 := NB142_141.out
                        have hcz67_0 : wc.cell? ⟨gb141, 0, none⟩ = some (.int .i64 a0_0) := (blk_cell BK141.out 0).trans rfl
                        have hcz67_1 : wc.cell? ⟨gb141, 1, none⟩ = some (.bool a0_1) := (blk_cell BK141.out 1).trans rfl
                        have hcz67_2 : wc.cell? ⟨gb141, 2, none⟩ = some (.bool a0_2) := (blk_cell BK141.out 2).trans rfl
                        have hcz67_3 : wc.cell? ⟨gb141, 3, none⟩ = some (.bool a0_3) := (blk_cell BK141.out 3).trans rfl
                        have hcz67_4 : wc.cell? ⟨gb141, 4, none⟩ = some (.bool a0_4) := (blk_cell BK141.out 4).trans rfl
                        have hcz67_5 : wc.cell? ⟨gb141, 5, none⟩ = some (.bool a0_5) := (blk_cell BK141.out 5).trans rfl
                        have hcz67_6 : wc.cell? ⟨gb141, 6, none⟩ = some (.bool a0_6) := (blk_cell BK141.out 6).trans rfl
                        have hcz67_7 : wc.cell? ⟨gb141, 7, none⟩ = some (.bool a0_7) := (blk_cell BK141.out 7).trans rfl
                        have hcz67_8 : wc.cell? ⟨gb141, 8, none⟩ = some (.int .i64 a0_8) := (blk_cell BK141.out 8).trans rfl
                        have hcz67_9 : wc.cell? ⟨gb141, 9, none⟩ = some (.int .i64 a0_9) := (blk_cell BK141.out 9).trans rfl
                        have hcz67_10 : wc.cell? ⟨gb141, 10, none⟩ = some (.int .i64 a0_10) := (blk_cell BK141.out 10).trans rfl
                        have hcz67_11 : wc.cell? ⟨gb141, 11, none⟩ = some (.int .i64 a0_11) := (blk_cell BK141.out 11).trans rfl
                        have hcz67_12 : wc.cell? ⟨gb141, 12, none⟩ = some (.int .i64 a0_12) := (blk_cell BK141.out 12).trans rfl
                        have hcz67_13 : wc.cell? ⟨gb141, 13, none⟩ = some (.int .i64 a0_13) := (blk_cell BK141.out 13).trans rfl
                        have hcz67_14 : wc.cell? ⟨gb141, 14, none⟩ = some (.int .i64 a0_14) := (blk_cell BK141.out 14).trans rfl
                        have hcz67_15 : wc.cell? ⟨gb141, 15, none⟩ = some (.int .i64 a0_15) := (blk_cell BK141.out 15).trans rfl
                        have hcz67_16 : wc.cell? ⟨gb141, 16, none⟩ = some (.int .i64 a0_16) := (blk_cell BK141.out 16).trans rfl
                        have hcz67_17 : wc.cell? ⟨gb141, 17, none⟩ = some (.int .i64 a0_17) := (blk_cell BK141.out 17).trans rfl
                        have hcz67_18 : wc.cell? ⟨gb141, 18, none⟩ = some (.int .i64 a0_18) := (blk_cell BK141.out 18).trans rfl
                        have hcz67_19 : wc.cell? ⟨gb141, 19, none⟩ = some (.int .i64 a0_19) := (blk_cell BK141.out 19).trans rfl
                        have hcz67_20 : wc.cell? ⟨gb141, 20, none⟩ = some (.string a0_20) := (blk_cell BK141.out 20).trans rfl
                        have hfz67_0 := blk_frozen BK141.out 0
                        have hfz67_1 := blk_frozen BK141.out 1
                        have hfz67_2 := blk_frozen BK141.out 2
                        have hfz67_3 := blk_frozen BK141.out 3
                        have hfz67_4 := blk_frozen BK141.out 4
                        have hfz67_5 := blk_frozen BK141.out 5
                        have hfz67_6 := blk_frozen BK141.out 6
                        have hfz67_7 := blk_frozen BK141.out 7
                        have hfz67_8 := blk_frozen BK141.out 8
                        have hfz67_9 := blk_frozen BK141.out 9
                        have hfz67_10 := blk_frozen BK141.out 10
                        have hfz67_11 := blk_frozen BK141.out 11
                        have hfz67_12 := blk_frozen BK141.out 12
                        have hfz67_13 := blk_frozen BK141.out 13
                        have hfz67_14 := blk_frozen BK141.out 14
                        have hfz67_15 := blk_frozen BK141.out 15
                        have hfz67_16 := blk_frozen BK141.out 16
                        have hfz67_17 := blk_frozen BK141.out 17
                        have hfz67_18 := blk_frozen BK141.out 18
                        have hfz67_19 := blk_frozen BK141.out 19
                        have hfz67_20 := blk_frozen BK141.out 20
                        go_wp2_with (first | ((first | (with_reducible refine gate_dst (N := 10) rfl ?_) | (with_reducible refine gate_dst (N := 13) rfl ?_)); refine wpList_load_mid rfl 25 (.tmp 3) rfl _ _ (by rfl) [_, _, _, _, _, _, _, _, _, _, _, _, _, _, _, _, _, _, _, _, _] _ (cellsAt_range _ (by (repeat (refine ⟨by assumption, ?_⟩)); exact trivial)) Try.underlying25 rfl (by kernel_rfl) ?_))
                        go_ret
                        exact ⟨by first | rfl | (simp [errW_none, errW_some] <;> rfl) | (simp [*, errW_none, errW_some] <;> rfl), by repeat (first | (with_reducible first | exact HB.out | apply below_alloc | apply pw_below_drewN | apply below_drew1 | refine below_set ?_ GE141.out | refine below_set ?_ GE142.out) | exact HB.out)⟩

end Go.Proofs.Ytebjbkbjmdnblaa.Hp
