/- A text written by our program hprint.py (walks of the program, and the row of a law whose plain law is proved beside it). Lean checks it. -/
import Derived.Test.YtmfpmnfbcgchjaaHp0
import Derived.Test.YtmfpmnfbcgchjaaHLower
import Derived.Test.YtmfpmnfbcgchjaaHMore
namespace Go.Proofs.Ytmfpmnfbcgchjaa.Hp
open Go.RowKit Go.Sort Go.Proofs.YtmfpmnfbcgchjaaW.PrintWords Go.Proofs.YtmfpmnfbcgchjaaW.PrintLast Go.Proofs.YtmfpmnfbcgchjaaW.PrintMore
attribute [local go_sem] max2_int min2_int max_two min_two max_three min_three max_four min_four   -- for this text's walks alone
set_option linter.unusedVariables false
set_option linter.unusedSimpArgs false

/-! ### token_Same: function 6 -/
def token_Same.f (a0 : ByteArray) (a1 : ByteArray) : Option (Bool) := if (a0.size : Int) = (a1.size : Int) then ((token_Lower.f a0).bind fun t101 => ((token_Lower.f a1).bind fun t102 => (some (t101.toList == t102.toList)))) else (some false)
set_option maxHeartbeats 8000000 in
set_option maxRecDepth 100000 in
theorem token_Same.calls (a0 : ByteArray) (a1 : ByteArray) (r : Bool) (w : World) (h : token_Same.f a0 a1 = some r) :
    Calls Try.prog 6 #[.string a0, .string a1] w fun e w' => e = .returned (.bool r) ∧ Below w.heap.size w w' := by
  have HB := Aside0.mk (Below.refl w.heap.size w)
  have H : (if (a0.size : Int) = (a1.size : Int) then ((token_Lower.f a0).bind fun t101 => ((token_Lower.f a1).bind fun t102 => (some (t101.toList == t102.toList)))) else (some false)) = some r := h
  clear h
  by_cases c3 : (a0.size : Int) = (a1.size : Int)
  · rw [if_pos c3] at H
    have c3b0 : ((a0.size : Int) == (a1.size : Int)) = true := beq_iff_eq.mpr c3
    have c3b1 : ((a0.size : Int) != (a1.size : Int)) = false := bne_eq_false_iff_eq.mpr c3
    have c3b2 : (a0.size == a1.size) = true := by first | simpa using c3 | (simp at c3 ⊢; omega)
    clear c3
    replace H := Option.bind_eq_some_iff.mp H
    obtain ⟨t101, A40, H⟩ := H
    replace H : ((token_Lower.f a1).bind fun t102 => (some (t101.toList == t102.toList))) = some r := H
    have A4 := Aside0.mk A40
    clear A40
    replace H := Option.bind_eq_some_iff.mp H
    obtain ⟨t102, A50, H⟩ := H
    replace H : (some (t101.toList == t102.toList)) = some r := H
    have A5 := Aside0.mk A50
    clear A50
    obtain rfl := Option.some.inj H
    go_enter Try.func6, Try.ntmps6
    go_wp2_with (first | (go_at_call 5; (with_reducible refine (token_Lower.calls a0 t101 _ A4.out).mono ?_); rintro e w6 ⟨rfl, hb⟩; have n0_ := Aside0.mk (below_step (by repeat (first | (with_reducible first | exact HB.out | apply below_alloc | apply pw_below_drewN | apply below_drew1) | exact HB.out)) hb); clear HB; have HB := n0_; clear n0_; (try clear hb); (try clear hb2); (try clear hk); (try clear hi)) | (go_at_call 5; (with_reducible refine (token_Lower.calls a1 t102 _ A5.out).mono ?_); rintro e w7 ⟨rfl, hb⟩; have n0_ := Aside0.mk (below_step (by repeat (first | (with_reducible first | exact HB.out | apply below_alloc | apply pw_below_drewN | apply below_drew1) | exact HB.out)) hb); clear HB; have HB := n0_; clear n0_; (try clear hb); (try clear hb2); (try clear hk); (try clear hi)))
    go_ret
    exact ⟨by first | rfl | (simp [errW_none, errW_some] <;> rfl) | (simp [*, errW_none, errW_some] <;> rfl), by repeat (first | (with_reducible first | exact HB.out | apply below_alloc | apply pw_below_drewN | apply below_drew1) | exact HB.out)⟩
  · rw [if_neg c3] at H
    have c3b0 : ((a0.size : Int) == (a1.size : Int)) = false := beq_eq_false_iff_ne.mpr c3
    have c3b1 : ((a0.size : Int) != (a1.size : Int)) = true := bne_iff_ne.mpr c3
    have c3b2 : (a0.size == a1.size) = false := by first | simpa using c3 | (simp at c3 ⊢; omega)
    obtain rfl := Option.some.inj H
    go_enter Try.func6, Try.ntmps6
    go_wp2
    go_ret
    exact ⟨by first | rfl | (simp [errW_none, errW_some] <;> rfl) | (simp [*, errW_none, errW_some] <;> rfl), by repeat (first | (with_reducible first | exact HB.out | apply below_alloc | apply pw_below_drewN | apply below_drew1) | exact HB.out)⟩

/-- The place of 'at' in a text of n bytes, and the text with that byte's last bit turned. -/
def placeS (a1 : Int) (n : Nat) : Nat := ((wrap64 (Int.tmod a1 n + n)).tmod n).toNat
theorem place_ok (a1 : Int) (n : Nat) (h0 : 0 < n) (h1 : n ≤ 140737488351232) : (wrap64 (Int.tmod a1 (n : Int) + (n : Int))).tmod (n : Int) = (placeS a1 n : Int) ∧ placeS a1 n < n := by
  have b1 : -(n : Int) < Int.tmod a1 n := by
    have e := Int.natAbs_tmod a1 (n : Int)
    have l := Nat.mod_lt a1.natAbs (y := (n : Int).natAbs) (by omega)
    omega
  have b2 : Int.tmod a1 n < n := Int.tmod_lt_of_pos a1 (by omega)
  have w : wrap64 (Int.tmod a1 n + n) = Int.tmod a1 n + n := by
    unfold wrap64
    omega
  have b3 : 0 ≤ (Int.tmod a1 n + n).tmod n := Int.tmod_nonneg _ (by omega)
  have b4 : (Int.tmod a1 n + n).tmod n < n := Int.tmod_lt_of_pos _ (by omega)
  unfold placeS
  rw [w]
  omega
def flipL (i : Nat) (l : List UInt8) : List UInt8 := l.set i ((l.getD i 0) ^^^ 1)
def flipS (a1 : Int) (s : ByteArray) : ByteArray := ⟨(flipL (placeS a1 s.size) s.data.toList).toArray⟩
theorem low_le {s t : ByteArray} (h : token_Lower.f s = some t) : s.size ≤ 140737488351232 := by
  unfold token_Lower.f at h
  split at h
  · assumption
  · cases h
theorem xor_one : ∀ n : Fin 256, bits BinOp.xor .u8 ((n.val : Nat) : Int) 1 = (((UInt8.ofNat n.val ^^^ 1).toNat : Nat) : Int) := by decide +kernel
theorem xor_one' (c : UInt8) : bits BinOp.xor .u8 (c.toNat : Int) 1 = ((c ^^^ 1).toNat : Int) := by
  have := xor_one ⟨c.toNat, c.toNat_lt⟩
  simpa using this
theorem flip_nums (i : Nat) (l : List UInt8) (hi : i < l.length) : (mixL l 0).set i ((((l.getD i 0) ^^^ 1).toNat : Nat) : Int) = mixL (flipL i l) 0 := by
  rw [mixL_zero, mixL_zero, flipL, List.map_set]
theorem strOf_nums (l : List UInt8) : strOfNums (mixL l 0) = ⟨l.toArray⟩ := by
  rw [mixL_zero]
  unfold strOfNums
  rw [List.map_map]
  congr 2
  rw [List.map_congr_left (g := id) (fun c _ => by show UInt8.ofNat (((c.toNat : Nat) : Int)).toNat = c; rw [Int.toNat_natCast, UInt8.ofNat_toNat]), List.map_id]

/-! ### gatepostlaw01_TokenLowers: function 3 -/
mutual
def gatepostlaw01_TokenLowers.j0 (a1 : Int) : Nat → ByteArray → Option (Bool)
  | 0, _ => none
  | k + 1, x0 => (token_Lower.f x0).bind fun t103 => ((token_Lower.f t103).bind fun t104 => (if t104.toList = t103.toList then ((token_Same.f x0 t103).bind fun t105 => (if t105 = true then ((token_Same.f t103 x0).bind fun t106 => (if t106 = true then (if (t103.size : Int) = (x0.size : Int) then ((token_Same.f (⟨#[97, 90]⟩ : ByteArray) (⟨#[65, 122]⟩ : ByteArray)).bind fun t107 => (gatepostlaw01_TokenLowers.j1 a1 k x0 (!t107))) else (gatepostlaw01_TokenLowers.j1 a1 k x0 true)) else (gatepostlaw01_TokenLowers.j1 a1 k x0 true))) else (gatepostlaw01_TokenLowers.j1 a1 k x0 true))) else (gatepostlaw01_TokenLowers.j1 a1 k x0 true)))
def gatepostlaw01_TokenLowers.j1 (a1 : Int) : Nat → ByteArray → Bool → Option (Bool)
  | 0, _, _ => none
  | k + 1, x0, x40 => if x40 = true then (some false) else (if (x0.size : Int) = 0 then (some true) else (if x0.size + 1 ≤ 9223372036854775807 then ((token_Same.f x0 (flipS a1 x0)).bind fun t108 => (if t108 = true then (some false) else ((token_Same.f x0 (x0 ++ (⟨#[97]⟩ : ByteArray))).bind fun t109 => (some (!t109))))) else (none)))
end
def gatepostlaw01_TokenLowers.f (k : Nat) (a0 : ByteArray) (a1 : Int) : Option (Bool) := if (a0.size : Int) > 3000 then (if 0 ≤ 3000 then (if 3000 ≤ (a0.size : Int) then (gatepostlaw01_TokenLowers.j0 a1 k (a0.extract 0 3000)) else (none)) else (none)) else (gatepostlaw01_TokenLowers.j0 a1 k a0)
theorem gatepostlaw01_TokenLowers.mono_l (a1 : Int) : ∀ k, (∀ y0, LeO (gatepostlaw01_TokenLowers.j0 a1 k y0) (gatepostlaw01_TokenLowers.j0 a1 (k + 1) y0)) ∧ (∀ y0 y1, LeO (gatepostlaw01_TokenLowers.j1 a1 k y0 y1) (gatepostlaw01_TokenLowers.j1 a1 (k + 1) y0 y1))
  | 0 => ⟨fun _ r h => by simp [gatepostlaw01_TokenLowers.j0] at h, fun _ _ r h => by simp [gatepostlaw01_TokenLowers.j1] at h⟩
  | k + 1 => by
    obtain ⟨ih0, ih1⟩ := gatepostlaw01_TokenLowers.mono_l a1 k
    refine ⟨?_, ?_⟩
    · intro y0
      unfold gatepostlaw01_TokenLowers.j0
      repeat' first
      | (with_reducible exact ih0 _)
      | (with_reducible exact ih1 _ _)
      | (with_reducible exact LeO.refl _)
      | (with_reducible exact LeO.none _)
      | (with_reducible refine LeO.ite ?_ ?_)
      | (with_reducible refine LeO.bind ?_ (fun _ => ?_))
      | exact ih0 _
      | exact ih1 _ _
      | exact LeO.none _
      | refine LeO.ite ?_ ?_
      | refine LeO.bind ?_ (fun _ => ?_)
    · intro y0 y1
      unfold gatepostlaw01_TokenLowers.j1
      repeat' first
      | (with_reducible exact ih0 _)
      | (with_reducible exact ih1 _ _)
      | (with_reducible exact LeO.refl _)
      | (with_reducible exact LeO.none _)
      | (with_reducible refine LeO.ite ?_ ?_)
      | (with_reducible refine LeO.bind ?_ (fun _ => ?_))
      | exact ih0 _
      | exact ih1 _ _
      | exact LeO.none _
      | refine LeO.ite ?_ ?_
      | refine LeO.bind ?_ (fun _ => ?_)
theorem gatepostlaw01_TokenLowers.mono : ∀ a0 a1 k, LeO (gatepostlaw01_TokenLowers.f k a0 a1) (gatepostlaw01_TokenLowers.f (k + 1) a0 a1) := by
  intro a0 a1 k
  obtain ⟨ih0, ih1⟩ := gatepostlaw01_TokenLowers.mono_l a1 k
  unfold gatepostlaw01_TokenLowers.f
  repeat' first
      | (with_reducible exact ih0 _)
      | (with_reducible exact ih1 _ _)
      | (with_reducible exact LeO.refl _)
      | (with_reducible exact LeO.none _)
      | (with_reducible refine LeO.ite ?_ ?_)
      | (with_reducible refine LeO.bind ?_ (fun _ => ?_))
      | exact ih0 _
      | exact ih1 _ _
      | exact LeO.none _
      | refine LeO.ite ?_ ?_
      | refine LeO.bind ?_ (fun _ => ?_)
set_option maxHeartbeats 8000000 in
set_option maxRecDepth 100000 in
theorem gatepostlaw01_TokenLowers.calls (k : Nat) (a0 : ByteArray) (a1 : Int) (r : Bool) (w : World) (h : gatepostlaw01_TokenLowers.f k a0 a1 = some r) :
    Calls Try.prog 3 #[.string a0, .int .i64 a1] w fun e w' => e = .returned (.bool r) ∧ Below w.heap.size w w' := by
  have HB := Aside0.mk (Below.refl w.heap.size w)
  have H : (if (a0.size : Int) > 3000 then (if 0 ≤ 3000 then (if 3000 ≤ (a0.size : Int) then (gatepostlaw01_TokenLowers.j0 a1 k (a0.extract 0 3000)) else (none)) else (none)) else (gatepostlaw01_TokenLowers.j0 a1 k a0)) = some r := h
  clear h
  have HC3 := Aside0.mk H
  clear H
  go_enter Try.func3, Try.ntmps3
  go_upto_if 9 with (fail)
  go_cut [0] (fun v0 wc => ∃ (kq : Nat) (x0_2 : ByteArray), v0 = .string x0_2 ∧ Aside0 (gatepostlaw01_TokenLowers.j0 a1 kq x0_2 = some r) ∧ Aside0 (kq ≤ k) ∧ Aside0 (Below w.heap.size w wc))
  case first =>
    have H := HC3.out
    clear HC3
    by_cases c4 : (a0.size : Int) > 3000
    · rw [if_pos c4] at H
      have c4b0 : decide (3000 < (a0.size : Int)) = true := decide_eq_true c4
      have c4b1 : decide (3000 < a0.size) = true := decide_eq_true (by omega)
      clear c4
      (first | rw [c4b0] | (simp only [i64_w, i32_w]; rw [c4b0]) | skip)
      by_cases c5 : 0 ≤ 3000
      · rw [if_pos c5] at H
        have c5b0 := eq_true c5
        have c5b1 : decide (0 ≤ 3000) = true := decide_eq_true c5
        clear c5
        by_cases c6 : 3000 ≤ (a0.size : Int)
        · rw [if_pos c6] at H
          have c6b0 := eq_true c6
          have c6b1 : decide (3000 ≤ (a0.size : Int)) = true := decide_eq_true c6
          clear c6
          have H' := Aside0.mk H
          clear H
          go_wp2
          go_meet
          case rel => exact ⟨_, (a0.extract 0 3000), (by first | rfl | (simp; done) | exact ret_ne _ | (simp [*]; done)), H', ⟨by first | omega | exact Nat.le_refl _⟩, ⟨by repeat (first | (with_reducible first | exact HB.out | apply below_alloc | apply pw_below_drewN | apply below_drew1) | exact HB.out)⟩⟩
        · rw [if_neg c6] at H
          exact absurd H (by simp)
      · rw [if_neg c5] at H
        exact absurd H (by simp)
    · rw [if_neg c4] at H
      have c4b0 : decide (3000 < (a0.size : Int)) = false := decide_eq_false c4
      have c4b1 : decide (3000 < a0.size) = false := decide_eq_false (by omega)
      clear c4
      (first | rw [c4b0] | (simp only [i64_w, i32_w]; rw [c4b0]) | skip)
      have H' := Aside0.mk H
      clear H
      go_wp2
      go_meet
      case rel => exact ⟨_, (a0), (by first | rfl | (simp; done) | exact ret_ne _ | (simp [*]; done)), H', ⟨by first | omega | exact Nat.le_refl _⟩, ⟨by repeat (first | (with_reducible first | exact HB.out | apply below_alloc | apply pw_below_drewN | apply below_drew1) | exact HB.out)⟩⟩
  case rest =>
    clear HC3
    try clear p2
    try clear c3
    try clear c4
    try clear c4b0
    try clear c4b1
    try clear c5
    try clear c5b0
    try clear c5b1
    try clear c6
    try clear c6b0
    try clear c6b1
    obtain ⟨kq, x0_2, rfl, HA, HJ2, HB⟩ := hcut
    cases kq with
    | zero => exact absurd HA.out (by simp [gatepostlaw01_TokenLowers.j0])
    | succ kj2 =>
      have H := HA.out
      clear HA
      simp only [gatepostlaw01_TokenLowers.j0] at H
      replace H := Option.bind_eq_some_iff.mp H
      obtain ⟨t103, A70, H⟩ := H
      replace H : ((token_Lower.f t103).bind fun t104 => (if t104.toList = t103.toList then ((token_Same.f x0_2 t103).bind fun t105 => (if t105 = true then ((token_Same.f t103 x0_2).bind fun t106 => (if t106 = true then (if (t103.size : Int) = (x0_2.size : Int) then ((token_Same.f (⟨#[97, 90]⟩ : ByteArray) (⟨#[65, 122]⟩ : ByteArray)).bind fun t107 => (gatepostlaw01_TokenLowers.j1 a1 kj2 x0_2 (!t107))) else (gatepostlaw01_TokenLowers.j1 a1 kj2 x0_2 true)) else (gatepostlaw01_TokenLowers.j1 a1 kj2 x0_2 true))) else (gatepostlaw01_TokenLowers.j1 a1 kj2 x0_2 true))) else (gatepostlaw01_TokenLowers.j1 a1 kj2 x0_2 true))) = some r := H
      have A7 := Aside0.mk A70
      clear A70
      have HC8 := Aside0.mk H
      clear H
      go_upto_region 4 with (first | ((with_reducible refine gate_callee (f := 5) rfl ?_); refine goesL_ (some 13) rfl rfl Try.func5 (by kernel_rfl) rfl #[.string x0_2] rfl (by (try simp only [List.map_toArray, List.map_cons, List.map_nil]); first | done | rfl | (simp only [List.length_drop, List.length_take]; rfl)) ?_; (with_reducible refine (token_Lower.calls x0_2 t103 _ A7.out).mono ?_); rintro e w9 ⟨rfl, hb⟩; refine ⟨_, rfl, ?_⟩; have n0_ := Aside0.mk (below_step (by repeat (first | (with_reducible first | exact HB.out | apply below_alloc | apply pw_below_drewN | apply below_drew1) | exact HB.out)) hb); clear HB; have HB := n0_; clear n0_; (try clear hb); (try clear hb2); (try clear hk); (try clear hi)))
      (try simp only [Act.put, List.setIfInBounds_toArray, List.set_cons_zero, List.set_cons_succ])
      go_cut [40] (fun v40 wc => ∃ (kq : Nat) (x40_7 : Bool), v40 = .bool x40_7 ∧ Aside0 (gatepostlaw01_TokenLowers.j1 a1 kq x0_2 x40_7 = some r) ∧ Aside0 (kq ≤ kj2) ∧ Aside0 (Below w.heap.size w wc))
      case first =>
        have H := HC8.out
        clear HC8
        replace H := Option.bind_eq_some_iff.mp H
        obtain ⟨t104, A100, H⟩ := H
        replace H : (if t104.toList = t103.toList then ((token_Same.f x0_2 t103).bind fun t105 => (if t105 = true then ((token_Same.f t103 x0_2).bind fun t106 => (if t106 = true then (if (t103.size : Int) = (x0_2.size : Int) then ((token_Same.f (⟨#[97, 90]⟩ : ByteArray) (⟨#[65, 122]⟩ : ByteArray)).bind fun t107 => (gatepostlaw01_TokenLowers.j1 a1 kj2 x0_2 (!t107))) else (gatepostlaw01_TokenLowers.j1 a1 kj2 x0_2 true)) else (gatepostlaw01_TokenLowers.j1 a1 kj2 x0_2 true))) else (gatepostlaw01_TokenLowers.j1 a1 kj2 x0_2 true))) else (gatepostlaw01_TokenLowers.j1 a1 kj2 x0_2 true)) = some r := H
        have A10 := Aside0.mk A100
        clear A100
        by_cases c11 : t104.toList = t103.toList
        · rw [if_pos c11] at H
          have c11b0 : (t104.toList == t103.toList) = true := beq_iff_eq.mpr c11
          have c11b1 : (t104.toList != t103.toList) = false := bne_eq_false_iff_eq.mpr c11
          clear c11
          (first | rw [c11b0] | (simp only [i64_w, i32_w]; rw [c11b0]) | skip)
          replace H := Option.bind_eq_some_iff.mp H
          obtain ⟨t105, A120, H⟩ := H
          replace H : (if t105 = true then ((token_Same.f t103 x0_2).bind fun t106 => (if t106 = true then (if (t103.size : Int) = (x0_2.size : Int) then ((token_Same.f (⟨#[97, 90]⟩ : ByteArray) (⟨#[65, 122]⟩ : ByteArray)).bind fun t107 => (gatepostlaw01_TokenLowers.j1 a1 kj2 x0_2 (!t107))) else (gatepostlaw01_TokenLowers.j1 a1 kj2 x0_2 true)) else (gatepostlaw01_TokenLowers.j1 a1 kj2 x0_2 true))) else (gatepostlaw01_TokenLowers.j1 a1 kj2 x0_2 true)) = some r := H
          have A12 := Aside0.mk A120
          clear A120
          by_cases c13 : t105 = true
          · subst c13
            have H1 : ((token_Same.f t103 x0_2).bind fun t106 => (if t106 = true then (if (t103.size : Int) = (x0_2.size : Int) then ((token_Same.f (⟨#[97, 90]⟩ : ByteArray) (⟨#[65, 122]⟩ : ByteArray)).bind fun t107 => (gatepostlaw01_TokenLowers.j1 a1 kj2 x0_2 (!t107))) else (gatepostlaw01_TokenLowers.j1 a1 kj2 x0_2 true)) else (gatepostlaw01_TokenLowers.j1 a1 kj2 x0_2 true))) = some r := by rw [if_pos rfl] at H; exact H
            clear H
            have H := H1
            clear H1
            replace H := Option.bind_eq_some_iff.mp H
            obtain ⟨t106, A140, H⟩ := H
            replace H : (if t106 = true then (if (t103.size : Int) = (x0_2.size : Int) then ((token_Same.f (⟨#[97, 90]⟩ : ByteArray) (⟨#[65, 122]⟩ : ByteArray)).bind fun t107 => (gatepostlaw01_TokenLowers.j1 a1 kj2 x0_2 (!t107))) else (gatepostlaw01_TokenLowers.j1 a1 kj2 x0_2 true)) else (gatepostlaw01_TokenLowers.j1 a1 kj2 x0_2 true)) = some r := H
            have A14 := Aside0.mk A140
            clear A140
            by_cases c15 : t106 = true
            · subst c15
              have H1 : (if (t103.size : Int) = (x0_2.size : Int) then ((token_Same.f (⟨#[97, 90]⟩ : ByteArray) (⟨#[65, 122]⟩ : ByteArray)).bind fun t107 => (gatepostlaw01_TokenLowers.j1 a1 kj2 x0_2 (!t107))) else (gatepostlaw01_TokenLowers.j1 a1 kj2 x0_2 true)) = some r := by rw [if_pos rfl] at H; exact H
              clear H
              have H := H1
              clear H1
              by_cases c16 : (t103.size : Int) = (x0_2.size : Int)
              · rw [if_pos c16] at H
                have c16b0 : ((t103.size : Int) == (x0_2.size : Int)) = true := beq_iff_eq.mpr c16
                have c16b1 : ((t103.size : Int) != (x0_2.size : Int)) = false := bne_eq_false_iff_eq.mpr c16
                have c16b2 : (t103.size == x0_2.size) = true := by first | simpa using c16 | (simp at c16 ⊢; omega)
                clear c16
                replace H := Option.bind_eq_some_iff.mp H
                obtain ⟨t107, A170, H⟩ := H
                replace H : (gatepostlaw01_TokenLowers.j1 a1 kj2 x0_2 (!t107)) = some r := H
                have A17 := Aside0.mk A170
                clear A170
                have H' := Aside0.mk H
                clear H
                go_wp2_with (first | ((with_reducible refine gate_callee (f := 5) rfl ?_); refine goesL_ (some 15) rfl rfl Try.func5 (by kernel_rfl) rfl #[.string t103] rfl (by (try simp only [List.map_toArray, List.map_cons, List.map_nil]); first | done | rfl | (simp only [List.length_drop, List.length_take]; rfl)) ?_; (with_reducible refine (token_Lower.calls t103 t104 _ A10.out).mono ?_); rintro e w18 ⟨rfl, hb⟩; refine ⟨_, rfl, ?_⟩; have n0_ := Aside0.mk (below_step (by repeat (first | (with_reducible first | exact HB.out | apply below_alloc | apply pw_below_drewN | apply below_drew1) | exact HB.out)) hb); clear HB; have HB := n0_; clear n0_; (try clear hb); (try clear hb2); (try clear hk); (try clear hi)) | (go_at_call 6; (with_reducible refine (token_Same.calls x0_2 t103 true _ A12.out).mono ?_); rintro e w19 ⟨rfl, hb⟩; have n0_ := Aside0.mk (below_step (by repeat (first | (with_reducible first | exact HB.out | apply below_alloc | apply pw_below_drewN | apply below_drew1) | exact HB.out)) hb); clear HB; have HB := n0_; clear n0_; (try clear hb); (try clear hb2); (try clear hk); (try clear hi)) | (go_at_call 6; (with_reducible refine (token_Same.calls t103 x0_2 true _ A14.out).mono ?_); rintro e w20 ⟨rfl, hb⟩; have n0_ := Aside0.mk (below_step (by repeat (first | (with_reducible first | exact HB.out | apply below_alloc | apply pw_below_drewN | apply below_drew1) | exact HB.out)) hb); clear HB; have HB := n0_; clear n0_; (try clear hb); (try clear hb2); (try clear hk); (try clear hi)) | (go_at_call 6; (with_reducible refine (token_Same.calls (⟨#[97, 90]⟩ : ByteArray) (⟨#[65, 122]⟩ : ByteArray) t107 _ A17.out).mono ?_); rintro e w21 ⟨rfl, hb⟩; have n0_ := Aside0.mk (below_step (by repeat (first | (with_reducible first | exact HB.out | apply below_alloc | apply pw_below_drewN | apply below_drew1) | exact HB.out)) hb); clear HB; have HB := n0_; clear n0_; (try clear hb); (try clear hb2); (try clear hk); (try clear hi)))
                go_meet
                case rel => exact ⟨_, (!t107), (by first | rfl | (simp; done) | exact ret_ne _ | (simp [*]; done)), H', ⟨by have := HJ2.out; first | omega | exact Nat.le_refl _⟩, ⟨by repeat (first | (with_reducible first | exact HB.out | apply below_alloc | apply pw_below_drewN | apply below_drew1) | exact HB.out)⟩⟩
              · rw [if_neg c16] at H
                have c16b0 : ((t103.size : Int) == (x0_2.size : Int)) = false := beq_eq_false_iff_ne.mpr c16
                have c16b1 : ((t103.size : Int) != (x0_2.size : Int)) = true := bne_iff_ne.mpr c16
                have c16b2 : (t103.size == x0_2.size) = false := by first | simpa using c16 | (simp at c16 ⊢; omega)
                have H' := Aside0.mk H
                clear H
                go_wp2_with (first | ((with_reducible refine gate_callee (f := 5) rfl ?_); refine goesL_ (some 15) rfl rfl Try.func5 (by kernel_rfl) rfl #[.string t103] rfl (by (try simp only [List.map_toArray, List.map_cons, List.map_nil]); first | done | rfl | (simp only [List.length_drop, List.length_take]; rfl)) ?_; (with_reducible refine (token_Lower.calls t103 t104 _ A10.out).mono ?_); rintro e w22 ⟨rfl, hb⟩; refine ⟨_, rfl, ?_⟩; have n0_ := Aside0.mk (below_step (by repeat (first | (with_reducible first | exact HB.out | apply below_alloc | apply pw_below_drewN | apply below_drew1) | exact HB.out)) hb); clear HB; have HB := n0_; clear n0_; (try clear hb); (try clear hb2); (try clear hk); (try clear hi)) | (go_at_call 6; (with_reducible refine (token_Same.calls x0_2 t103 true _ A12.out).mono ?_); rintro e w23 ⟨rfl, hb⟩; have n0_ := Aside0.mk (below_step (by repeat (first | (with_reducible first | exact HB.out | apply below_alloc | apply pw_below_drewN | apply below_drew1) | exact HB.out)) hb); clear HB; have HB := n0_; clear n0_; (try clear hb); (try clear hb2); (try clear hk); (try clear hi)) | (go_at_call 6; (with_reducible refine (token_Same.calls t103 x0_2 true _ A14.out).mono ?_); rintro e w24 ⟨rfl, hb⟩; have n0_ := Aside0.mk (below_step (by repeat (first | (with_reducible first | exact HB.out | apply below_alloc | apply pw_below_drewN | apply below_drew1) | exact HB.out)) hb); clear HB; have HB := n0_; clear n0_; (try clear hb); (try clear hb2); (try clear hk); (try clear hi)))
                go_meet
                case rel => exact ⟨_, (true), (by first | rfl | (simp; done) | exact ret_ne _ | (simp [*]; done)), H', ⟨by have := HJ2.out; first | omega | exact Nat.le_refl _⟩, ⟨by repeat (first | (with_reducible first | exact HB.out | apply below_alloc | apply pw_below_drewN | apply below_drew1) | exact HB.out)⟩⟩
            · replace c15 := Bool.eq_false_iff.mpr c15
              subst c15
              have H1 : (gatepostlaw01_TokenLowers.j1 a1 kj2 x0_2 true) = some r := by rw [if_neg (show ¬ (false = true) by decide)] at H; exact H
              clear H
              have H := H1
              clear H1
              have H' := Aside0.mk H
              clear H
              go_wp2_with (first | ((with_reducible refine gate_callee (f := 5) rfl ?_); refine goesL_ (some 15) rfl rfl Try.func5 (by kernel_rfl) rfl #[.string t103] rfl (by (try simp only [List.map_toArray, List.map_cons, List.map_nil]); first | done | rfl | (simp only [List.length_drop, List.length_take]; rfl)) ?_; (with_reducible refine (token_Lower.calls t103 t104 _ A10.out).mono ?_); rintro e w25 ⟨rfl, hb⟩; refine ⟨_, rfl, ?_⟩; have n0_ := Aside0.mk (below_step (by repeat (first | (with_reducible first | exact HB.out | apply below_alloc | apply pw_below_drewN | apply below_drew1) | exact HB.out)) hb); clear HB; have HB := n0_; clear n0_; (try clear hb); (try clear hb2); (try clear hk); (try clear hi)) | (go_at_call 6; (with_reducible refine (token_Same.calls x0_2 t103 true _ A12.out).mono ?_); rintro e w26 ⟨rfl, hb⟩; have n0_ := Aside0.mk (below_step (by repeat (first | (with_reducible first | exact HB.out | apply below_alloc | apply pw_below_drewN | apply below_drew1) | exact HB.out)) hb); clear HB; have HB := n0_; clear n0_; (try clear hb); (try clear hb2); (try clear hk); (try clear hi)) | (go_at_call 6; (with_reducible refine (token_Same.calls t103 x0_2 false _ A14.out).mono ?_); rintro e w27 ⟨rfl, hb⟩; have n0_ := Aside0.mk (below_step (by repeat (first | (with_reducible first | exact HB.out | apply below_alloc | apply pw_below_drewN | apply below_drew1) | exact HB.out)) hb); clear HB; have HB := n0_; clear n0_; (try clear hb); (try clear hb2); (try clear hk); (try clear hi)))
              go_meet
              case rel => exact ⟨_, (true), (by first | rfl | (simp; done) | exact ret_ne _ | (simp [*]; done)), H', ⟨by have := HJ2.out; first | omega | exact Nat.le_refl _⟩, ⟨by repeat (first | (with_reducible first | exact HB.out | apply below_alloc | apply pw_below_drewN | apply below_drew1) | exact HB.out)⟩⟩
          · replace c13 := Bool.eq_false_iff.mpr c13
            subst c13
            have H1 : (gatepostlaw01_TokenLowers.j1 a1 kj2 x0_2 true) = some r := by rw [if_neg (show ¬ (false = true) by decide)] at H; exact H
            clear H
            have H := H1
            clear H1
            have H' := Aside0.mk H
            clear H
            go_wp2_with (first | ((with_reducible refine gate_callee (f := 5) rfl ?_); refine goesL_ (some 15) rfl rfl Try.func5 (by kernel_rfl) rfl #[.string t103] rfl (by (try simp only [List.map_toArray, List.map_cons, List.map_nil]); first | done | rfl | (simp only [List.length_drop, List.length_take]; rfl)) ?_; (with_reducible refine (token_Lower.calls t103 t104 _ A10.out).mono ?_); rintro e w28 ⟨rfl, hb⟩; refine ⟨_, rfl, ?_⟩; have n0_ := Aside0.mk (below_step (by repeat (first | (with_reducible first | exact HB.out | apply below_alloc | apply pw_below_drewN | apply below_drew1) | exact HB.out)) hb); clear HB; have HB := n0_; clear n0_; (try clear hb); (try clear hb2); (try clear hk); (try clear hi)) | (go_at_call 6; (with_reducible refine (token_Same.calls x0_2 t103 false _ A12.out).mono ?_); rintro e w29 ⟨rfl, hb⟩; have n0_ := Aside0.mk (below_step (by repeat (first | (with_reducible first | exact HB.out | apply below_alloc | apply pw_below_drewN | apply below_drew1) | exact HB.out)) hb); clear HB; have HB := n0_; clear n0_; (try clear hb); (try clear hb2); (try clear hk); (try clear hi)))
            go_meet
            case rel => exact ⟨_, (true), (by first | rfl | (simp; done) | exact ret_ne _ | (simp [*]; done)), H', ⟨by have := HJ2.out; first | omega | exact Nat.le_refl _⟩, ⟨by repeat (first | (with_reducible first | exact HB.out | apply below_alloc | apply pw_below_drewN | apply below_drew1) | exact HB.out)⟩⟩
        · rw [if_neg c11] at H
          have c11b0 : (t104.toList == t103.toList) = false := beq_eq_false_iff_ne.mpr c11
          have c11b1 : (t104.toList != t103.toList) = true := bne_iff_ne.mpr c11
          (first | rw [c11b0] | (simp only [i64_w, i32_w]; rw [c11b0]) | skip)
          have H' := Aside0.mk H
          clear H
          go_wp2_with (first | ((with_reducible refine gate_callee (f := 5) rfl ?_); refine goesL_ (some 15) rfl rfl Try.func5 (by kernel_rfl) rfl #[.string t103] rfl (by (try simp only [List.map_toArray, List.map_cons, List.map_nil]); first | done | rfl | (simp only [List.length_drop, List.length_take]; rfl)) ?_; (with_reducible refine (token_Lower.calls t103 t104 _ A10.out).mono ?_); rintro e w30 ⟨rfl, hb⟩; refine ⟨_, rfl, ?_⟩; have n0_ := Aside0.mk (below_step (by repeat (first | (with_reducible first | exact HB.out | apply below_alloc | apply pw_below_drewN | apply below_drew1) | exact HB.out)) hb); clear HB; have HB := n0_; clear n0_; (try clear hb); (try clear hb2); (try clear hk); (try clear hi)))
          go_meet
          case rel => exact ⟨_, (true), (by first | rfl | (simp; done) | exact ret_ne _ | (simp [*]; done)), H', ⟨by have := HJ2.out; first | omega | exact Nat.le_refl _⟩, ⟨by repeat (first | (with_reducible first | exact HB.out | apply below_alloc | apply pw_below_drewN | apply below_drew1) | exact HB.out)⟩⟩
      case rest =>
        clear HC8
        try clear c1
        try clear p2
        try clear c3
        try clear c4
        try clear c4b0
        try clear c4b1
        try clear c5
        try clear c5b0
        try clear c5b1
        try clear c6
        try clear c6b0
        try clear c6b1
        try clear c11
        try clear c11b0
        try clear c11b1
        try clear c13
        try clear c15
        try clear c16
        try clear c16b0
        try clear c16b1
        try clear c16b2
        try clear p2
        obtain ⟨kq, x40_7, rfl, HA, HJ7, HB⟩ := hcut
        cases kq with
        | zero => exact absurd HA.out (by simp [gatepostlaw01_TokenLowers.j1])
        | succ kj7 =>
          have H := HA.out
          clear HA
          simp only [gatepostlaw01_TokenLowers.j1] at H
          by_cases c31 : x40_7 = true
          · subst c31
            have H1 : (some false) = some r := by rw [if_pos rfl] at H; exact H
            clear H
            have H := H1
            clear H1
            obtain rfl := Option.some.inj H
            go_wp2
            go_ret
            exact ⟨by first | rfl | (simp [errW_none, errW_some] <;> rfl) | (simp [*, errW_none, errW_some] <;> rfl), by repeat (first | (with_reducible first | exact HB.out | apply below_alloc | apply pw_below_drewN | apply below_drew1) | exact HB.out)⟩
          · replace c31 := Bool.eq_false_iff.mpr c31
            subst c31
            have H1 : (if (x0_2.size : Int) = 0 then (some true) else (if x0_2.size + 1 ≤ 9223372036854775807 then ((token_Same.f x0_2 (flipS a1 x0_2)).bind fun t108 => (if t108 = true then (some false) else ((token_Same.f x0_2 (x0_2 ++ (⟨#[97]⟩ : ByteArray))).bind fun t109 => (some (!t109))))) else (none))) = some r := by rw [if_neg (show ¬ (false = true) by decide)] at H; exact H
            clear H
            have H := H1
            clear H1
            by_cases c32 : (x0_2.size : Int) = 0
            · rw [if_pos c32] at H
              have c32b0 : ((x0_2.size : Int) == 0) = true := beq_iff_eq.mpr c32
              have c32b1 : ((x0_2.size : Int) != 0) = false := bne_eq_false_iff_eq.mpr c32
              clear c32
              obtain rfl := Option.some.inj H
              go_wp2
              go_ret
              exact ⟨by first | rfl | (simp [errW_none, errW_some] <;> rfl) | (simp [*, errW_none, errW_some] <;> rfl), by repeat (first | (with_reducible first | exact HB.out | apply below_alloc | apply pw_below_drewN | apply below_drew1) | exact HB.out)⟩
            · rw [if_neg c32] at H
              have c32b0 : ((x0_2.size : Int) == 0) = false := beq_eq_false_iff_ne.mpr c32
              have c32b1 : ((x0_2.size : Int) != 0) = true := bne_iff_ne.mpr c32
              by_cases c33 : x0_2.size + 1 ≤ 9223372036854775807
              · rw [if_pos c33] at H
                have c33b0 := eq_true c33
                have c33b1 : decide (x0_2.size + 1 ≤ 9223372036854775807) = true := decide_eq_true c33
                try have c33b2 : (9223372036854775807 < x0_2.size + 1) = False := eq_false (Nat.not_lt.2 c33)
                replace H := Option.bind_eq_some_iff.mp H
                obtain ⟨t108, A340, H⟩ := H
                replace H : (if t108 = true then (some false) else ((token_Same.f x0_2 (x0_2 ++ (⟨#[97]⟩ : ByteArray))).bind fun t109 => (some (!t109)))) = some r := H
                have A34 := Aside0.mk A340
                clear A340
                have hs : x0_2.size ≤ 140737488351232 := low_le A7.out
                obtain ⟨hP0, hP1⟩ := place_ok a1 x0_2.size (by omega) hs
                have hcv := fun ww => Lib.run_convert_string_bytes (P := Try.prog) ww 9 24 5 x0_2 Try.underlying9 Try.underlying24 Try.underlying5
                have HH := Lib.hid (holds_conv wc x0_2 5)
                have HN := Lib.hid (below_conv wc x0_2 5)
                go_upto_region 10 with fail
                clear hcv
                have HF : flipS a1 x0_2 = ⟨(flipL (placeS a1 x0_2.size) x0_2.data.toList).toArray⟩ := rfl
                have HFL := Lib.hid HF
                clear HF hP0
                generalize placeS a1 x0_2.size = i at *
                generalize hC : grownCap wc x0_2.size 0 5 = C at *
                generalize hW : Lib.bytesWorld wc 5 x0_2 = W1 at *
                have HBQ := Lib.hid (Eq.refl wc.heap.size)
                generalize hB : wc.heap.size = B at HH HN ⊢
                have hl : i < x0_2.data.toList.length := by simpa using hP1
                have hsz : i < (mixL x0_2.data.toList 0).toArray.size := by simpa [mixL_length] using hP1
                have hh := HH.out i hsz
                rw [Nat.zero_add] at hh
                have hat : (mixL x0_2.data.toList 0).toArray[i]! = (((x0_2.data.toList.getD i 0).toNat : Nat) : Int) := by
                  have h2 := mixL_at x0_2.data.toList 0 (by omega)
                  rw [getElem!_pos (mixL x0_2.data.toList 0).toArray i hsz]
                  simp only [mixL_zero, List.getElem_toArray, List.getElem_map]
                  rw [List.getD_eq_getElem?_getD, List.getElem?_eq_getElem hl]
                  rfl
                rw [hat] at hh
                obtain ⟨hcell, hfr⟩ := hh
                obtain ⟨c, hc⟩ : ∃ c, x0_2.data.toList.getD i 0 = c := ⟨_, rfl⟩
                rw [hc] at hcell hat
                have hcn := c.toNat_lt
                have HC0 := Lib.hid hc
                clear hc hat
                go_upto_region 11 with fail
                rw [xor_one' c]
                have hw2 : W1.setCell ⟨B, i, none⟩ (.int .u8 ((c ^^^ 1).toNat : Int)) = putRow (Value.int .u8) W1 B 0 (mixL (flipL i x0_2.data.toList) 0).toArray := by
                  have p0 : putRow (Value.int .u8) W1 B 0 (mixL x0_2.data.toList 0).toArray = W1 := putRow_self _ _ _ _ _ HH.out
                  have e := putRow_set' W1 B (mixL x0_2.data.toList 0).toArray i ((c ^^^ 1).toNat : Int) hsz
                  rw [p0] at e
                  rw [e, List.setIfInBounds_toArray, ← HC0.out, flip_nums i _ hl]
                rw [hw2]
                have hlen : (flipL i x0_2.data.toList).length = x0_2.size := by simp [flipL]
                have hb2 := putRow_below W1 B wc (mixL (flipL i x0_2.data.toList) 0).toArray HN.out hB.symm
                have hst : (convert 24 9 (.slice (some ⟨B, 0, none⟩) x0_2.size C)).run Try.prog (putRow (Value.int .u8) W1 B 0 (mixL (flipL i x0_2.data.toList) 0).toArray) = .ok (.string (flipS a1 x0_2)) (putRow (Value.int .u8) W1 B 0 (mixL (flipL i x0_2.data.toList) 0).toArray) := by
                  rw [HFL.out, ← strOf_nums]
                  refine string_of_reads Try.underlying24 Try.underlying5 Try.underlying9 ⟨by rw [mixL_length]; exact hlen, by omega, fun _ => ⟨_, rfl, fun j hj => ?_⟩⟩
                  have hsz2 : j < (mixL (flipL i x0_2.data.toList) 0).toArray.size := by rw [List.size_toArray, mixL_length, hlen]; exact hj
                  have h2 := (holds_putRow (Value.int .u8) W1 B 0 (mixL x0_2.data.toList 0).toArray (mixL (flipL i x0_2.data.toList) 0).toArray HH.out (by rw [List.size_toArray, List.size_toArray, mixL_length, mixL_length, hlen]; simp) j hsz2).1
                  have hadd : (Addr.mk B 0 none).add j = ⟨B, 0 + j, none⟩ := by
                    unfold Addr.add
                    split <;> simp_all
                  rw [hadd, h2, getElem!_pos (mixL (flipL i x0_2.data.toList) 0).toArray j hsz2, List.getD_eq_getElem?_getD, List.getElem?_eq_getElem (by simpa using hsz2)]
                  simp
                clear hw2 hcell hfr hcn HC0 hsz hl hW
                generalize putRow (Value.int .u8) W1 B 0 (mixL (flipL i x0_2.data.toList) 0).toArray = W2 at *
                have n0_ := Aside0.mk (below_step HB.out hb2)
                clear HB hb2 HH HN
                have HB := n0_
                clear n0_
                by_cases c35 : t108 = true
                · subst c35
                  have H1 : (some false) = some r := by rw [if_pos rfl] at H; exact H
                  clear H
                  have H := H1
                  clear H1
                  obtain rfl := Option.some.inj H
                  go_wp2_with (first | ((with_reducible refine gate_callee (f := 6) rfl ?_); refine goesL_ (some 67) rfl rfl Try.func6 (by kernel_rfl) rfl #[.string x0_2, .string (flipS a1 x0_2)] rfl (by (try simp only [List.map_toArray, List.map_cons, List.map_nil]); first | done | rfl | (simp only [List.length_drop, List.length_take]; rfl)) ?_; (with_reducible refine (token_Same.calls x0_2 (flipS a1 x0_2) true _ A34.out).mono ?_); rintro e w36 ⟨rfl, hb⟩; refine ⟨_, rfl, ?_⟩; have n0_ := Aside0.mk (below_step (by repeat (first | (with_reducible first | exact HB.out | apply below_alloc | apply pw_below_drewN | apply below_drew1) | exact HB.out)) hb); clear HB; have HB := n0_; clear n0_; (try clear hb); (try clear hb2); (try clear hk); (try clear hi)))
                  go_ret
                  exact ⟨by first | rfl | (simp [errW_none, errW_some] <;> rfl) | (simp [*, errW_none, errW_some] <;> rfl), by repeat (first | (with_reducible first | exact HB.out | apply below_alloc | apply pw_below_drewN | apply below_drew1) | exact HB.out)⟩
                · replace c35 := Bool.eq_false_iff.mpr c35
                  subst c35
                  have H1 : ((token_Same.f x0_2 (x0_2 ++ (⟨#[97]⟩ : ByteArray))).bind fun t109 => (some (!t109))) = some r := by rw [if_neg (show ¬ (false = true) by decide)] at H; exact H
                  clear H
                  have H := H1
                  clear H1
                  replace H := Option.bind_eq_some_iff.mp H
                  obtain ⟨t109, A370, H⟩ := H
                  replace H : (some (!t109)) = some r := H
                  have A37 := Aside0.mk A370
                  clear A370
                  obtain rfl := Option.some.inj H
                  go_wp2_with (first | ((with_reducible refine gate_callee (f := 6) rfl ?_); refine goesL_ (some 67) rfl rfl Try.func6 (by kernel_rfl) rfl #[.string x0_2, .string (flipS a1 x0_2)] rfl (by (try simp only [List.map_toArray, List.map_cons, List.map_nil]); first | done | rfl | (simp only [List.length_drop, List.length_take]; rfl)) ?_; (with_reducible refine (token_Same.calls x0_2 (flipS a1 x0_2) false _ A34.out).mono ?_); rintro e w38 ⟨rfl, hb⟩; refine ⟨_, rfl, ?_⟩; have n0_ := Aside0.mk (below_step (by repeat (first | (with_reducible first | exact HB.out | apply below_alloc | apply pw_below_drewN | apply below_drew1) | exact HB.out)) hb); clear HB; have HB := n0_; clear n0_; (try clear hb); (try clear hb2); (try clear hk); (try clear hi)) | (go_at_call 6; (with_reducible refine (token_Same.calls x0_2 (x0_2 ++ (⟨#[97]⟩ : ByteArray)) t109 _ A37.out).mono ?_); rintro e w39 ⟨rfl, hb⟩; have n0_ := Aside0.mk (below_step (by repeat (first | (with_reducible first | exact HB.out | apply below_alloc | apply pw_below_drewN | apply below_drew1) | exact HB.out)) hb); clear HB; have HB := n0_; clear n0_; (try clear hb); (try clear hb2); (try clear hk); (try clear hi)))
                  go_ret
                  exact ⟨by first | rfl | (simp [errW_none, errW_some] <;> rfl) | (simp [*, errW_none, errW_some] <;> rfl), by repeat (first | (with_reducible first | exact HB.out | apply below_alloc | apply pw_below_drewN | apply below_drew1) | exact HB.out)⟩
              · rw [if_neg c33] at H
                exact absurd H (by simp)

/-- THE ONE PURE STATEMENT of gatepostlaw01_TokenLowers: yours. -/
def gatepostlaw01_TokenLowers.Pure : Prop := ∀ (a0 : ByteArray) (a1 : Int), a0.size ≤ 140737488351232 → (Lit.int .i64 a1).wf = true → ∃ k, gatepostlaw01_TokenLowers.f k a0 a1 = some true
theorem gatepostlaw01_TokenLowers.walk (P : gatepostlaw01_TokenLowers.Pure) (a0 : ByteArray) (a1 : Int) (w : World) (w0 : a0.size ≤ 140737488351232) (w1 : (Lit.int .i64 a1).wf = true) :
    Calls Try.prog 3 #[.string a0, .int .i64 a1] w fun e w' => e = .returned (.bool true) ∧ Below w.heap.size w w' := by
  obtain ⟨k, h⟩ := P a0 a1 w0 w1
  refine (gatepostlaw01_TokenLowers.calls k a0 a1 true w h).mono ?_
  rintro e w' ⟨rfl, hd⟩
  exact ⟨rfl, hd⟩

end Go.Proofs.Ytmfpmnfbcgchjaa.Hp
