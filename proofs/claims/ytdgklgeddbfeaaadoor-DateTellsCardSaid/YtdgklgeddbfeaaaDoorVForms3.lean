/- The two older forms of a date; plain. -/
import Derived.Test.YtdgklgeddbfeaaaDoorVBack2
set_option linter.unusedVariables false
set_option linter.unusedSimpArgs false
namespace Go.Proofs.YtdgklgeddbfeaaaDoor.Vh
open Go.Vm Go.Vt
theorem take_false {n : Nat} {r : Rd} (h : r.2 = false) : (takeR n r).2.2 = false := by unfold takeR; split; rfl; exact h
theorem need_false {p : Bs} {r : Rd} (h : r.2 = false) : (needR p r).2 = false := by unfold needR; split; exact take_false h; rfl
theorem num_false {n : Nat} {r : Rd} (h : r.2 = false) : (numR n r).2.2 = false := by unfold numR; simp only [take_false h, Bool.false_and]
theorem mon_false {r : Rd} (h : r.2 = false) : (monR r).2.2 = false := by unfold monR; split; exact take_false h; rfl
theorem clk_false {r : Rd} (h : r.2 = false) : (clkR r).2.2 = false := by
  unfold clkR
  simp only
  have h1 : (numR 2 (needR [58] (numR 2 (needR [58] (numR 2 r).2)).2)).2.2 = false := num_false (need_false (num_false (need_false (num_false h))))
  split
  · rfl
  · exact h1
theorem sec_false {r : Rd} {w y m d c : Int} (h : r.2 = false) : secR r w y m d c = .tup [.int .i64 0, .bool false] := by
  unfold secR; rw [if_neg]; rintro ⟨h1, _⟩; rw [h] at h1; cases h1
theorem fixed_false {r : Rd} (h : (needR [44, 32] (dayR false r).2).2 = false) : fixedR r = .tup [.int .i64 0, .bool false] := by
  unfold fixedR
  exact sec_false (need_false (clk_false (need_false (num_false (need_false (mon_false (need_false (num_false h))))))))
theorem old_false {r : Rd} (h : (dayR true r).2.2 = false) : oldR r = .tup [.int .i64 0, .bool false] := by
  unfold oldR
  exact sec_false (need_false (clk_false (need_false (num_false (need_false (mon_false (need_false (num_false (need_false h)))))))))
theorem need_ne {c : UInt8} {p s : Bs} {ok : Bool} (h : s.getD 0 0 ≠ c) : (needR (c :: p) (s, ok)).2 = false := by
  unfold needR
  split
  · rename_i h1
    exfalso
    unfold takeR at h1
    split at h1
    · cases h1
    · rename_i h2
      match s with
      | [] => simp at h2
      | a :: t => simp only [List.length_cons, List.take_succ_cons, List.cons.injEq] at h1; exact h h1.1
  · rfl
theorem take3_app {a b : Bs} (h : 3 ≤ a.length) : (a ++ b).take 3 = a.take 3 := List.take_append_of_le_length h
theorem nmD_long (j : Nat) : nmD true j = dayLs.getD j [] := rfl
theorem long_pos : ∀ j, j < 7 → 3 < (dayLs.getD j []).length ∧ (dayLs.getD j []).getD 3 0 ≠ 32 ∧ ((dayLs.getD j []).drop 3).getD 0 0 ≠ 44 := by decide +kernel
theorem day_long {w : Nat} {b : Bs} {ok : Bool} (h : w < 7) (hb : 0 < b.length) : dayR true (dayLs.getD w [] ++ b, ok) = ((w : Int), (b, ok)) := by
  have hl := fun j hj => (long_pos j hj).1
  have hf : firstN (hitD true (dayLs.getD w [] ++ b)) 7 = w := by
    refine firstN_at ?_ (fun j hj => ?_) h
    · unfold hitD
      rw [nmD_long, List.take_left' rfl]
      have : decide ((dayLs.getD w [] ++ b).length > (dayLs.getD w []).length) = true := by
        rw [decide_eq_true_eq, List.length_append]; omega
      rw [this]; simp
    · unfold hitD
      rw [nmD_long, Bool.and_eq_false_iff]
      right
      rw [beq_eq_false_iff_ne]
      intro e
      have e3 : ((dayLs.getD w []).take 3 == nmD false j) = true := by
        rw [beq_iff_eq, day_same j (by omega), ← e, List.take_take, Nat.min_eq_left (by have := hl j (by omega); omega), take3_app (by have := hl w h; omega)]
      rw [day_ne w h j hj] at e3; cases e3
  unfold dayR
  simp only [hf, if_pos h, nmD_long, List.drop_left' rfl]
theorem day_none {s : Bs} {ok : Bool} (h : s.getD 3 0 = 32) : (dayR true (s, ok)).2.2 = false := by
  unfold dayR
  rw [firstN_none, if_neg (by omega)]
  intro j hj
  unfold hitD
  rw [nmD_long, Bool.and_eq_false_iff]
  right
  rw [beq_eq_false_iff_ne]
  intro e
  obtain ⟨h1, h2, _⟩ := long_pos j hj
  apply h2
  generalize dayLs.getD j [] = N at *
  rw [← h, ← e]
  simp only [List.getD_eq_getElem?_getD, List.getElem?_take, if_pos h1]
def oldF (w y m d a i c : Nat) : Bs := dayLs.getD w [] ++ ([44, 32] ++ (two d ++ ([45] ++ (monLs.getD m [] ++ ([45] ++ (two (y % 100) ++ ([32] ++ (two a ++ ([58] ++ (two i ++ ([58] ++ (two c ++ [32, 71, 77, 84]))))))))))))
def dayB (d : Nat) : Bs := if d < 10 then [32, UInt8.ofNat (48 + d % 10)] else two d
def plainF (w y m d a i c : Nat) : Bs := (dayLs.getD w []).take 3 ++ ([32] ++ (monLs.getD m [] ++ ([32] ++ (dayB d ++ ([32] ++ (two a ++ ([58] ++ (two i ++ ([58] ++ (two c ++ ([32] ++ (two (y / 100) ++ two (y % 100)))))))))))))
theorem old_F {w y m d a i c : Nat} {day sec : Int} (w0 : w < 7) (y0 : 1970 ≤ y) (y1 : y < 2070) (m0 : m < 12) (d0 : d < 100) (a0 : a < 24) (i0 : i < 60) (c0 : c < 60)
    (hd : daysS y (m + 1) d = day) (hD : 0 ≤ day) (hw : (day + 3) % 7 = w) (hs : sec = day * 86400 + ((a : Int) * 3600 + i * 60 + c)) : dateS (oldF w y m d a i c) = some sec := by
  have e1 : fixedR (oldF w y m d a i c, true) = .tup [.int .i64 0, .bool false] := by
    refine fixed_false ?_
    obtain ⟨p1, p2, p3⟩ := long_pos w w0
    unfold oldF
    rw [← List.take_append_drop 3 (dayLs.getD w []), List.append_assoc, day_app w0 (by simp only [List.length_append, List.length_cons, List.length_nil]; omega)]
    refine need_ne ?_
    obtain ⟨z, hz⟩ : ∃ z, z = (dayLs.getD w []).drop 3 := ⟨_, rfl⟩
    have zl : 0 < z.length := by rw [hz, List.length_drop]; omega
    rw [← hz] at p3 ⊢
    match z, zl with
    | b :: t, _ => exact p3
  have e2 : oldR (oldF w y m d a i c, true) = .tup [.int .i64 sec, .bool true] := by
    unfold oldR oldF
    simp only [day_long w0 (show 0 < ([44, 32] ++ (two d ++ ([45] ++ (monLs.getD m [] ++ ([45] ++ (two (y % 100) ++ ([32] ++ (two a ++ ([58] ++ (two i ++ ([58] ++ (two c ++ [32, 71, 77, 84])))))))))))).length by simp), need_app, num_two d0, num_two (show y % 100 < 100 by omega), mon_app m0, clk_app a0 i0 c0, need_end]
    have ey : (if ((y % 100 : Nat) : Int) ≥ 70 then ((y % 100 : Nat) : Int) + 1900 else ((y % 100 : Nat) : Int) + 2000) = y := by split <;> omega
    rw [ey]
    unfold secR
    rw [if_pos ⟨rfl, rfl, by rw [hd]; exact hD, by rw [hd]; exact hw⟩, hd, ← hs]
  unfold dateS formR
  simp only [e1, e2]
  rfl
theorem num_one {k : Nat} {b : Bs} {ok : Bool} (h : k < 10) : numR 1 (UInt8.ofNat (48 + k) :: b, ok) = ((k : Int), (b, ok)) := by
  have : ∀ k, k < 10 → numV [UInt8.ofNat (48 + k)] = (k : Int) ∧ [UInt8.ofNat (48 + k)].all isDig = true := by decide +kernel
  obtain ⟨h1, h2⟩ := this k h
  have := take_app (n := 1) (a := [UInt8.ofNat (48 + k)]) (b := b) (ok := ok) rfl
  unfold numR
  rw [show UInt8.ofNat (48 + k) :: b = [UInt8.ofNat (48 + k)] ++ b from rfl, this]
  simp only [h1, h2, Bool.and_true]
theorem two_hd : ∀ d, d < 100 → (two d).getD 0 0 ≠ 32 ∧ (two d).getD 1 0 = UInt8.ofNat (48 + d % 10) := by decide +kernel
theorem two_zero : ∀ d, d < 100 → ((two d).getD 0 0 = 48 ↔ d < 10) := by decide +kernel
theorem plain_F {w y m d a i c : Nat} {day sec : Int} (w0 : w < 7) (y1 : y < 10000) (m0 : m < 12) (d0 : d < 100) (a0 : a < 24) (i0 : i < 60) (c0 : c < 60)
    (hd : daysS y (m + 1) d = day) (hD : 0 ≤ day) (hw : (day + 3) % 7 = w) (hs : sec = day * 86400 + ((a : Int) * 3600 + i * 60 + c)) : dateS (plainF w y m d a i c) = some sec := by
  have l3 := (day3 w w0).2
  have e1 : fixedR (plainF w y m d a i c, true) = .tup [.int .i64 0, .bool false] := by
    refine fixed_false ?_
    unfold plainF
    rw [day_app w0 (by simp)]
    refine need_ne ?_
    show (32 : UInt8) ≠ 44
    decide
  have e2 : oldR (plainF w y m d a i c, true) = .tup [.int .i64 0, .bool false] := by
    refine old_false (day_none ?_)
    unfold plainF
    generalize (dayLs.getD w []).take 3 = z at *
    match z, l3 with
    | [_, _, _], _ => rfl
  have e3 : plainR (plainF w y m d a i c, true) = .tup [.int .i64 sec, .bool true] := by
    unfold plainR plainF
    simp only [day_app w0 (show 0 < ([32] ++ (monLs.getD m [] ++ ([32] ++ (dayB d ++ ([32] ++ (two a ++ ([58] ++ (two i ++ ([58] ++ (two c ++ ([32] ++ (two (y / 100) ++ two (y % 100))))))))))))).length by simp), need_app, mon_app m0]
    have fin : ∀ dg x, numR dg x = ((d : Int), ([32] ++ (two a ++ ([58] ++ (two i ++ ([58] ++ (two c ++ ([32] ++ (two (y / 100) ++ two (y % 100)))))))), true)) → plainB dg w (m + 1) x = .tup [.int .i64 sec, .bool true] := by
      intro dg x hx
      unfold plainB
      simp only [hx, need_app, clk_app a0 i0 c0, num_four_end y1]
      unfold secR
      rw [if_pos ⟨rfl, rfl, by rw [hd]; exact hD, by rw [hd]; exact hw⟩, hd, ← hs]
    by_cases h10 : d < 10
    · have eb : dayB d = [32, UInt8.ofNat (48 + d % 10)] := if_pos h10
      rw [eb, if_pos ⟨by simp, rfl⟩]
      refine fin _ _ ?_
      have := take_app (n := 1) (a := [32]) (b := UInt8.ofNat (48 + d % 10) :: ([32] ++ (two a ++ ([58] ++ (two i ++ ([58] ++ (two c ++ ([32] ++ (two (y / 100) ++ two (y % 100)))))))))) (ok := true) rfl
      simp only [List.cons_append, List.nil_append] at this ⊢
      rw [this]
      have e := num_one (k := d % 10) (b := [32] ++ (two a ++ ([58] ++ (two i ++ ([58] ++ (two c ++ ([32] ++ (two (y / 100) ++ two (y % 100))))))))) (ok := true) (by omega)
      simp only [List.cons_append, List.nil_append] at e
      rw [e, show d % 10 = d by omega]
    · have eb : dayB d = two d := if_neg h10
      rw [eb, if_neg (fun h => (two_hd d d0).1 h.2)]
      exact fin _ _ (num_two d0)
  unfold dateS formR
  simp only [e1, e2, e3]
  rfl
/-- The pieces of a told date. -/
theorem fmt_cut {dn mo d2 yh yl A I C : Bs} (h1 : dn.length = 3) (h2 : mo.length = 3) (h3 : d2.length = 2) (h4 : yh.length = 2) (h5 : yl.length = 2) (h6 : A.length = 2) (h7 : I.length = 2) (h8 : C.length = 2) (s : Bs)
    (hs : s = dn ++ ([44, 32] ++ (d2 ++ ([32] ++ (mo ++ ([32] ++ (yh ++ (yl ++ ([32] ++ (A ++ ([58] ++ (I ++ ([58] ++ (C ++ [32, 71, 77, 84])))))))))))))) :
    s.take 3 = dn ∧ (s.take 7).drop 5 = d2 ∧ (s.take 11).drop 8 = mo ∧ (s.take 16).drop 14 = yl ∧ s.drop 16 = [32] ++ (A ++ ([58] ++ (I ++ ([58] ++ (C ++ [32, 71, 77, 84]))))) ∧ (s.take 25).drop 17 = A ++ ([58] ++ (I ++ ([58] ++ C))) ∧ (s.take 16).drop 12 = yh ++ yl := by
  subst hs
  match dn, h1, mo, h2, d2, h3, yh, h4, yl, h5, A, h6, I, h7, C, h8 with
  | [_, _, _], _, [_, _, _], _, [_, _], _, [_, _], _, [_, _], _, [_, _], _, [_, _], _, [_, _], _ => exact ⟨rfl, rfl, rfl, rfl, rfl, rfl, rfl⟩
end Go.Proofs.YtdgklgeddbfeaaaDoor.Vh
