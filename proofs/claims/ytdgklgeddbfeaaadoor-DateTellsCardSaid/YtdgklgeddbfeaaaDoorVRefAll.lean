/- The program's reader and the reference's cuts agree; plain. -/
import Derived.Test.YtdgklgeddbfeaaaDoorVRefFmt2
import Derived.Test.YtdgklgeddbfeaaaDoorVForms3
set_option linter.unusedVariables false
set_option linter.unusedSimpArgs false
namespace Go.Proofs.YtdgklgeddbfeaaaDoor.Vh
open Go.Vm Go.Vt
def failV : V := .tup [.int .i64 0, .bool false]
theorem need_gen {p a b : Bs} {ok : Bool} (h : a.length = p.length) : needR p (a ++ b, ok) = (b, ok && (a == p)) := by
  unfold needR
  rw [take_app h]
  by_cases e : a = p
  · rw [if_pos e]; subst e; simp
  · rw [if_neg e]; simp [e]
theorem num_gen {a b : Bs} {ok : Bool} {n : Nat} (h : a.length = n) : numR n (a ++ b, ok) = (numV a, (b, ok && a.all isDig)) := by
  unfold numR; rw [take_app h]
theorem mon_gen {a b : Bs} {ok : Bool} (h : a.length = 3) : ∃ X : Int, monR (a ++ b, ok) = (X, (b, ok && decide (lpos a monLs < 12))) ∧ (lpos a monLs < 12 → X = findI monLs a + 1) := by
  unfold monR findI; rw [take_app h]
  have l12 : monLs.length = 12 := rfl
  by_cases e : lpos a monLs < 12
  · exact ⟨lpos a monLs + 1, by simp [e], fun _ => by rw [if_pos (by omega)]⟩
  · exact ⟨0, by simp [e], fun h => absurd h e⟩
theorem seg {s : Bs} {a b : Nat} (h : a ≤ b) : (s.take b).drop a ++ s.drop b = s.drop a := by
  rw [List.drop_take]
  have : s.drop b = (s.drop a).drop (b - a) := by rw [List.drop_drop]; congr 1; omega
  rw [this, List.take_append_drop]
theorem seg_len {s : Bs} {a b : Nat} (h : b ≤ s.length) : ((s.take b).drop a).length = b - a := by
  rw [List.length_drop, List.length_take]; omega
theorem seg_one {s : Bs} {a : Nat} (h : a < s.length) : (s.take (a + 1)).drop a = [s.getD a 0] := by
  rw [List.drop_take, show a + 1 - a = 1 by omega, List.drop_eq_getElem_cons h, List.getD_eq_getElem?_getD, List.getElem?_eq_getElem h]; rfl
theorem numN_pos {s : Bs} : 0 ≤ numN s → s.all isDig = true := by
  unfold numN; split
  · intro _; assumption
  · intro h; omega
theorem numN_dig {s : Bs} (h : s.all isDig = true) : numN s = numV s := if_pos h
theorem clk_gen {ck b : Bs} {ok : Bool} (h : ck.length = 8) : ∃ X : Int, clkR (ck ++ b, ok) = (X, (b, ok && decide (0 ≤ clkN ck))) ∧ (0 ≤ clkN ck → X = clkN ck) := by
  have e : ck = ck.take 2 ++ ((ck.take 3).drop 2 ++ ((ck.take 5).drop 3 ++ ((ck.take 6).drop 5 ++ ck.drop 6))) := by
    rw [seg (by omega), seg (by omega), seg (by omega), List.take_append_drop]
  have l1 : (ck.take 2).length = 2 := by rw [List.length_take]; omega
  have l3 : ((ck.take 5).drop 3).length = 2 := seg_len (by omega)
  have l5 : (ck.drop 6).length = 2 := by rw [List.length_drop]; omega
  have s2 : (ck.take 3).drop 2 = [ck.getD 2 0] := seg_one (by omega)
  have s5 : (ck.take 6).drop 5 = [ck.getD 5 0] := seg_one (by omega)
  rw [s2, s5] at e
  have hr : clkR (ck ++ b, ok) = clkR (ck.take 2 ++ ([ck.getD 2 0] ++ ((ck.take 5).drop 3 ++ ([ck.getD 5 0] ++ (ck.drop 6 ++ b)))), ok) := by
    congr 1; congr 1
    calc ck ++ b = (ck.take 2 ++ ([ck.getD 2 0] ++ ((ck.take 5).drop 3 ++ ([ck.getD 5 0] ++ ck.drop 6)))) ++ b := by rw [← e]
      _ = _ := by simp only [List.append_assoc]
  have hc : clkN ck = if ck.getD 2 0 = 58 ∧ ck.getD 5 0 = 58 ∧ 0 ≤ numN (ck.take 2) ∧ numN (ck.take 2) ≤ 23 ∧ 0 ≤ numN ((ck.take 5).drop 3) ∧ numN ((ck.take 5).drop 3) ≤ 59 ∧ 0 ≤ numN (ck.drop 6) ∧ numN (ck.drop 6) ≤ 60 then numN (ck.take 2) * 3600 + numN ((ck.take 5).drop 3) * 60 + min (numN (ck.drop 6)) 59 else -1 := by
    unfold clkN; simp only [h, true_and]
  rw [hr, hc]
  generalize ck.take 2 = A at *
  generalize (ck.take 5).drop 3 = B at *
  generalize ck.drop 6 = C at *
  generalize ck.getD 2 0 = x at *
  generalize ck.getD 5 0 = y at *
  have a0 := numV_le (s := A) (by omega)
  have b0 := numV_le (s := B) (by omega)
  have c0 := numV_le (s := C) (by omega)
  unfold clkR
  simp only [num_gen l1, num_gen l3, num_gen l5, need_gen (p := [58]) (a := [x]) rfl, need_gen (p := [58]) (a := [y]) rfl]
  refine ⟨numV A * 3600 + numV B * 60 + min (numV C) 59, ?_, ?_⟩
  · by_cases P : x = 58 ∧ y = 58 ∧ 0 ≤ numN A ∧ numN A ≤ 23 ∧ 0 ≤ numN B ∧ numN B ≤ 59 ∧ 0 ≤ numN C ∧ numN C ≤ 60
    · rw [if_pos P]
      obtain ⟨p1, p2, p3, p4, p5, p6, p7, p8⟩ := P
      have d1 := numN_pos p3
      have d2 := numN_pos p5
      have d3 := numN_pos p7
      rw [numN_dig d1] at p3 p4 ⊢
      rw [numN_dig d2] at p5 p6 ⊢
      rw [numN_dig d3] at p7 p8 ⊢
      rw [if_neg (by omega), d1, d2, d3, p1, p2, decide_eq_true (by omega)]
      simp
    · rw [if_neg P, show decide ((0 : Int) ≤ -1) = false from rfl, Bool.and_false]
      congr 1
      split
      · rfl
      · rename_i h1
        congr 1
        rw [Bool.eq_false_iff]
        intro h2
        simp only [Bool.and_eq_true, beq_iff_eq, List.cons.injEq, and_true] at h2
        obtain ⟨⟨⟨⟨⟨_, d1⟩, p1⟩, d2⟩, p2⟩, d3⟩ := h2
        apply P
        rw [numN_dig d1, numN_dig d2, numN_dig d3]
        exact ⟨p1, p2, by omega, by omega, by omega, by omega, by omega, by omega⟩
  · intro h0
    by_cases P : x = 58 ∧ y = 58 ∧ 0 ≤ numN A ∧ numN A ≤ 23 ∧ 0 ≤ numN B ∧ numN B ≤ 59 ∧ 0 ≤ numN C ∧ numN C ≤ 60
    · rw [if_pos P]
      obtain ⟨p1, p2, p3, p4, p5, p6, p7, p8⟩ := P
      rw [numN_dig (numN_pos p3), numN_dig (numN_pos p5), numN_dig (numN_pos p7)]
    · rw [if_neg P] at h0; omega
theorem sh_name : ∀ j, j < 7 → shLs.getD j [] = nmD false j := by decide +kernel
theorem day_gen {a b : Bs} {ok : Bool} (h : a.length = 3) (hb : 0 < b.length) : (∃ w : Nat, w < 7 ∧ findI shLs a = w ∧ dayR false (a ++ b, ok) = ((w : Int), (b, ok))) ∨ (findI shLs a = -1 ∧ (dayR false (a ++ b, ok)).2.2 = false) := by
  have l7 : shLs.length = 7 := rfl
  by_cases q : ∃ j, j < 7 ∧ shLs.getD j [] = a
  · obtain ⟨j, hj, rfl⟩ := q
    left
    refine ⟨j, hj, ?_, ?_⟩
    · unfold findI
      rw [lpos_at (i := j) (by omega) (fun i hi e => ?_) rfl, if_pos (by omega)]
      have := day_ne j hj i hi
      rw [← sh_day j hj, ← sh_name i (by omega), e] at this
      simp at this
    · rw [sh_day j hj]; exact day_app hj hb
  · right
    have hn : ∀ j, j < 7 → shLs.getD j [] ≠ a := fun j hj e => q ⟨j, hj, e⟩
    refine ⟨?_, ?_⟩
    · unfold findI
      rw [lpos_none (fun j hj => hn j (by omega)), if_neg (by omega)]
    · unfold dayR
      rw [firstN_none, if_neg (by omega)]
      intro j hj
      unfold hitD
      rw [nm3 j hj, List.take_left' h, Bool.and_eq_false_iff]
      right
      rw [beq_eq_false_iff_ne, ← sh_name j hj]
      exact fun e => hn j hj e.symm
/-- The seconds of a reader that is at its end. -/
theorem sec_eq {B : Bool} {w y m d c w' y' m' d' c' : Int} (h1 : B = true → 0 ≤ c' ∧ w' = w ∧ y' = y ∧ m' = m ∧ d' = d ∧ c' = c) (h2 : 0 ≤ daysS y' m' d' → 0 ≤ c' → B = true) :
    secR ([], B) w y m d c = secN w' y' m' d' c' := by
  unfold secR secN
  by_cases hB : B = true
  · obtain ⟨c0, rfl, rfl, rfl, rfl, rfl⟩ := h1 hB
    by_cases q : 0 ≤ daysS y' m' d' ∧ (daysS y' m' d' + 3) % 7 = w'
    · rw [if_pos ⟨hB, rfl, q.1, q.2⟩, if_pos ⟨q.1, c0, q.2.symm⟩]
    · rw [if_neg (fun h => q ⟨h.2.2.1, h.2.2.2⟩), if_neg (fun h => q ⟨h.1, h.2.2.symm⟩)]
  · rw [if_neg (fun h => hB h.1), if_neg (fun h => hB (h2 h.1 h.2.1))]
theorem days_parts {y m d : Int} (h : 0 ≤ daysS y m d) : 1970 ≤ y ∧ 1 ≤ m ∧ 1 ≤ d := by
  unfold daysS at h
  split at h
  · rename_i q; exact ⟨q.1, q.2.2.1, q.2.2.2.2.1⟩
  · omega
theorem findI_pos {l : List Bs} {a : Bs} (h : 0 ≤ findI l a) : lpos a l < l.length := by
  unfold findI at h; split at h
  · assumption
  · omega
def c29 (s : Bs) : Prop := s.length = 29 ∧ (s.take 5).drop 3 = [44, 32] ∧ s.getD 7 0 = 32 ∧ s.getD 11 0 = 32 ∧ s.getD 16 0 = 32 ∧ s.drop 25 = [32, 71, 77, 84]
def f29 (s : Bs) : V := secN (findI shLs (s.take 3)) (numN ((s.take 16).drop 12)) (findI monLs ((s.take 11).drop 8) + 1) (numN ((s.take 7).drop 5)) (clkN ((s.take 25).drop 17))
theorem fixed_eq {s : Bs} (hl : s.length = 29) : fixedR (s, true) = if s.drop 25 = [32, 71, 77, 84] ∧ (s.take 5).drop 3 = [44, 32] ∧ s.getD 7 0 = 32 ∧ s.getD 11 0 = 32 ∧ s.getD 16 0 = 32 then f29 s else failV := by
  have e : s = s.take 3 ++ ((s.take 5).drop 3 ++ ((s.take 7).drop 5 ++ ((s.take 8).drop 7 ++ ((s.take 11).drop 8 ++ ((s.take 12).drop 11 ++ ((s.take 16).drop 12 ++ ((s.take 17).drop 16 ++ ((s.take 25).drop 17 ++ s.drop 25)))))))) := by
    rw [seg (by omega), seg (by omega), seg (by omega), seg (by omega), seg (by omega), seg (by omega), seg (by omega), seg (by omega), List.take_append_drop]
  rw [seg_one (a := 7) (by omega), seg_one (a := 11) (by omega), seg_one (a := 16) (by omega)] at e
  have l1 : (s.take 3).length = 3 := by rw [List.length_take]; omega
  have l2 : ((s.take 5).drop 3).length = 2 := seg_len (by omega)
  have l3 : ((s.take 7).drop 5).length = 2 := seg_len (by omega)
  have l4 : ((s.take 11).drop 8).length = 3 := seg_len (by omega)
  have l5 : ((s.take 16).drop 12).length = 4 := seg_len (by omega)
  have l6 : ((s.take 25).drop 17).length = 8 := seg_len (by omega)
  have l7 : (s.drop 25).length = 4 := by rw [List.length_drop]; omega
  unfold f29
  have e' : fixedR (s, true) = fixedR (s.take 3 ++ ((s.take 5).drop 3 ++ ((s.take 7).drop 5 ++ ([s.getD 7 0] ++ ((s.take 11).drop 8 ++ ([s.getD 11 0] ++ ((s.take 16).drop 12 ++ ([s.getD 16 0] ++ ((s.take 25).drop 17 ++ s.drop 25)))))))), true) := by rw [← e]
  rw [e']
  clear e e'
  generalize s.take 3 = A at *
  generalize (s.take 5).drop 3 = P at *
  generalize (s.take 7).drop 5 = D at *
  generalize (s.take 11).drop 8 = M at *
  generalize (s.take 16).drop 12 = Y at *
  generalize (s.take 25).drop 17 = C at *
  generalize s.drop 25 = G at *
  generalize s.getD 7 0 = x at *
  generalize s.getD 11 0 = y at *
  generalize s.getD 16 0 = z at *
  have hG : G = G ++ [] := by simp
  obtain ⟨b, hb⟩ : ∃ b, b = P ++ (D ++ ([x] ++ (M ++ ([y] ++ (Y ++ ([z] ++ (C ++ G))))))) := ⟨_, rfl⟩
  have hb0 : 0 < b.length := by rw [hb, List.length_append]; omega
  rw [← hb]
  rcases day_gen (ok := true) l1 hb0 with ⟨w, hw, ew, ed⟩ | ⟨ew, ed⟩
  · have lp : ([44, 32] : Bs).length = 2 := rfl
    have lg : ([32, 71, 77, 84] : Bs).length = 4 := rfl
    obtain ⟨X, hX, hX'⟩ := mon_gen (b := [y] ++ (Y ++ ([z] ++ (C ++ G)))) (ok := true && (P == [44, 32]) && D.all isDig && ([x] == [32])) l4
    obtain ⟨Z, hZ, hZ'⟩ := clk_gen (b := G) (ok := true && (P == [44, 32]) && D.all isDig && ([x] == [32]) && decide (lpos M monLs < 12) && ([y] == [32]) && Y.all isDig && ([z] == [32])) l6
    have hN := need_gen (p := [32, 71, 77, 84]) (a := G) (b := []) (ok := true && (P == [44, 32]) && D.all isDig && ([x] == [32]) && decide (lpos M monLs < 12) && ([y] == [32]) && Y.all isDig && ([z] == [32]) && decide (0 ≤ clkN C)) (by omega)
    rw [← hG] at hN
    subst hb
    unfold fixedR
    simp only [ed, need_gen (p := [44, 32]) (a := P) (b := D ++ ([x] ++ (M ++ ([y] ++ (Y ++ ([z] ++ (C ++ G))))))) l2, num_gen l3, need_gen (p := [32]) (a := [x]) rfl, hX, need_gen (p := [32]) (a := [y]) rfl, num_gen l5, need_gen (p := [32]) (a := [z]) rfl, hZ, hN]
    by_cases q : G = [32, 71, 77, 84] ∧ P = [44, 32] ∧ x = 32 ∧ y = 32 ∧ z = 32
    · rw [if_pos q]
      obtain ⟨q1, q2, q3, q4, q5⟩ := q
      refine sec_eq (fun hB => ?_) (fun h1 h2 => ?_)
      · simp only [Bool.and_eq_true, beq_iff_eq, decide_eq_true_eq] at hB
        obtain ⟨⟨⟨⟨⟨⟨⟨⟨⟨_, _⟩, b1⟩, _⟩, b2⟩, _⟩, b3⟩, _⟩, b4⟩, _⟩ := hB
        exact ⟨b4, ew, numN_dig b3, (hX' b2).symm, numN_dig b1, (hZ' b4).symm⟩
      · obtain ⟨p1, p2, p3⟩ := days_parts h1
        have b1 := numN_pos (s := Y) (by omega)
        have b2 := numN_pos (s := D) (by omega)
        have b3 := findI_pos (l := monLs) (a := M) (by omega)
        have b3' : lpos M monLs < 12 := b3
        simp [q1, q2, q3, q4, q5, b1, b2, b3', h2]
    · rw [if_neg q]
      refine sec_false ?_
      show _ = false
      rw [Bool.eq_false_iff]
      intro hB
      simp only [Bool.and_eq_true, beq_iff_eq, decide_eq_true_eq, List.cons.injEq, and_true] at hB
      obtain ⟨⟨⟨⟨⟨⟨⟨⟨⟨_, r1⟩, b1⟩, r2⟩, b2⟩, r3⟩, b3⟩, r4⟩, b4⟩, r5⟩ := hB
      exact q ⟨r5, r1, r2, r3, r4⟩
  · rw [fixed_false (need_false ed)]
    split
    · unfold secN
      rw [if_neg]
      rintro ⟨h1, h2, h3⟩
      omega
    · rfl
theorem plainB_eq {D C Y : Bs} {x z : UInt8} {ok : Bool} {dg : Nat} {w m : Int} (hd : D.length = dg) (hc : C.length = 8) (hy : Y.length = 4) : ∃ Z : Int, (0 ≤ clkN C → Z = clkN C) ∧
    plainB dg w m (D ++ ([x] ++ (C ++ ([z] ++ Y))), ok) = secR ([], ok && D.all isDig && ([x] == [32]) && decide (0 ≤ clkN C) && ([z] == [32]) && Y.all isDig) w (numV Y) m (numV D) Z := by
  obtain ⟨Z, hZ, hZ'⟩ := clk_gen (b := [z] ++ Y) (ok := ok && D.all isDig && ([x] == [32])) hc
  have hN := num_gen (a := Y) (b := []) (n := 4) (ok := ok && D.all isDig && ([x] == [32]) && decide (0 ≤ clkN C) && ([z] == [32])) hy
  rw [List.append_nil] at hN
  refine ⟨Z, hZ', ?_⟩
  unfold plainB
  simp only [num_gen hd, need_gen (p := [32]) (a := [x]) rfl, hZ, need_gen (p := [32]) (a := [z]) rfl, hN]
def dayP (s : Bs) : Bs := if ((s.take 10).drop 8).getD 0 0 = 32 then ((s.take 10).drop 8).drop 1 else (s.take 10).drop 8
def f24 (s : Bs) : V := secN (findI shLs (s.take 3)) (numN (s.drop 20)) (findI monLs ((s.take 7).drop 4) + 1) (numN (dayP s)) (clkN ((s.take 19).drop 11))
theorem sec_fail {w y m d c : Int} (hw : w = -1) : secN w y m d c = failV := by
  unfold secN
  rw [if_neg]; rfl
  rintro ⟨h1, h2, h3⟩
  omega
theorem plain_false {r : Rd} (h : (dayR false r).2.2 = false) : plainR r = failV := by
  unfold plainR plainB
  simp only
  split
  · exact sec_false (num_false (need_false (clk_false (need_false (num_false (take_false (need_false (mon_false (need_false h)))))))))
  · exact sec_false (num_false (need_false (clk_false (need_false (num_false (need_false (mon_false (need_false h))))))))
theorem two_of {D : Bs} (h : D.length = 2) : ∃ p q, D = [p, q] := by
  match D, h with
  | [p, q], _ => exact ⟨p, q, rfl⟩
theorem plain_eq {s : Bs} (hl : s.length = 24) : plainR (s, true) = if s.getD 3 0 = 32 ∧ s.getD 7 0 = 32 ∧ s.getD 10 0 = 32 ∧ s.getD 19 0 = 32 then f24 s else failV := by
  have e : s = s.take 3 ++ ((s.take 4).drop 3 ++ ((s.take 7).drop 4 ++ ((s.take 8).drop 7 ++ ((s.take 10).drop 8 ++ ((s.take 11).drop 10 ++ ((s.take 19).drop 11 ++ ((s.take 20).drop 19 ++ s.drop 20))))))) := by
    rw [seg (by omega), seg (by omega), seg (by omega), seg (by omega), seg (by omega), seg (by omega), seg (by omega), List.take_append_drop]
  rw [seg_one (a := 3) (by omega), seg_one (a := 7) (by omega), seg_one (a := 10) (by omega), seg_one (a := 19) (by omega)] at e
  have l1 : (s.take 3).length = 3 := by rw [List.length_take]; omega
  have l2 : ((s.take 7).drop 4).length = 3 := seg_len (by omega)
  have l3 : ((s.take 10).drop 8).length = 2 := seg_len (by omega)
  have l4 : ((s.take 19).drop 11).length = 8 := seg_len (by omega)
  have l5 : (s.drop 20).length = 4 := by rw [List.length_drop]; omega
  unfold f24 dayP
  have e' : plainR (s, true) = plainR (s.take 3 ++ ([s.getD 3 0] ++ ((s.take 7).drop 4 ++ ([s.getD 7 0] ++ ((s.take 10).drop 8 ++ ([s.getD 10 0] ++ ((s.take 19).drop 11 ++ ([s.getD 19 0] ++ s.drop 20))))))), true) := by rw [← e]
  rw [e']
  clear e e'
  generalize s.take 3 = A at *
  generalize (s.take 7).drop 4 = M at *
  generalize (s.take 10).drop 8 = D at *
  generalize (s.take 19).drop 11 = C at *
  generalize s.drop 20 = Y at *
  generalize s.getD 3 0 = x at *
  generalize s.getD 7 0 = y at *
  generalize s.getD 10 0 = z at *
  generalize s.getD 19 0 = u at *
  obtain ⟨b, hb⟩ : ∃ b, b = [x] ++ (M ++ ([y] ++ (D ++ ([z] ++ (C ++ ([u] ++ Y)))))) := ⟨_, rfl⟩
  have hb0 : 0 < b.length := by rw [hb, List.length_append, List.length_singleton]; omega
  rw [← hb]
  rcases day_gen (ok := true) l1 hb0 with ⟨w, hw, ew, ed⟩ | ⟨ew, ed⟩
  · obtain ⟨X, hX, hX'⟩ := mon_gen (b := [y] ++ (D ++ ([z] ++ (C ++ ([u] ++ Y))))) (ok := true && ([x] == [32])) l2
    subst hb
    obtain ⟨o4, ho4⟩ : ∃ o, o = (true && ([x] == [32]) && decide (lpos M monLs < 12) && ([y] == [32])) := ⟨_, rfl⟩
    have key : plainR (A ++ ([x] ++ (M ++ ([y] ++ (D ++ ([z] ++ (C ++ ([u] ++ Y))))))), true) = if D.getD 0 0 = 32 then plainB 1 w X (D.drop 1 ++ ([z] ++ (C ++ ([u] ++ Y))), o4) else plainB 2 w X (D ++ ([z] ++ (C ++ ([u] ++ Y))), o4) := by
      unfold plainR
      simp only [ed, need_gen (p := [32]) (a := [x]) rfl, hX, need_gen (p := [32]) (a := [y]) rfl, ← ho4]
      obtain ⟨p, q, rfl⟩ := two_of l3
      have eD : ([p, q] : Bs) ++ ([z] ++ (C ++ ([u] ++ Y))) = [p] ++ ([q] ++ ([z] ++ (C ++ ([u] ++ Y)))) := rfl
      have e0 : (([p, q] : Bs) ++ ([z] ++ (C ++ ([u] ++ Y)))).getD 0 0 = p := rfl
      have e1 : (([p, q] : Bs) ++ ([z] ++ (C ++ ([u] ++ Y)))).length > 0 := by rw [List.length_append]; show 0 < 2 + _; omega
      have e2 : ([p, q] : Bs).getD 0 0 = p := rfl
      have e3 : ([p, q] : Bs).drop 1 = [q] := rfl
      rw [e0, e2, e3]
      by_cases h32 : p = 32
      · rw [if_pos ⟨e1, h32⟩, if_pos h32, eD, take_app (n := 1) (a := [p]) rfl]
      · rw [if_neg (fun h => h32 h.2), if_neg h32]
    rw [key]
    obtain ⟨D', hD'⟩ : ∃ D', D' = if D.getD 0 0 = 32 then D.drop 1 else D := ⟨_, rfl⟩
    rw [← hD']
    have key2 : ∃ Z : Int, (0 ≤ clkN C → Z = clkN C) ∧ (if D.getD 0 0 = 32 then plainB 1 w X (D.drop 1 ++ ([z] ++ (C ++ ([u] ++ Y))), o4) else plainB 2 w X (D ++ ([z] ++ (C ++ ([u] ++ Y))), o4)) = secR ([], o4 && D'.all isDig && ([z] == [32]) && decide (0 ≤ clkN C) && ([u] == [32]) && Y.all isDig) w (numV Y) X (numV D') Z := by
      by_cases h32 : D.getD 0 0 = 32
      · rw [if_pos h32] at hD' ⊢
        subst hD'
        exact plainB_eq (by rw [List.length_drop]; omega) l4 l5
      · rw [if_neg h32] at hD' ⊢
        subst hD'
        exact plainB_eq l3 l4 l5
    obtain ⟨Z, hZ, ek⟩ := key2
    rw [ek]
    clear ek key hD'
    subst ho4
    by_cases q : x = 32 ∧ y = 32 ∧ z = 32 ∧ u = 32
    · rw [if_pos q]
      obtain ⟨q1, q2, q3, q4⟩ := q
      refine sec_eq (fun hB => ?_) (fun h1 h2 => ?_)
      · simp only [Bool.and_eq_true, beq_iff_eq, decide_eq_true_eq] at hB
        obtain ⟨⟨⟨⟨⟨⟨⟨⟨_, _⟩, b1⟩, _⟩, b2⟩, _⟩, b3⟩, _⟩, b4⟩ := hB
        exact ⟨b3, ew, numN_dig b4, (hX' b1).symm, numN_dig b2, (hZ b3).symm⟩
      · obtain ⟨p1, p2, p3⟩ := days_parts h1
        have b1 := numN_pos (s := Y) (by omega)
        have b2 := numN_pos (s := D') (by omega)
        have b3 := findI_pos (l := monLs) (a := M) (by omega)
        have b3' : lpos M monLs < 12 := b3
        simp [q1, q2, q3, q4, b1, b2, b3', h2]
    · rw [if_neg q]
      refine sec_false ?_
      show _ = false
      rw [Bool.eq_false_iff]
      intro hB
      simp only [Bool.and_eq_true, beq_iff_eq, decide_eq_true_eq, List.cons.injEq, and_true] at hB
      obtain ⟨⟨⟨⟨⟨⟨⟨⟨_, r1⟩, b1⟩, r2⟩, b2⟩, r3⟩, b3⟩, r4⟩, b4⟩ := hB
      exact q ⟨r1, r2, r3, r4⟩
  · rw [plain_false ed]
    split
    · rw [sec_fail ew]
    · rfl
def yrN (y : Int) : Int := if y ≥ 70 then y + 1900 else if y ≥ 0 then y + 2000 else y
def fold (w : Nat) (t : Bs) : V := secN w (yrN (numN ((t.take 11).drop 9))) (findI monLs ((t.take 8).drop 5) + 1) (numN ((t.take 4).drop 2)) (clkN ((t.take 20).drop 12))
theorem old_eq {w : Nat} {t : Bs} (hw : w < 7) (hl : t.length = 24) : oldR (dayLs.getD w [] ++ t, true) = if t.take 2 = [44, 32] ∧ t.getD 4 0 = 45 ∧ t.getD 8 0 = 45 ∧ t.getD 11 0 = 32 ∧ t.drop 20 = [32, 71, 77, 84] then fold w t else failV := by
  have ed := day_long (b := t) (ok := true) hw (by omega)
  have e : t = t.take 2 ++ ((t.take 4).drop 2 ++ ((t.take 5).drop 4 ++ ((t.take 8).drop 5 ++ ((t.take 9).drop 8 ++ ((t.take 11).drop 9 ++ ((t.take 12).drop 11 ++ ((t.take 20).drop 12 ++ t.drop 20))))))) := by
    rw [seg (by omega), seg (by omega), seg (by omega), seg (by omega), seg (by omega), seg (by omega), seg (by omega), List.take_append_drop]
  rw [seg_one (a := 4) (by omega), seg_one (a := 8) (by omega), seg_one (a := 11) (by omega)] at e
  have l1 : (t.take 2).length = 2 := by rw [List.length_take]; omega
  have l2 : ((t.take 4).drop 2).length = 2 := seg_len (by omega)
  have l3 : ((t.take 8).drop 5).length = 3 := seg_len (by omega)
  have l4 : ((t.take 11).drop 9).length = 2 := seg_len (by omega)
  have l5 : ((t.take 20).drop 12).length = 8 := seg_len (by omega)
  have l6 : (t.drop 20).length = 4 := by rw [List.length_drop]; omega
  unfold fold
  have ed' : dayR true (dayLs.getD w [] ++ t, true) = ((w : Int), (t.take 2 ++ ((t.take 4).drop 2 ++ ([t.getD 4 0] ++ ((t.take 8).drop 5 ++ ([t.getD 8 0] ++ ((t.take 11).drop 9 ++ ([t.getD 11 0] ++ ((t.take 20).drop 12 ++ t.drop 20))))))), true)) := by rw [← e]; exact ed
  generalize hs : dayLs.getD w [] ++ t = s at *
  clear e ed hs
  generalize t.take 2 = P at *
  generalize (t.take 4).drop 2 = D at *
  generalize (t.take 8).drop 5 = M at *
  generalize (t.take 11).drop 9 = Y at *
  generalize (t.take 20).drop 12 = C at *
  generalize t.drop 20 = G at *
  generalize t.getD 4 0 = x at *
  generalize t.getD 8 0 = y at *
  generalize t.getD 11 0 = z at *
  have hG : G = G ++ [] := by simp
  obtain ⟨X, hX, hX'⟩ := mon_gen (b := [y] ++ (Y ++ ([z] ++ (C ++ G)))) (ok := true && (P == [44, 32]) && D.all isDig && ([x] == [45])) l3
  obtain ⟨Z, hZ, hZ'⟩ := clk_gen (b := G) (ok := true && (P == [44, 32]) && D.all isDig && ([x] == [45]) && decide (lpos M monLs < 12) && ([y] == [45]) && Y.all isDig && ([z] == [32])) l5
  have hN := need_gen (p := [32, 71, 77, 84]) (a := G) (b := []) (ok := true && (P == [44, 32]) && D.all isDig && ([x] == [45]) && decide (lpos M monLs < 12) && ([y] == [45]) && Y.all isDig && ([z] == [32]) && decide (0 ≤ clkN C)) l6
  rw [← hG] at hN
  unfold oldR
  simp only [ed', need_gen (p := [44, 32]) (a := P) (b := D ++ ([x] ++ (M ++ ([y] ++ (Y ++ ([z] ++ (C ++ G))))))) l1, num_gen l2, need_gen (p := [45]) (a := [x]) rfl, hX, need_gen (p := [45]) (a := [y]) rfl, num_gen l4, need_gen (p := [32]) (a := [z]) rfl, hZ, hN]
  have nv := numV_le (s := Y) (by omega)
  by_cases q : P = [44, 32] ∧ x = 45 ∧ y = 45 ∧ z = 32 ∧ G = [32, 71, 77, 84]
  · rw [if_pos q]
    obtain ⟨q1, q2, q3, q4, q5⟩ := q
    refine sec_eq (fun hB => ?_) (fun h1 h2 => ?_)
    · simp only [Bool.and_eq_true, beq_iff_eq, decide_eq_true_eq] at hB
      obtain ⟨⟨⟨⟨⟨⟨⟨⟨⟨_, _⟩, b1⟩, _⟩, b2⟩, _⟩, b3⟩, _⟩, b4⟩, _⟩ := hB
      refine ⟨b4, rfl, ?_, (hX' b2).symm, numN_dig b1, (hZ' b4).symm⟩
      rw [numN_dig b3]
      unfold yrN
      split <;> (try rfl)
      rw [if_pos (by omega)]
    · obtain ⟨p1, p2, p3⟩ := days_parts h1
      have b1 := numN_pos (s := Y) (by
        unfold yrN at p1
        have := numN_le (s := Y) (by omega)
        split at p1
        · omega
        · split at p1 <;> omega)
      have b2 := numN_pos (s := D) (by omega)
      have b3 := findI_pos (l := monLs) (a := M) (by omega)
      have b3' : lpos M monLs < 12 := b3
      simp [q1, q2, q3, q4, q5, b1, b2, b3', h2]
  · rw [if_neg q]
    refine sec_false ?_
    show _ = false
    rw [Bool.eq_false_iff]
    intro hB
    simp only [Bool.and_eq_true, beq_iff_eq, decide_eq_true_eq, List.cons.injEq, and_true] at hB
    obtain ⟨⟨⟨⟨⟨⟨⟨⟨⟨_, r1⟩, b1⟩, r2⟩, b2⟩, r3⟩, b3⟩, r4⟩, b4⟩, r5⟩ := hB
    exact q ⟨r1, r2, r3, r4, r5⟩
theorem take_len {n : Nat} {r : Rd} (h : (takeR n r).2.2 = true) : r.2 = true ∧ r.1.length = n + (takeR n r).2.1.length := by
  unfold takeR at h ⊢
  split at h
  · cases h
  · rename_i q; rw [if_neg q]; exact ⟨h, by simp only [List.length_drop]; omega⟩
theorem need_len {p : Bs} {r : Rd} (h : (needR p r).2 = true) : r.2 = true ∧ r.1.length = p.length + (needR p r).1.length := by
  unfold needR at h ⊢
  split at h
  · rename_i q; rw [if_pos q]; exact take_len h
  · cases h
theorem num_len {n : Nat} {r : Rd} (h : (numR n r).2.2 = true) : r.2 = true ∧ r.1.length = n + (numR n r).2.1.length := by
  unfold numR at h ⊢
  simp only [Bool.and_eq_true] at h
  exact take_len h.1
theorem mon_len {r : Rd} (h : (monR r).2.2 = true) : r.2 = true ∧ r.1.length = 3 + (monR r).2.1.length := by
  unfold monR at h ⊢
  split at h
  · rename_i q; rw [if_pos q]; exact take_len h
  · cases h
theorem clk_len {r : Rd} (h : (clkR r).2.2 = true) : r.2 = true ∧ r.1.length = 8 + (clkR r).2.1.length := by
  unfold clkR at h ⊢
  simp only at h ⊢
  split at h
  · cases h
  · rename_i q
    rw [if_neg q]
    obtain ⟨h1, e1⟩ := num_len h
    obtain ⟨h2, e2⟩ := need_len h1
    obtain ⟨h3, e3⟩ := num_len h2
    obtain ⟨h4, e4⟩ := need_len h3
    obtain ⟨h5, e5⟩ := num_len h4
    simp only [List.length_cons, List.length_nil] at e2 e4
    exact ⟨h5, by omega⟩
theorem firstN_hit {p : Nat → Bool} : ∀ {n : Nat}, firstN p n < n → p (firstN p n) = true
  | 0, h => by omega
  | n + 1, h => by
    unfold firstN at h ⊢
    by_cases a : firstN p n < n
    · rw [if_pos a]; exact firstN_hit a
    · rw [if_neg a] at h ⊢
      by_cases b : p n = true
      · rw [if_pos b]; exact b
      · rw [if_neg b] at h; omega
theorem day_len {long : Bool} {r : Rd} (h : (dayR long r).2.2 = true) : r.2 = true ∧ ∃ w, w < 7 ∧ r.1.take (nmD long w).length = nmD long w ∧ r.1.length = (nmD long w).length + (dayR long r).2.1.length := by
  unfold dayR at h ⊢
  split at h
  · rename_i q
    rw [if_pos q]
    have hh := firstN_hit q
    generalize firstN (hitD long r.1) 7 = w at *
    unfold hitD at hh
    rw [Bool.and_eq_true, decide_eq_true_eq, beq_iff_eq] at hh
    exact ⟨h, w, q, hh.2, by simp only [List.length_drop]; omega⟩
  · cases h
theorem sec_no {r : Rd} {w y m d c : Int} (h : ¬ (r.2 = true ∧ r.1 = [])) : secR r w y m d c = failV := by
  unfold secR; rw [if_neg (fun q => h ⟨q.1, q.2.1⟩)]; rfl
theorem fixed_short {s : Bs} (h : s.length ≠ 29) : fixedR (s, true) = failV := by
  unfold fixedR
  refine sec_no fun q => h ?_
  obtain ⟨q1, q2⟩ := q
  obtain ⟨h1, e1⟩ := need_len q1
  obtain ⟨h2, e2⟩ := clk_len h1
  obtain ⟨h3, e3⟩ := need_len h2
  obtain ⟨h4, e4⟩ := num_len h3
  obtain ⟨h5, e5⟩ := need_len h4
  obtain ⟨h6, e6⟩ := mon_len h5
  obtain ⟨h7, e7⟩ := need_len h6
  obtain ⟨h8, e8⟩ := num_len h7
  obtain ⟨h9, e9⟩ := need_len h8
  obtain ⟨ha, w, hw, _, e10⟩ := day_len h9
  rw [nm3 w hw] at e10
  rw [q2] at e1
  simp only [List.length_cons, List.length_nil] at e1 e3 e5 e7 e9 e10
  omega
theorem old_len {s : Bs} (h : oldR (s, true) ≠ failV) : ∃ w, w < 7 ∧ s.take (dayLs.getD w []).length = dayLs.getD w [] ∧ s.length = (dayLs.getD w []).length + 24 := by
  unfold oldR at h
  have q := Classical.byContradiction fun q => h (sec_no q)
  obtain ⟨q1, q2⟩ := q
  obtain ⟨h1, e1⟩ := need_len q1
  obtain ⟨h2, e2⟩ := clk_len h1
  obtain ⟨h3, e3⟩ := need_len h2
  obtain ⟨h4, e4⟩ := num_len h3
  obtain ⟨h5, e5⟩ := need_len h4
  obtain ⟨h6, e6⟩ := mon_len h5
  obtain ⟨h7, e7⟩ := need_len h6
  obtain ⟨h8, e8⟩ := num_len h7
  obtain ⟨h9, e9⟩ := need_len h8
  obtain ⟨ha, w, hw, ep, e10⟩ := day_len h9
  rw [nmD_long] at e10 ep
  rw [q2] at e1
  simp only [List.length_cons, List.length_nil] at e1 e3 e5 e7 e9 e10
  exact ⟨w, hw, ep, by omega⟩
theorem plainB_len {dg : Nat} {w m : Int} {x : Rd} (h : plainB dg w m x ≠ failV) : x.2 = true ∧ x.1.length = dg + 14 := by
  unfold plainB at h
  have q := Classical.byContradiction fun q => h (sec_no q)
  obtain ⟨q1, q2⟩ := q
  obtain ⟨h1, e1⟩ := num_len q1
  obtain ⟨h2, e2⟩ := need_len h1
  obtain ⟨h3, e3⟩ := clk_len h2
  obtain ⟨h4, e4⟩ := need_len h3
  obtain ⟨h5, e5⟩ := num_len h4
  rw [q2] at e1
  simp only [List.length_cons, List.length_nil] at e1 e2 e4
  exact ⟨h5, by omega⟩
theorem plain_short {s : Bs} (h : s.length ≠ 24) : plainR (s, true) = failV := by
  refine Classical.byContradiction fun hp => h ?_
  unfold plainR at hp
  simp only at hp
  have key : (needR [32] (monR (needR [32] (dayR false (s, true)).2)).2).2 = true ∧ (needR [32] (monR (needR [32] (dayR false (s, true)).2)).2).1.length = 16 := by
    split at hp
    · obtain ⟨k1, k2⟩ := plainB_len hp
      obtain ⟨k3, k4⟩ := take_len k1
      exact ⟨k3, by omega⟩
    · exact plainB_len hp
  obtain ⟨k1, k2⟩ := key
  obtain ⟨h1, e1⟩ := need_len k1
  obtain ⟨h2, e2⟩ := mon_len h1
  obtain ⟨h3, e3⟩ := need_len h2
  obtain ⟨h4, w, hw, _, e4⟩ := day_len h3
  rw [nm3 w hw] at e4
  simp only [List.length_cons, List.length_nil] at e1 e3 e4
  omega
theorem long_len : ∀ w, w < 7 → 6 ≤ (dayLs.getD w []).length ∧ (dayLs.getD w []).length ≤ 9 := by decide +kernel
def tupV (v : V) : Prop := ∃ (n : Int) (b : Bool), v = .tup [.int .i64 n, .bool b] ∧ (b = false → n = 0)
theorem sec_tup' (r : Rd) (w y m d c : Int) : tupV (secR r w y m d c) := by
  unfold secR; split
  · exact ⟨_, true, rfl, fun h => by cases h⟩
  · exact ⟨_, false, rfl, fun _ => rfl⟩
theorem back_tup {v : V} (h : tupV v) : dateV (okV v) = v := by
  obtain ⟨n, b, rfl, hb⟩ := h
  cases b
  · rw [hb rfl]; rfl
  · rfl
theorem fixed_tup (r : Rd) : tupV (fixedR r) := by unfold fixedR; exact sec_tup' _ _ _ _ _ _
theorem old_tup (r : Rd) : tupV (oldR r) := by unfold oldR; exact sec_tup' _ _ _ _ _ _
theorem plain_tup (r : Rd) : tupV (plainR r) := by
  unfold plainR plainB
  simp only
  split <;> exact sec_tup' _ _ _ _ _ _
theorem ok_fail : okV failV = none := rfl
theorem or1 {a : Option Int} : orG a (orG none none) = a := by cases a <;> rfl
theorem or2 {a : Option Int} : orG none (orG none a) = a := rfl
theorem or3 {a : Option Int} : orG none (orG a none) = a := by cases a <;> rfl
theorem date29 {s : Bs} (h : s.length = 29) : dateV (dateS s) = fixedR (s, true) := by
  have e1 : oldR (s, true) = failV := Classical.byContradiction fun q => by
    obtain ⟨w, hw, _, e⟩ := old_len q
    have := long_len w hw
    omega
  have e2 : plainR (s, true) = failV := plain_short (by omega)
  have : dateS s = okV (fixedR (s, true)) := by
    unfold dateS formR
    simp only [e1, e2, ok_fail, or1]
  rw [this, back_tup (fixed_tup _)]
theorem date24 {s : Bs} (h : s.length = 24) : dateV (dateS s) = plainR (s, true) := by
  have e1 : oldR (s, true) = failV := Classical.byContradiction fun q => by
    obtain ⟨w, hw, _, e⟩ := old_len q
    have := long_len w hw
    omega
  have e2 : fixedR (s, true) = failV := fixed_short (by omega)
  have : dateS s = okV (plainR (s, true)) := by
    unfold dateS formR
    simp only [e1, e2, ok_fail, or2]
  rw [this, back_tup (plain_tup _)]
theorem dateO {s : Bs} (h : s.length ≠ 29) (h' : s.length ≠ 24) : dateV (dateS s) = oldR (s, true) := by
  have e1 : fixedR (s, true) = failV := fixed_short h
  have e2 : plainR (s, true) = failV := plain_short h'
  have : dateS s = okV (oldR (s, true)) := by
    unfold dateS formR
    simp only [e1, e2, ok_fail, or3]
  rw [this, back_tup (old_tup _)]
def c24 (s : Bs) : Prop := s.length = 24 ∧ s.getD 3 0 = 32 ∧ s.getD 7 0 = 32 ∧ s.getD 10 0 = 32 ∧ s.getD 19 0 = 32
def cO (s : Bs) (w : Nat) : Prop := s.length = (dayLs.getD w []).length + 24 ∧ s.take (dayLs.getD w []).length = dayLs.getD w []
def cT (t : Bs) : Prop := t.take 2 = [44, 32] ∧ t.getD 4 0 = 45 ∧ t.getD 8 0 = 45 ∧ t.getD 11 0 = 32 ∧ t.drop 20 = [32, 71, 77, 84]
theorem ref29 {s : Bs} (h : c29 s) : f29 s = dateV (dateS s) := by
  obtain ⟨h1, h2, h3, h4, h5, h6⟩ := h
  rw [date29 h1, fixed_eq h1, if_pos ⟨h6, h2, h3, h4, h5⟩]
theorem ref24 {s : Bs} (h : c24 s) : f24 s = dateV (dateS s) := by
  obtain ⟨h1, h2, h3, h4, h5⟩ := h
  rw [date24 h1, plain_eq h1, if_pos ⟨h2, h3, h4, h5⟩]
theorem refO {s : Bs} {w : Nat} (hw : w < 7) (h : cO s w) : (cT (s.drop (dayLs.getD w []).length) → fold w (s.drop (dayLs.getD w []).length) = dateV (dateS s)) ∧ (¬ cT (s.drop (dayLs.getD w []).length) → failV = dateV (dateS s)) := by
  obtain ⟨h1, h2⟩ := h
  have ll := long_len w hw
  obtain ⟨t, ht⟩ : ∃ t, t = s.drop (dayLs.getD w []).length := ⟨_, rfl⟩
  have lt : t.length = 24 := by rw [ht, List.length_drop]; omega
  have es : s = dayLs.getD w [] ++ t := by rw [ht]; conv => lhs; rw [← List.take_append_drop (dayLs.getD w []).length s, h2]
  rw [← ht, dateO (by omega) (by omega)]
  have oe := old_eq hw lt
  rw [← es] at oe
  rw [oe]
  constructor
  · intro c; unfold cT at c; rw [if_pos c]
  · intro c; unfold cT at c; rw [if_neg c]
theorem refN {s : Bs} (h1 : ¬ c29 s) (h2 : ¬ c24 s) (h3 : ∀ w, w < 7 → ¬ cO s w) : failV = dateV (dateS s) := by
  by_cases a : s.length = 29
  · rw [date29 a, fixed_eq a, if_neg]
    rintro ⟨q1, q2, q3, q4, q5⟩
    exact h1 ⟨a, q2, q3, q4, q5, q1⟩
  by_cases b : s.length = 24
  · rw [date24 b, plain_eq b, if_neg]
    intro q
    exact h2 ⟨b, q⟩
  rw [dateO a b]
  refine Classical.byContradiction fun q => ?_
  obtain ⟨w, hw, e1, e2⟩ := old_len (fun e => q e.symm)
  exact h3 w hw ⟨e2, e1⟩
end Go.Proofs.YtdgklgeddbfeaaaDoor.Vh
