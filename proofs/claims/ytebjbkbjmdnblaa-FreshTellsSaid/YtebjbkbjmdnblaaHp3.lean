/- A text written by our program hprint.py (walks of the program, and the row of a law whose plain law is proved beside it). Lean checks it. -/
import Derived.Test.YtebjbkbjmdnblaaHp0
import Derived.Test.YtebjbkbjmdnblaaHMore
namespace Go.Proofs.Ytebjbkbjmdnblaa.Hp
open Go.RowKit Go.Proofs.YtebjbkbjmdnblaaW.PrintWords Go.Proofs.YtebjbkbjmdnblaaW.PrintLast Go.Proofs.YtebjbkbjmdnblaaW.PrintMore
attribute [local go_sem] max2_int min2_int max_two min_two max_three min_three max_four min_four   -- for this text's walks alone
set_option linter.unusedVariables false
set_option linter.unusedSimpArgs false

/-! ### gatepostref09_Heuristic: function 15 -/
def gatepostref09_Heuristic.f (a0 : Int) : Option (Bool) := if a0 = 200 then (some true) else (if a0 = 203 then (some true) else (if a0 = 204 then (some true) else (if a0 = 206 then (some true) else (if a0 = 300 then (some true) else (if a0 = 301 then (some true) else (if a0 = 308 then (some true) else (if a0 = 404 then (some true) else (if a0 = 405 then (some true) else (if a0 = 410 then (some true) else (if a0 = 414 then (some true) else (if a0 = 501 then (some true) else (some false))))))))))))
set_option maxHeartbeats 8000000 in
set_option maxRecDepth 100000 in
theorem gatepostref09_Heuristic.calls (a0 : Int) (r : Bool) (w : World) (h : gatepostref09_Heuristic.f a0 = some r) :
    Calls Try.prog 15 #[.int .i64 a0] w fun e w' => e = .returned (.bool r) ∧ Drawn0 w w' := by
  have H : (if a0 = 200 then (some true) else (if a0 = 203 then (some true) else (if a0 = 204 then (some true) else (if a0 = 206 then (some true) else (if a0 = 300 then (some true) else (if a0 = 301 then (some true) else (if a0 = 308 then (some true) else (if a0 = 404 then (some true) else (if a0 = 405 then (some true) else (if a0 = 410 then (some true) else (if a0 = 414 then (some true) else (if a0 = 501 then (some true) else (some false))))))))))))) = some r := h
  clear h
  by_cases c2 : a0 = 200
  · rw [if_pos c2] at H
    have c2b0 : (a0 == 200) = true := beq_iff_eq.mpr c2
    have c2b1 : (a0 != 200) = false := bne_eq_false_iff_eq.mpr c2
    clear c2
    obtain rfl := Option.some.inj H
    go_enter Try.func15, Try.ntmps15
    go_wp2
    go_ret
    exact ⟨by first | rfl | (simp; done) | exact ret_ne _ | (simp [*]; done), by repeat (first | exact Drawn0.refl _ | apply Drawn0.step)⟩
  · rw [if_neg c2] at H
    have c2b0 : (a0 == 200) = false := beq_eq_false_iff_ne.mpr c2
    have c2b1 : (a0 != 200) = true := bne_iff_ne.mpr c2
    by_cases c3 : a0 = 203
    · rw [if_pos c3] at H
      have c3b0 : (a0 == 203) = true := beq_iff_eq.mpr c3
      have c3b1 : (a0 != 203) = false := bne_eq_false_iff_eq.mpr c3
      clear c3
      obtain rfl := Option.some.inj H
      go_enter Try.func15, Try.ntmps15
      go_wp2
      go_ret
      exact ⟨by first | rfl | (simp; done) | exact ret_ne _ | (simp [*]; done), by repeat (first | exact Drawn0.refl _ | apply Drawn0.step)⟩
    · rw [if_neg c3] at H
      have c3b0 : (a0 == 203) = false := beq_eq_false_iff_ne.mpr c3
      have c3b1 : (a0 != 203) = true := bne_iff_ne.mpr c3
      by_cases c4 : a0 = 204
      · rw [if_pos c4] at H
        have c4b0 : (a0 == 204) = true := beq_iff_eq.mpr c4
        have c4b1 : (a0 != 204) = false := bne_eq_false_iff_eq.mpr c4
        clear c4
        obtain rfl := Option.some.inj H
        go_enter Try.func15, Try.ntmps15
        go_wp2
        go_ret
        exact ⟨by first | rfl | (simp; done) | exact ret_ne _ | (simp [*]; done), by repeat (first | exact Drawn0.refl _ | apply Drawn0.step)⟩
      · rw [if_neg c4] at H
        have c4b0 : (a0 == 204) = false := beq_eq_false_iff_ne.mpr c4
        have c4b1 : (a0 != 204) = true := bne_iff_ne.mpr c4
        by_cases c5 : a0 = 206
        · rw [if_pos c5] at H
          have c5b0 : (a0 == 206) = true := beq_iff_eq.mpr c5
          have c5b1 : (a0 != 206) = false := bne_eq_false_iff_eq.mpr c5
          clear c5
          obtain rfl := Option.some.inj H
          go_enter Try.func15, Try.ntmps15
          go_wp2
          go_ret
          exact ⟨by first | rfl | (simp; done) | exact ret_ne _ | (simp [*]; done), by repeat (first | exact Drawn0.refl _ | apply Drawn0.step)⟩
        · rw [if_neg c5] at H
          have c5b0 : (a0 == 206) = false := beq_eq_false_iff_ne.mpr c5
          have c5b1 : (a0 != 206) = true := bne_iff_ne.mpr c5
          by_cases c6 : a0 = 300
          · rw [if_pos c6] at H
            have c6b0 : (a0 == 300) = true := beq_iff_eq.mpr c6
            have c6b1 : (a0 != 300) = false := bne_eq_false_iff_eq.mpr c6
            clear c6
            obtain rfl := Option.some.inj H
            go_enter Try.func15, Try.ntmps15
            go_wp2
            go_ret
            exact ⟨by first | rfl | (simp; done) | exact ret_ne _ | (simp [*]; done), by repeat (first | exact Drawn0.refl _ | apply Drawn0.step)⟩
          · rw [if_neg c6] at H
            have c6b0 : (a0 == 300) = false := beq_eq_false_iff_ne.mpr c6
            have c6b1 : (a0 != 300) = true := bne_iff_ne.mpr c6
            by_cases c7 : a0 = 301
            · rw [if_pos c7] at H
              have c7b0 : (a0 == 301) = true := beq_iff_eq.mpr c7
              have c7b1 : (a0 != 301) = false := bne_eq_false_iff_eq.mpr c7
              clear c7
              obtain rfl := Option.some.inj H
              go_enter Try.func15, Try.ntmps15
              go_wp2
              go_ret
              exact ⟨by first | rfl | (simp; done) | exact ret_ne _ | (simp [*]; done), by repeat (first | exact Drawn0.refl _ | apply Drawn0.step)⟩
            · rw [if_neg c7] at H
              have c7b0 : (a0 == 301) = false := beq_eq_false_iff_ne.mpr c7
              have c7b1 : (a0 != 301) = true := bne_iff_ne.mpr c7
              by_cases c8 : a0 = 308
              · rw [if_pos c8] at H
                have c8b0 : (a0 == 308) = true := beq_iff_eq.mpr c8
                have c8b1 : (a0 != 308) = false := bne_eq_false_iff_eq.mpr c8
                clear c8
                obtain rfl := Option.some.inj H
                go_enter Try.func15, Try.ntmps15
                go_wp2
                go_ret
                exact ⟨by first | rfl | (simp; done) | exact ret_ne _ | (simp [*]; done), by repeat (first | exact Drawn0.refl _ | apply Drawn0.step)⟩
              · rw [if_neg c8] at H
                have c8b0 : (a0 == 308) = false := beq_eq_false_iff_ne.mpr c8
                have c8b1 : (a0 != 308) = true := bne_iff_ne.mpr c8
                by_cases c9 : a0 = 404
                · rw [if_pos c9] at H
                  have c9b0 : (a0 == 404) = true := beq_iff_eq.mpr c9
                  have c9b1 : (a0 != 404) = false := bne_eq_false_iff_eq.mpr c9
                  clear c9
                  obtain rfl := Option.some.inj H
                  go_enter Try.func15, Try.ntmps15
                  go_wp2
                  go_ret
                  exact ⟨by first | rfl | (simp; done) | exact ret_ne _ | (simp [*]; done), by repeat (first | exact Drawn0.refl _ | apply Drawn0.step)⟩
                · rw [if_neg c9] at H
                  have c9b0 : (a0 == 404) = false := beq_eq_false_iff_ne.mpr c9
                  have c9b1 : (a0 != 404) = true := bne_iff_ne.mpr c9
                  by_cases c10 : a0 = 405
                  · rw [if_pos c10] at H
                    have c10b0 : (a0 == 405) = true := beq_iff_eq.mpr c10
                    have c10b1 : (a0 != 405) = false := bne_eq_false_iff_eq.mpr c10
                    clear c10
                    obtain rfl := Option.some.inj H
                    go_enter Try.func15, Try.ntmps15
                    go_wp2
                    go_ret
                    exact ⟨by first | rfl | (simp; done) | exact ret_ne _ | (simp [*]; done), by repeat (first | exact Drawn0.refl _ | apply Drawn0.step)⟩
                  · rw [if_neg c10] at H
                    have c10b0 : (a0 == 405) = false := beq_eq_false_iff_ne.mpr c10
                    have c10b1 : (a0 != 405) = true := bne_iff_ne.mpr c10
                    by_cases c11 : a0 = 410
                    · rw [if_pos c11] at H
                      have c11b0 : (a0 == 410) = true := beq_iff_eq.mpr c11
                      have c11b1 : (a0 != 410) = false := bne_eq_false_iff_eq.mpr c11
                      clear c11
                      obtain rfl := Option.some.inj H
                      go_enter Try.func15, Try.ntmps15
                      go_wp2
                      go_ret
                      exact ⟨by first | rfl | (simp; done) | exact ret_ne _ | (simp [*]; done), by repeat (first | exact Drawn0.refl _ | apply Drawn0.step)⟩
                    · rw [if_neg c11] at H
                      have c11b0 : (a0 == 410) = false := beq_eq_false_iff_ne.mpr c11
                      have c11b1 : (a0 != 410) = true := bne_iff_ne.mpr c11
                      by_cases c12 : a0 = 414
                      · rw [if_pos c12] at H
                        have c12b0 : (a0 == 414) = true := beq_iff_eq.mpr c12
                        have c12b1 : (a0 != 414) = false := bne_eq_false_iff_eq.mpr c12
                        clear c12
                        obtain rfl := Option.some.inj H
                        go_enter Try.func15, Try.ntmps15
                        go_wp2
                        go_ret
                        exact ⟨by first | rfl | (simp; done) | exact ret_ne _ | (simp [*]; done), by repeat (first | exact Drawn0.refl _ | apply Drawn0.step)⟩
                      · rw [if_neg c12] at H
                        have c12b0 : (a0 == 414) = false := beq_eq_false_iff_ne.mpr c12
                        have c12b1 : (a0 != 414) = true := bne_iff_ne.mpr c12
                        by_cases c13 : a0 = 501
                        · rw [if_pos c13] at H
                          have c13b0 : (a0 == 501) = true := beq_iff_eq.mpr c13
                          have c13b1 : (a0 != 501) = false := bne_eq_false_iff_eq.mpr c13
                          clear c13
                          obtain rfl := Option.some.inj H
                          go_enter Try.func15, Try.ntmps15
                          go_wp2
                          go_ret
                          exact ⟨by first | rfl | (simp; done) | exact ret_ne _ | (simp [*]; done), by repeat (first | exact Drawn0.refl _ | apply Drawn0.step)⟩
                        · rw [if_neg c13] at H
                          have c13b0 : (a0 == 501) = false := beq_eq_false_iff_ne.mpr c13
                          have c13b1 : (a0 != 501) = true := bne_iff_ne.mpr c13
                          obtain rfl := Option.some.inj H
                          go_enter Try.func15, Try.ntmps15
                          go_wp2
                          go_ret
                          exact ⟨by first | rfl | (simp; done) | exact ret_ne _ | (simp [*]; done), by repeat (first | exact Drawn0.refl _ | apply Drawn0.step)⟩

end Go.Proofs.Ytebjbkbjmdnblaa.Hp
