/- Soundness, by induction on a run. -/
import Derived.Test.YtfihnnebffkbfaaDoorVmDraw
namespace Go.Vm
set_option linter.unusedVariables false
set_option linter.unusedSimpArgs false

section
variable {P : Program} {w0 : World}

theorem compF_spec {f : FuncId} {fc : FnC} (hc : compF P f = some fc) :
    ∃ fn c, P.funcs[f]? = some fn ∧ fn.body = some c ∧ isFn P f = true ∧ fc.ntmps = fn.ntmps ∧ ressC P fn.ntmps fn.results.toList = some fc.results ∧ codeC P fn.ntmps c = some fc.body := by
  unfold compF at hc
  split at hc <;> first | (cases hc; done) | skip
  rename_i fn hfn
  split at hc <;> first | (cases hc; done) | skip
  rename_i hname
  split at hc <;> first | (cases hc; done) | skip
  rename_i c hb
  split at hc <;> first | (cases hc; done) | skip
  rename_i rs b e1 e2
  injection hc with hc; subst hc
  refine ⟨fn, c, hfn, hb, ?_, rfl, e1, e2⟩
  unfold isFn
  simp only [hfn, hb, Option.isSome_some, Bool.true_and]
  simpa using hname

theorem sound {F : FuncId → Option FnC} {L : FuncId → List V → V → Prop} (hm : P.follows .mixedOrders = true) (hF : ∀ f fn, F f = some fn → compF P f = some fn)
    (hL : ∀ f args v, L f args v → isFn P f = true ∧ ∀ h, CallGood P w0 f args h v h) (hS : SortAt P w0 L) : ∀ {t : Task}, Ev F L t → Good P w0 t := by
  intro t ht
  induction ht with
  | opsNil e h =>
    intro n B G w a ops os k Q hc hj hr hb he hp
    exact hp G a w hr (.refl hr.wf) he rfl
  | opsSkip hw _ ih =>
    intro n B G w a ops os k Q hc hj hr hb he hp
    obtain ⟨o, r, g, i, rfl, h1, h2, h3, h4, rfl⟩ := opsC_cons hc
    have hk : ops[k]? = some o := by rw [← Nat.add_zero k, ← hj 0]; rfl
    rw [List.length_cons, wp_one hk, wanted_eq h2 he, hw]
    exact ih n B G w _ ops r (k + 1) Q h1 (fun j => by rw [Nat.add_assoc, Nat.add_comm 1 j, ← hj (j + 1)]; rfl) hr hb (rv_put (ds := a.defers) he h4 rv_undef) (by rw [put_defers]; exact hp)
  | opsIns hw hs _ ih =>
    intro n B G w a ops os k Q hc hj hr hb he hp
    obtain ⟨o, r, g, i, rfl, h1, h2, h3, h4, rfl⟩ := opsC_cons hc
    have hk : ops[k]? = some o := by rw [← Nat.add_zero k, ← hj 0]; rfl
    rw [List.length_cons, wp_one hk, wanted_eq h2 he, hw]
    refine .inl (wp_ins h3 h4 hs he hr fun G' a' w' hr' hev hen hd => ?_)
    exact ih n B G' w' a' ops r (k + 1) Q h1 (fun j => by rw [Nat.add_assoc, Nat.add_comm 1 j, ← hj (j + 1)]; rfl) hr' (hb.evo hr hev) hen (hp.evo hev hd)
  | opsCall hw hs _ _ ihc ih =>
    intro n B G w a ops os k Q hc hj hr hb he hp
    obtain ⟨o, r, g, i, rfl, h1, h2, h3, h4, rfl⟩ := opsC_cons hc
    have hk : ops[k]? = some o := by rw [← Nat.add_zero k, ← hj 0]; rfl
    rw [List.length_cons, wp_one hk, wanted_eq h2 he, hw]
    refine .inl (wp_call h3 h4 hs ihc.1 ihc.2 he hr hb fun G' a' w' hr' hev hen hd => ?_)
    exact ih n B G' w' a' ops r (k + 1) Q h1 (fun j => by rw [Nat.add_assoc, Nat.add_comm 1 j, ← hj (j + 1)]; rfl) hr' (hb.evo hr hev) hen (hp.evo hev hd)
  | dopsNil e h => exact ⟨rfl, rfl⟩
  | dopsSkip hw _ ih => exact .inl ⟨hw, ih⟩
  | dopsIns hw hs hx _ ih => exact .inr (.inl ⟨hw, _, _, hs, hx, ih⟩)
  | dopsCall hw hs hx _ _ ihc ih => exact .inr (.inr ⟨hw, _, _, _, _, hs, ihc.1, hx, ihc.2, ih⟩)
  | mopsNil fl e h => exact ⟨rfl, rfl⟩
  | mopsIns hw hs hx _ ih => exact .inl ⟨hw, _, _, hs, hx, ih⟩
  | mopsCall hw hs hx _ _ ihc ih => exact .inr ⟨hw, _, _, _, _, hs, ihc.1, hx, ihc.2, ih⟩
  | skip e h =>
    intro n B G w a hr hb he
    refine ⟨fun code Q hc hp => ?_, fun cb code Q hc => by cases hc⟩
    have hq := hp G a w hr (.refl hr.wf) he rfl
    cases code <;> simp only [codeC] at hc <;> first | (cases hc; done) | skip
    · exact wp_skip hq
    · split at hc <;> first | (cases hc; done) | skip
      split at hc <;> first | (cases hc; done) | skip
      split at hc <;> first | (cases hc; done) | skip
      split at hc <;> first | (cases hc; done) | skip
    · split at hc <;> cases hc
    · split at hc <;> cases hc
    · obtain ⟨_, _, hh⟩ := map_some hc; cases hh
    · obtain ⟨_, _, hh⟩ := map_some hc; cases hh
    · exact wp_label hq
  | region _ ih =>
    intro n B G w a hr hb he
    refine ⟨fun code Q hc hp => ?_, fun cb code Q hc => by cases hc⟩
    cases code <;> simp only [codeC] at hc <;> first | (cases hc; done) | skip
    · rename_i id ops draw
      split at hc <;> first | (cases hc; done) | skip
      rename_i l hl
      cases draw with
      | true =>
        simp only [if_true] at hc
        split at hc <;> first | (cases hc; done) | (split at hc <;> cases hc)
      | false =>
        simp only [Bool.false_eq_true, if_false] at hc
        injection hc with hc
        injection hc with hc; subst hc
        refine wp_region ?_
        have hll : ∀ {os : List Oper} {l : List OpC}, opsC P ops n os = some l → l.length = os.length := by
          intro os
          induction os with
          | nil => intro l hl; simp [opsC] at hl; subst hl; rfl
          | cons o r ih =>
            intro l hl
            simp only [opsC] at hl
            split at hl <;> first | (cases hl; done) | skip
            rename_i x xs e1 e2
            injection hl with hl; subst hl
            simp [ih e2]
        have hlen := hll hl
        have := ih n B G w a ops ops.toList 0 Q hl (fun j => by simp) hr hb he hp
        rw [hlen, Array.length_toList] at this
        rw [List.range_eq_range']
        exact this
    · split at hc <;> cases hc
    · split at hc <;> cases hc
    · obtain ⟨_, _, hh⟩ := map_some hc; cases hh
    · obtain ⟨_, _, hh⟩ := map_some hc; cases hh
  | @mregion fl0 l0 m0 t0 e0 h0 e1 h1 e2 h2 e0' h0' _ _ _ ih ihm ih2 =>
    intro n B G w a hr hb he
    refine ⟨fun code Q hc hp => ?_, fun cb code Q hc => by cases hc⟩
    cases code <;> simp only [codeC] at hc <;> first | (cases hc; done) | skip
    · rename_i id ops draw
      split at hc <;> first | (cases hc; done) | skip
      rename_i l hl
      cases draw with
      | false => simp at hc
      | true =>
        simp only [if_true] at hc
        split at hc <;> first | (cases hc; done) | skip
        rename_i hok
        split at hc <;> first | (cases hc; done) | skip
        rename_i c1 fp hmid
        injection hc with hc
        injection hc with h1 h2 h3 h4
        have hcl := cutN_le (masks ops.toList []) ops.size
        have hlen := (seen_of hl).1
        have hll : (l.take (cutN (masks ops.toList []) ops.size)).length = cutN (masks ops.toList []) ops.size := by
          rw [List.length_take, hlen, Array.length_toList]; omega
        rw [← List.take_append_drop (cutN (masks ops.toList []) ops.size) l] at hl
        have hcut : ∀ j, (l.take (cutN (masks ops.toList []) ops.size)).length ≤ j → j < ops.size → (masks ops.toList []).getD j 0 = 2 ^ j - 1 := by
          rw [hll]; exact fun j h1 h2 => cutN_spec h1 h2
        rw [h3] at hl
        generalize l.take (cutN (masks ops.toList []) ops.size) = l1 at *
        have hmo : mOk (masks ops.toList []) l1 c1 fp = true ∧ c1 < l1.length := by
          simp only [midC] at hmid
          split at hmid <;> first | (cases hmid; done) | skip
          rename_i hh
          injection hmid with hmid
          injection hmid with q1 q2; subst q1; subst q2
          exact ⟨hh.2, hh.1⟩
        have hl1 : l1 = l0 ++ m0 := by rw [← h1, ← h2, List.take_append_drop]
        have hl0 : l0.length = c1 := by rw [← h1, List.length_take]; omega
        subst hl1
        subst hl0
        subst h4
        refine draw_sound2 hm hl hok hmo.1 hcut ih ihm hr hb he fun G' a' w' hr' hev hen hd => ?_
        obtain ⟨h5, h6⟩ := opsC_drop hl
        have := ih2 n B G' w' a' ops (ops.toList.drop (l0 ++ m0).length) (l0 ++ m0).length Q h5 (fun j => by rw [List.getElem?_drop, Array.getElem?_toList]) hr' (hb.evo hr hev) hen (hp.evo hev hd)
        rw [← h6, List.length_drop, Array.length_toList] at this
        exact this
    · split at hc <;> cases hc
    · split at hc <;> cases hc
    · obtain ⟨_, _, hh⟩ := map_some hc; cases hh
    · obtain ⟨_, _, hh⟩ := map_some hc; cases hh
  | @dregion l0 t0 e0 h0 e1 h1 e0' h0' _ _ ih ih2 =>
    intro n B G w a hr hb he
    refine ⟨fun code Q hc hp => ?_, fun cb code Q hc => by cases hc⟩
    cases code <;> simp only [codeC] at hc <;> first | (cases hc; done) | skip
    · rename_i id ops draw
      split at hc <;> first | (cases hc; done) | skip
      rename_i l hl
      cases draw with
      | false => simp at hc
      | true =>
        simp only [if_true] at hc
        split at hc <;> first | (cases hc; done) | skip
        rename_i hok
        split at hc <;> first | (cases hc; done) | skip
        injection hc with hc
        injection hc with h1 h2
        have hcl := cutN_le (masks ops.toList []) ops.size
        have hlen := (seen_of hl).1
        have hll : (l.take (cutN (masks ops.toList []) ops.size)).length = cutN (masks ops.toList []) ops.size := by
          rw [List.length_take, hlen, Array.length_toList]; omega
        rw [← List.take_append_drop (cutN (masks ops.toList []) ops.size) l] at hl
        have hcut : ∀ j, (l.take (cutN (masks ops.toList []) ops.size)).length ≤ j → j < ops.size → (masks ops.toList []).getD j 0 = 2 ^ j - 1 := by
          rw [hll]; exact fun j h1 h2 => cutN_spec h1 h2
        rw [h1] at hl hok hcut
        rw [h2] at hl
        refine draw_sound hm hl hok hcut ih hr hb he fun G' a' w' hr' hev hen hd => ?_
        obtain ⟨h3, h4⟩ := opsC_drop hl
        have := ih2 n B G' w' a' ops (ops.toList.drop l0.length) l0.length Q h3 (fun j => by rw [List.getElem?_drop, Array.getElem?_toList]) hr' (hb.evo hr hev) hen (hp.evo hev hd)
        rw [← h4, List.length_drop, Array.length_toList] at this
        exact this
    · split at hc <;> cases hc
    · split at hc <;> cases hc
    · obtain ⟨_, _, hh⟩ := map_some hc; cases hh
    · obtain ⟨_, _, hh⟩ := map_some hc; cases hh
  | seqN _ _ iha ihb =>
    intro n B G w a hr hb he
    refine ⟨fun code Q hc hp => ?_, fun cb code Q hc => by cases hc⟩
    cases code <;> simp only [codeC] at hc <;> first | (cases hc; done) | skip
    · split at hc <;> first | (cases hc; done) | skip
      split at hc <;> first | (cases hc; done) | skip
      split at hc <;> first | (cases hc; done) | skip
      split at hc <;> first | (cases hc; done) | skip
    · rename_i x y
      split at hc <;> first | (cases hc; done) | skip
      rename_i c1 c2 e1 e2
      injection hc with hc
      injection hc with h1 h2; subst h1; subst h2
      refine wp_seq ((iha n B G w a hr hb he).1 x _ e1 fun G' a' w' hr' hev hen hd => ?_)
      exact (ihb n B G' w' a' hr' (hb.evo hr hev) hen).1 y Q e2 (hp.evo hev hd)
    · split at hc <;> cases hc
    · obtain ⟨_, _, hh⟩ := map_some hc; cases hh
    · obtain ⟨_, _, hh⟩ := map_some hc; cases hh
  | @seqX a0 b0 e0 h0 x0 e0' h0' _ hx iha =>
    intro n B G w a hr hb he
    refine ⟨fun code Q hc hp => ?_, fun cb code Q hc => by cases hc⟩
    cases code <;> simp only [codeC] at hc <;> first | (cases hc; done) | skip
    · split at hc <;> first | (cases hc; done) | skip
      split at hc <;> first | (cases hc; done) | skip
      split at hc <;> first | (cases hc; done) | skip
      split at hc <;> first | (cases hc; done) | skip
    · rename_i x y
      split at hc <;> first | (cases hc; done) | skip
      rename_i c1 c2 e1 e2
      injection hc with hc
      injection hc with h1 h2; subst h1; subst h2
      refine wp_seq ((iha n B G w a hr hb he).1 x _ e1 fun G' a' w' hr' hev hen hd => ?_)
      have := hp G' a' w' hr' hev hen hd
      cases x0 with
      | norm => exact absurd rfl hx
      | exit id => exact this
      | ret => exact this
    · split at hc <;> cases hc
    · obtain ⟨_, _, hh⟩ := map_some hc; cases hh
    · obtain ⟨_, _, hh⟩ := map_some hc; cases hh
  | @cond g0 a0 b0 e0 h0 t0 x0 e0' h0' hg _ ih =>
    intro n B G w a hr hb he
    refine ⟨fun code Q hc hp => ?_, fun cb code Q hc => by cases hc⟩
    cases code <;> simp only [codeC] at hc <;> first | (cases hc; done) | skip
    · split at hc <;> first | (cases hc; done) | skip
      split at hc <;> first | (cases hc; done) | skip
      split at hc <;> first | (cases hc; done) | skip
      split at hc <;> first | (cases hc; done) | skip
    · split at hc <;> cases hc
    · rename_i cc x y
      split at hc <;> first | (cases hc; done) | skip
      rename_i gc c1 c2 e0 e1 e2
      injection hc with hc
      injection hc with h0 h1 h2; subst h0; subst h1; subst h2
      have r := argC_rv he e0
      rw [hg] at r
      have hev : a.eval cc = .bool t0 := by
        generalize a.eval cc = q at r
        cases r; rfl
      refine wp_cond hev ?_
      cases t0
      · exact (ih n B G w a hr hb he).1 y Q e2 hp
      · exact (ih n B G w a hr hb he).1 x Q e1 hp
    · obtain ⟨_, _, hh⟩ := map_some hc; cases hh
    · obtain ⟨_, _, hh⟩ := map_some hc; cases hh
  | @block id0 c0 e0 h0 x0 e0' h0' _ ih =>
    intro n B G w a hr hb he
    refine ⟨fun code Q hc hp => ?_, fun cb code Q hc => by cases hc⟩
    cases code <;> simp only [codeC] at hc <;> first | (cases hc; done) | skip
    · split at hc <;> first | (cases hc; done) | skip
      split at hc <;> first | (cases hc; done) | skip
      split at hc <;> first | (cases hc; done) | skip
      split at hc <;> first | (cases hc; done) | skip
    · split at hc <;> cases hc
    · split at hc <;> cases hc
    · rename_i id x
      obtain ⟨c1, e1, hh⟩ := map_some hc
      injection hh with h1 h2; subst h1; subst h2
      refine wp_block ((ih n B G w a hr hb he).1 x _ e1 fun G' a' w' hr' hev hen hd => ?_)
      have := hp G' a' w' hr' hev hen hd
      cases x0 with
      | norm => exact this
      | ret => exact this
      | exit j =>
        simp only [X.out, X.real, Exit.inBlock] at this ⊢
        split <;> rename_i hj
        · rw [if_pos hj] at this; exact this
        · rw [if_neg hj] at this; exact this
    · obtain ⟨_, _, hh⟩ := map_some hc; cases hh
  | @loopN c0 e0 h0 e1 h1 x0 e0' h0' _ _ ihb ihn =>
    intro n B G w a hr hb he
    have main : ∀ cb code Q, C.loop c0 = .loop cb → codeC P n code = some cb → Post B G h0 w a.defers n e0' h0' (Q x0.real) → LoopWp P code Q a w := by
      rintro cb code Q hcb hc hp
      injection hcb with hcb; subst hcb
      refine loop_round ((ihb n B G w a hr hb he).1 code _ hc fun G' a' w' hr' hev hen hd => ?_)
      exact (ihn n B G' w' a' hr' (hb.evo hr hev) hen).2 _ code Q rfl hc (hp.evo hev hd)
    refine ⟨fun code Q hc hp => ?_, main⟩
    cases code <;> simp only [codeC] at hc <;> first | (cases hc; done) | skip
    · split at hc <;> first | (cases hc; done) | skip
      split at hc <;> first | (cases hc; done) | skip
      split at hc <;> first | (cases hc; done) | skip
      split at hc <;> first | (cases hc; done) | skip
    · split at hc <;> cases hc
    · split at hc <;> cases hc
    · obtain ⟨_, _, hh⟩ := map_some hc; cases hh
    · rename_i x
      obtain ⟨c1, e1, hh⟩ := map_some hc
      injection hh with h1; subst h1
      exact loop_of (main _ x Q rfl e1 hp)
  | @loopX c0 e0 h0 x0 e0' h0' _ hx ihb =>
    intro n B G w a hr hb he
    have main : ∀ cb code Q, C.loop c0 = .loop cb → codeC P n code = some cb → Post B G h0 w a.defers n e0' h0' (Q x0.real) → LoopWp P code Q a w := by
      rintro cb code Q hcb hc hp
      injection hcb with hcb; subst hcb
      refine loop_round ((ihb n B G w a hr hb he).1 code _ hc fun G' a' w' hr' hev hen hd => ?_)
      have := hp G' a' w' hr' hev hen hd
      cases x0 with
      | norm => exact absurd rfl hx
      | exit id => exact this
      | ret => exact this
    refine ⟨fun code Q hc hp => ?_, main⟩
    cases code <;> simp only [codeC] at hc <;> first | (cases hc; done) | skip
    · split at hc <;> first | (cases hc; done) | skip
      split at hc <;> first | (cases hc; done) | skip
      split at hc <;> first | (cases hc; done) | skip
      split at hc <;> first | (cases hc; done) | skip
    · split at hc <;> cases hc
    · split at hc <;> cases hc
    · obtain ⟨_, _, hh⟩ := map_some hc; cases hh
    · rename_i x
      obtain ⟨c1, e1, hh⟩ := map_some hc
      injection hh with h1; subst h1
      exact loop_of (main _ x Q rfl e1 hp)
  | exit id e h =>
    intro n B G w a hr hb he
    refine ⟨fun code Q hc hp => ?_, fun cb code Q hc => by cases hc⟩
    have hq := hp G a w hr (.refl hr.wf) he rfl
    cases code <;> simp only [codeC] at hc <;> first | (cases hc; done) | skip
    · split at hc <;> first | (cases hc; done) | skip
      split at hc <;> first | (cases hc; done) | skip
      split at hc <;> first | (cases hc; done) | skip
      split at hc <;> first | (cases hc; done) | skip
    · split at hc <;> cases hc
    · split at hc <;> cases hc
    · obtain ⟨_, _, hh⟩ := map_some hc; cases hh
    · obtain ⟨_, _, hh⟩ := map_some hc; cases hh
    · injection hc with hc
      injection hc with hc; subst hc
      exact wp_exit hq
  | ret e h =>
    intro n B G w a hr hb he
    refine ⟨fun code Q hc hp => ?_, fun cb code Q hc => by cases hc⟩
    have hq := hp G a w hr (.refl hr.wf) he rfl
    cases code <;> simp only [codeC] at hc <;> first | (cases hc; done) | skip
    · split at hc <;> first | (cases hc; done) | skip
      split at hc <;> first | (cases hc; done) | skip
      split at hc <;> first | (cases hc; done) | skip
      split at hc <;> first | (cases hc; done) | skip
    · split at hc <;> cases hc
    · split at hc <;> cases hc
    · obtain ⟨_, _, hh⟩ := map_some hc; cases hh
    · obtain ⟨_, _, hh⟩ := map_some hc; cases hh
    · exact wp_ret hq
  | call hf ha _ hx hres ih =>
    obtain ⟨fn, c, h1, h2, h3, h4, h5, h6⟩ := compF_spec (hF _ _ hf)
    refine ⟨h3, fun B G w vs hr hb hv => ?_⟩
    refine calls_of_wp h1 h2 ?_
    have hen := enter_rel (m := fn.ntmps) hv (by rw [← h4]; exact ha)
    refine (ih fn.ntmps B G w { tmps := vs.toArray ++ Array.replicate (fn.ntmps - vs.toArray.size) undef, defers := [] } hr hb hen).1 c _ h6 fun G' a' w' hr' hev hen' hd => ?_
    obtain ⟨u, hu, hru⟩ := results_run hen' hr' h5 hres
    rcases hx with rfl | rfl
    · exact ⟨hd, u, hu, G', u, rfl, hru, hr', hev⟩
    · exact ⟨hd, u, hu, G', u, rfl, hru, hr', hev⟩
  | lib hl => exact ⟨(hL _ _ _ hl).1, (hL _ _ _ hl).2 _⟩
  | libS hl hh hn => exact ⟨(hS _ hl).1, (hS _ hl).2 _ _ _ hh hn⟩

end
end Go.Vm
