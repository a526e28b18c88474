/- Several texts in one: VmMain, VmWp, VmRow, VmPu, VmHo, VmSet. -/
import Derived.Test.YtaahialaegfjgaaDoorPk1
section
namespace Go.Vm
set_option linter.unusedVariables false
set_option linter.unusedSimpArgs false
section
variable {P : Program} {w0 : World}
theorem compF_spec {f : FuncId} {fc : FnC} (hc : compF P f = some fc) :
    ∃ fn c, P.funcs[f]? = some fn ∧ fn.body = some c ∧ isFn P f = true ∧ fc.ntmps = fn.ntmps ∧ ressC P fn.ntmps fn.results.toList = some fc.results ∧ codeC P fn.ntmps c = some fc.body := by
  unfold compF at hc
  split at hc <;> first | (cases hc; done) | skip
  rename_i fn hfn
  split at hc <;> first | (cases hc; done) | skip
  rename_i hname
  split at hc <;> first | (cases hc; done) | skip
  rename_i c hb
  split at hc <;> first | (cases hc; done) | skip
  rename_i rs b e1 e2
  injection hc with hc; subst hc
  refine ⟨fn, c, hfn, hb, ?_, rfl, e1, e2⟩
  unfold isFn
  simp only [hfn, hb, Option.isSome_some, Bool.true_and]
  simpa using hname
theorem sound {F : FuncId → Option FnC} {L : FuncId → List V → V → Prop} (hm : P.follows .mixedOrders = true) (hF : ∀ f fn, F f = some fn → compF P f = some fn)
    (hL : ∀ f args v, L f args v → isFn P f = true ∧ ∀ h, CallGood P w0 f args h v h) (hS : SortAt P w0 L) : ∀ {t : Task}, Ev F L t → Good P w0 t := by
  intro t ht
  induction ht with
  | opsNil e h =>
    intro n B G w a ops os k Q hc hj hr hb he hp
    exact hp G a w hr (.refl hr.wf) he rfl
  | opsSkip hw _ ih =>
    intro n B G w a ops os k Q hc hj hr hb he hp
    obtain ⟨o, r, g, i, rfl, h1, h2, h3, h4, rfl⟩ := opsC_cons hc
    have hk : ops[k]? = some o := by rw [← Nat.add_zero k, ← hj 0]; rfl
    rw [List.length_cons, wp_one hk, wanted_eq h2 he, hw]
    exact ih n B G w _ ops r (k + 1) Q h1 (fun j => by rw [Nat.add_assoc, Nat.add_comm 1 j, ← hj (j + 1)]; rfl) hr hb (rv_put (ds := a.defers) he h4 rv_undef) (by rw [put_defers]; exact hp)
  | opsIns hw hs _ ih =>
    intro n B G w a ops os k Q hc hj hr hb he hp
    obtain ⟨o, r, g, i, rfl, h1, h2, h3, h4, rfl⟩ := opsC_cons hc
    have hk : ops[k]? = some o := by rw [← Nat.add_zero k, ← hj 0]; rfl
    rw [List.length_cons, wp_one hk, wanted_eq h2 he, hw]
    refine .inl (wp_ins h3 h4 hs he hr fun G' a' w' hr' hev hen hd => ?_)
    exact ih n B G' w' a' ops r (k + 1) Q h1 (fun j => by rw [Nat.add_assoc, Nat.add_comm 1 j, ← hj (j + 1)]; rfl) hr' (hb.evo hr hev) hen (hp.evo hev hd)
  | opsCall hw hs _ _ ihc ih =>
    intro n B G w a ops os k Q hc hj hr hb he hp
    obtain ⟨o, r, g, i, rfl, h1, h2, h3, h4, rfl⟩ := opsC_cons hc
    have hk : ops[k]? = some o := by rw [← Nat.add_zero k, ← hj 0]; rfl
    rw [List.length_cons, wp_one hk, wanted_eq h2 he, hw]
    refine .inl (wp_call h3 h4 hs ihc.1 ihc.2 he hr hb fun G' a' w' hr' hev hen hd => ?_)
    exact ih n B G' w' a' ops r (k + 1) Q h1 (fun j => by rw [Nat.add_assoc, Nat.add_comm 1 j, ← hj (j + 1)]; rfl) hr' (hb.evo hr hev) hen (hp.evo hev hd)
  | dopsNil e h => exact ⟨rfl, rfl⟩
  | dopsSkip hw _ ih => exact .inl ⟨hw, ih⟩
  | dopsIns hw hs hx _ ih => exact .inr (.inl ⟨hw, _, _, hs, hx, ih⟩)
  | dopsCall hw hs hx _ _ ihc ih => exact .inr (.inr ⟨hw, _, _, _, _, hs, ihc.1, hx, ihc.2, ih⟩)
  | mopsNil fl e h => exact ⟨rfl, rfl⟩
  | mopsIns hw hs hx _ ih => exact .inl ⟨hw, _, _, hs, hx, ih⟩
  | mopsCall hw hs hx _ _ ihc ih => exact .inr ⟨hw, _, _, _, _, hs, ihc.1, hx, ihc.2, ih⟩
  | skip e h =>
    intro n B G w a hr hb he
    refine ⟨fun code Q hc hp => ?_, fun cb code Q hc => by cases hc⟩
    have hq := hp G a w hr (.refl hr.wf) he rfl
    cases code <;> simp only [codeC] at hc <;> first | (cases hc; done) | skip
    · exact wp_skip hq
    · split at hc <;> first | (cases hc; done) | skip
      split at hc <;> first | (cases hc; done) | skip
      split at hc <;> first | (cases hc; done) | skip
      split at hc <;> first | (cases hc; done) | skip
    · split at hc <;> cases hc
    · split at hc <;> cases hc
    · obtain ⟨_, _, hh⟩ := map_some hc; cases hh
    · obtain ⟨_, _, hh⟩ := map_some hc; cases hh
    · exact wp_label hq
  | region _ ih =>
    intro n B G w a hr hb he
    refine ⟨fun code Q hc hp => ?_, fun cb code Q hc => by cases hc⟩
    cases code <;> simp only [codeC] at hc <;> first | (cases hc; done) | skip
    · rename_i id ops draw
      split at hc <;> first | (cases hc; done) | skip
      rename_i l hl
      cases draw with
      | true =>
        simp only [if_true] at hc
        split at hc <;> first | (cases hc; done) | (split at hc <;> cases hc)
      | false =>
        simp only [Bool.false_eq_true, if_false] at hc
        injection hc with hc
        injection hc with hc; subst hc
        refine wp_region ?_
        have hll : ∀ {os : List Oper} {l : List OpC}, opsC P ops n os = some l → l.length = os.length := by
          intro os
          induction os with
          | nil => intro l hl; simp [opsC] at hl; subst hl; rfl
          | cons o r ih =>
            intro l hl
            simp only [opsC] at hl
            split at hl <;> first | (cases hl; done) | skip
            rename_i x xs e1 e2
            injection hl with hl; subst hl
            simp [ih e2]
        have hlen := hll hl
        have := ih n B G w a ops ops.toList 0 Q hl (fun j => by simp) hr hb he hp
        rw [hlen, Array.length_toList] at this
        rw [List.range_eq_range']
        exact this
    · split at hc <;> cases hc
    · split at hc <;> cases hc
    · obtain ⟨_, _, hh⟩ := map_some hc; cases hh
    · obtain ⟨_, _, hh⟩ := map_some hc; cases hh
  | @mregion fl0 l0 m0 t0 e0 h0 e1 h1 e2 h2 e0' h0' _ _ _ ih ihm ih2 =>
    intro n B G w a hr hb he
    refine ⟨fun code Q hc hp => ?_, fun cb code Q hc => by cases hc⟩
    cases code <;> simp only [codeC] at hc <;> first | (cases hc; done) | skip
    · rename_i id ops draw
      split at hc <;> first | (cases hc; done) | skip
      rename_i l hl
      cases draw with
      | false => simp at hc
      | true =>
        simp only [if_true] at hc
        split at hc <;> first | (cases hc; done) | skip
        rename_i hok
        split at hc <;> first | (cases hc; done) | skip
        rename_i c1 fp hmid
        injection hc with hc
        injection hc with h1 h2 h3 h4
        have hcl := cutN_le (masks ops.toList []) ops.size
        have hlen := (seen_of hl).1
        have hll : (l.take (cutN (masks ops.toList []) ops.size)).length = cutN (masks ops.toList []) ops.size := by
          rw [List.length_take, hlen, Array.length_toList]; omega
        rw [← List.take_append_drop (cutN (masks ops.toList []) ops.size) l] at hl
        have hcut : ∀ j, (l.take (cutN (masks ops.toList []) ops.size)).length ≤ j → j < ops.size → (masks ops.toList []).getD j 0 = 2 ^ j - 1 := by
          rw [hll]; exact fun j h1 h2 => cutN_spec h1 h2
        rw [h3] at hl
        generalize l.take (cutN (masks ops.toList []) ops.size) = l1 at *
        obtain ⟨hcl1, fb, hfb, hmo⟩ := midC_spec hmid
        have hl1 : l1 = l0 ++ m0 := by rw [← h1, ← h2, List.take_append_drop]
        have hl0 : l0.length = c1 := by rw [← h1, List.length_take]; omega
        subst hl1
        subst hl0
        subst h4
        refine draw_sound2 hm hl hok hmo hfb hcut ih ihm hr hb he fun G' a' w' hr' hev hen hd => ?_
        obtain ⟨h5, h6⟩ := opsC_drop hl
        have := ih2 n B G' w' a' ops (ops.toList.drop (l0 ++ m0).length) (l0 ++ m0).length Q h5 (fun j => by rw [List.getElem?_drop, Array.getElem?_toList]) hr' (hb.evo hr hev) hen (hp.evo hev hd)
        rw [← h6, List.length_drop, Array.length_toList] at this
        exact this
    · split at hc <;> cases hc
    · split at hc <;> cases hc
    · obtain ⟨_, _, hh⟩ := map_some hc; cases hh
    · obtain ⟨_, _, hh⟩ := map_some hc; cases hh
  | @dregion l0 t0 e0 h0 e1 h1 e0' h0' _ _ ih ih2 =>
    intro n B G w a hr hb he
    refine ⟨fun code Q hc hp => ?_, fun cb code Q hc => by cases hc⟩
    cases code <;> simp only [codeC] at hc <;> first | (cases hc; done) | skip
    · rename_i id ops draw
      split at hc <;> first | (cases hc; done) | skip
      rename_i l hl
      cases draw with
      | false => simp at hc
      | true =>
        simp only [if_true] at hc
        split at hc <;> first | (cases hc; done) | skip
        rename_i hok
        split at hc <;> first | (cases hc; done) | skip
        injection hc with hc
        injection hc with h1 h2
        have hcl := cutN_le (masks ops.toList []) ops.size
        have hlen := (seen_of hl).1
        have hll : (l.take (cutN (masks ops.toList []) ops.size)).length = cutN (masks ops.toList []) ops.size := by
          rw [List.length_take, hlen, Array.length_toList]; omega
        rw [← List.take_append_drop (cutN (masks ops.toList []) ops.size) l] at hl
        have hcut : ∀ j, (l.take (cutN (masks ops.toList []) ops.size)).length ≤ j → j < ops.size → (masks ops.toList []).getD j 0 = 2 ^ j - 1 := by
          rw [hll]; exact fun j h1 h2 => cutN_spec h1 h2
        rw [h1] at hl hok hcut
        rw [h2] at hl
        refine draw_sound hm hl hok hcut ih hr hb he fun G' a' w' hr' hev hen hd => ?_
        obtain ⟨h3, h4⟩ := opsC_drop hl
        have := ih2 n B G' w' a' ops (ops.toList.drop l0.length) l0.length Q h3 (fun j => by rw [List.getElem?_drop, Array.getElem?_toList]) hr' (hb.evo hr hev) hen (hp.evo hev hd)
        rw [← h4, List.length_drop, Array.length_toList] at this
        exact this
    · split at hc <;> cases hc
    · split at hc <;> cases hc
    · obtain ⟨_, _, hh⟩ := map_some hc; cases hh
    · obtain ⟨_, _, hh⟩ := map_some hc; cases hh
  | seqN _ _ iha ihb =>
    intro n B G w a hr hb he
    refine ⟨fun code Q hc hp => ?_, fun cb code Q hc => by cases hc⟩
    cases code <;> simp only [codeC] at hc <;> first | (cases hc; done) | skip
    · split at hc <;> first | (cases hc; done) | skip
      split at hc <;> first | (cases hc; done) | skip
      split at hc <;> first | (cases hc; done) | skip
      split at hc <;> first | (cases hc; done) | skip
    · rename_i x y
      split at hc <;> first | (cases hc; done) | skip
      rename_i c1 c2 e1 e2
      injection hc with hc
      injection hc with h1 h2; subst h1; subst h2
      refine wp_seq ((iha n B G w a hr hb he).1 x _ e1 fun G' a' w' hr' hev hen hd => ?_)
      exact (ihb n B G' w' a' hr' (hb.evo hr hev) hen).1 y Q e2 (hp.evo hev hd)
    · split at hc <;> cases hc
    · obtain ⟨_, _, hh⟩ := map_some hc; cases hh
    · obtain ⟨_, _, hh⟩ := map_some hc; cases hh
  | @seqX a0 b0 e0 h0 x0 e0' h0' _ hx iha =>
    intro n B G w a hr hb he
    refine ⟨fun code Q hc hp => ?_, fun cb code Q hc => by cases hc⟩
    cases code <;> simp only [codeC] at hc <;> first | (cases hc; done) | skip
    · split at hc <;> first | (cases hc; done) | skip
      split at hc <;> first | (cases hc; done) | skip
      split at hc <;> first | (cases hc; done) | skip
      split at hc <;> first | (cases hc; done) | skip
    · rename_i x y
      split at hc <;> first | (cases hc; done) | skip
      rename_i c1 c2 e1 e2
      injection hc with hc
      injection hc with h1 h2; subst h1; subst h2
      refine wp_seq ((iha n B G w a hr hb he).1 x _ e1 fun G' a' w' hr' hev hen hd => ?_)
      have := hp G' a' w' hr' hev hen hd
      cases x0 with
      | norm => exact absurd rfl hx
      | exit id => exact this
      | ret => exact this
    · split at hc <;> cases hc
    · obtain ⟨_, _, hh⟩ := map_some hc; cases hh
    · obtain ⟨_, _, hh⟩ := map_some hc; cases hh
  | @cond g0 a0 b0 e0 h0 t0 x0 e0' h0' hg _ ih =>
    intro n B G w a hr hb he
    refine ⟨fun code Q hc hp => ?_, fun cb code Q hc => by cases hc⟩
    cases code <;> simp only [codeC] at hc <;> first | (cases hc; done) | skip
    · split at hc <;> first | (cases hc; done) | skip
      split at hc <;> first | (cases hc; done) | skip
      split at hc <;> first | (cases hc; done) | skip
      split at hc <;> first | (cases hc; done) | skip
    · split at hc <;> cases hc
    · rename_i cc x y
      split at hc <;> first | (cases hc; done) | skip
      rename_i gc c1 c2 e0 e1 e2
      injection hc with hc
      injection hc with h0 h1 h2; subst h0; subst h1; subst h2
      have r := argC_rv he e0
      rw [hg] at r
      have hev : a.eval cc = .bool t0 := by
        generalize a.eval cc = q at r
        cases r; rfl
      refine wp_cond hev ?_
      cases t0
      · exact (ih n B G w a hr hb he).1 y Q e2 hp
      · exact (ih n B G w a hr hb he).1 x Q e1 hp
    · obtain ⟨_, _, hh⟩ := map_some hc; cases hh
    · obtain ⟨_, _, hh⟩ := map_some hc; cases hh
  | @block id0 c0 e0 h0 x0 e0' h0' _ ih =>
    intro n B G w a hr hb he
    refine ⟨fun code Q hc hp => ?_, fun cb code Q hc => by cases hc⟩
    cases code <;> simp only [codeC] at hc <;> first | (cases hc; done) | skip
    · split at hc <;> first | (cases hc; done) | skip
      split at hc <;> first | (cases hc; done) | skip
      split at hc <;> first | (cases hc; done) | skip
      split at hc <;> first | (cases hc; done) | skip
    · split at hc <;> cases hc
    · split at hc <;> cases hc
    · rename_i id x
      obtain ⟨c1, e1, hh⟩ := map_some hc
      injection hh with h1 h2; subst h1; subst h2
      refine wp_block ((ih n B G w a hr hb he).1 x _ e1 fun G' a' w' hr' hev hen hd => ?_)
      have := hp G' a' w' hr' hev hen hd
      cases x0 with
      | norm => exact this
      | ret => exact this
      | exit j =>
        simp only [X.out, X.real, Exit.inBlock] at this ⊢
        split <;> rename_i hj
        · rw [if_pos hj] at this; exact this
        · rw [if_neg hj] at this; exact this
    · obtain ⟨_, _, hh⟩ := map_some hc; cases hh
  | @loopN c0 e0 h0 e1 h1 x0 e0' h0' _ _ ihb ihn =>
    intro n B G w a hr hb he
    have main : ∀ cb code Q, C.loop c0 = .loop cb → codeC P n code = some cb → Post B G h0 w a.defers n e0' h0' (Q x0.real) → LoopWp P code Q a w := by
      rintro cb code Q hcb hc hp
      injection hcb with hcb; subst hcb
      refine loop_round ((ihb n B G w a hr hb he).1 code _ hc fun G' a' w' hr' hev hen hd => ?_)
      exact (ihn n B G' w' a' hr' (hb.evo hr hev) hen).2 _ code Q rfl hc (hp.evo hev hd)
    refine ⟨fun code Q hc hp => ?_, main⟩
    cases code <;> simp only [codeC] at hc <;> first | (cases hc; done) | skip
    · split at hc <;> first | (cases hc; done) | skip
      split at hc <;> first | (cases hc; done) | skip
      split at hc <;> first | (cases hc; done) | skip
      split at hc <;> first | (cases hc; done) | skip
    · split at hc <;> cases hc
    · split at hc <;> cases hc
    · obtain ⟨_, _, hh⟩ := map_some hc; cases hh
    · rename_i x
      obtain ⟨c1, e1, hh⟩ := map_some hc
      injection hh with h1; subst h1
      exact loop_of (main _ x Q rfl e1 hp)
  | @loopX c0 e0 h0 x0 e0' h0' _ hx ihb =>
    intro n B G w a hr hb he
    have main : ∀ cb code Q, C.loop c0 = .loop cb → codeC P n code = some cb → Post B G h0 w a.defers n e0' h0' (Q x0.real) → LoopWp P code Q a w := by
      rintro cb code Q hcb hc hp
      injection hcb with hcb; subst hcb
      refine loop_round ((ihb n B G w a hr hb he).1 code _ hc fun G' a' w' hr' hev hen hd => ?_)
      have := hp G' a' w' hr' hev hen hd
      cases x0 with
      | norm => exact absurd rfl hx
      | exit id => exact this
      | ret => exact this
    refine ⟨fun code Q hc hp => ?_, main⟩
    cases code <;> simp only [codeC] at hc <;> first | (cases hc; done) | skip
    · split at hc <;> first | (cases hc; done) | skip
      split at hc <;> first | (cases hc; done) | skip
      split at hc <;> first | (cases hc; done) | skip
      split at hc <;> first | (cases hc; done) | skip
    · split at hc <;> cases hc
    · split at hc <;> cases hc
    · obtain ⟨_, _, hh⟩ := map_some hc; cases hh
    · rename_i x
      obtain ⟨c1, e1, hh⟩ := map_some hc
      injection hh with h1; subst h1
      exact loop_of (main _ x Q rfl e1 hp)
  | exit id e h =>
    intro n B G w a hr hb he
    refine ⟨fun code Q hc hp => ?_, fun cb code Q hc => by cases hc⟩
    have hq := hp G a w hr (.refl hr.wf) he rfl
    cases code <;> simp only [codeC] at hc <;> first | (cases hc; done) | skip
    · split at hc <;> first | (cases hc; done) | skip
      split at hc <;> first | (cases hc; done) | skip
      split at hc <;> first | (cases hc; done) | skip
      split at hc <;> first | (cases hc; done) | skip
    · split at hc <;> cases hc
    · split at hc <;> cases hc
    · obtain ⟨_, _, hh⟩ := map_some hc; cases hh
    · obtain ⟨_, _, hh⟩ := map_some hc; cases hh
    · injection hc with hc
      injection hc with hc; subst hc
      exact wp_exit hq
  | ret e h =>
    intro n B G w a hr hb he
    refine ⟨fun code Q hc hp => ?_, fun cb code Q hc => by cases hc⟩
    have hq := hp G a w hr (.refl hr.wf) he rfl
    cases code <;> simp only [codeC] at hc <;> first | (cases hc; done) | skip
    · split at hc <;> first | (cases hc; done) | skip
      split at hc <;> first | (cases hc; done) | skip
      split at hc <;> first | (cases hc; done) | skip
      split at hc <;> first | (cases hc; done) | skip
    · split at hc <;> cases hc
    · split at hc <;> cases hc
    · obtain ⟨_, _, hh⟩ := map_some hc; cases hh
    · obtain ⟨_, _, hh⟩ := map_some hc; cases hh
    · exact wp_ret hq
  | call hf ha _ hx hres ih =>
    obtain ⟨fn, c, h1, h2, h3, h4, h5, h6⟩ := compF_spec (hF _ _ hf)
    refine ⟨h3, fun B G w vs hr hb hv => ?_⟩
    refine calls_of_wp h1 h2 ?_
    have hen := enter_rel (m := fn.ntmps) hv (by rw [← h4]; exact ha)
    refine (ih fn.ntmps B G w { tmps := vs.toArray ++ Array.replicate (fn.ntmps - vs.toArray.size) undef, defers := [] } hr hb hen).1 c _ h6 fun G' a' w' hr' hev hen' hd => ?_
    obtain ⟨u, hu, hru⟩ := results_run hen' hr' h5 hres
    rcases hx with rfl | rfl
    · exact ⟨hd, u, hu, G', u, rfl, hru, hr', hev⟩
    · exact ⟨hd, u, hu, G', u, rfl, hru, hr', hev⟩
  | lib hl => exact ⟨(hL _ _ _ hl).1, (hL _ _ _ hl).2 _⟩
  | libS hl hh hn => exact ⟨(hS _ hl).1, (hS _ hl).2 _ _ _ hh hn⟩
end
end Go.Vm
end
section
namespace Go.Vm
set_option linter.unusedVariables false
set_option linter.unusedSimpArgs false
variable {F : FuncId → Option FnC} {L : FuncId → List V → V → Prop}
/-- A call comes to what K says. -/
def Cf (F : FuncId → Option FnC) (L : FuncId → List V → V → Prop) (f : FuncId) (args : List V) (h : Heap) (K : V → Heap → Prop) : Prop :=
  ∃ v h', Ev F L (.call f args h v h') ∧ K v h'
theorem Cf.mono {f : FuncId} {args : List V} {h : Heap} {K K' : V → Heap → Prop} (hw : Cf F L f args h K) (hk : ∀ v h', K v h' → K' v h') : Cf F L f args h K' :=
  let ⟨v, h', he, hv⟩ := hw; ⟨v, h', he, hk v h' hv⟩
/-- An instruction's outcome. -/
def wi (F : FuncId → Option FnC) (L : FuncId → List V → V → Prop) (i : Ins) (e : Env) (h : Heap) (K : V → Heap → Prop) : Prop :=
  match callI i e with
  | some (f, args) => Cf F L f args h K
  | none => match stepI i e h with
    | some (v, h') => K v h'
    | none => False
def E0 : Env := fun _ => .tup []
/-- An operation under a guard. -/
def wg (x : V) (g : Bool) (i : (V → Heap → Prop) → Prop) (h : Heap) (K : V → Heap → Prop) : Prop :=
  ((match x with | .bool c => c == g | _ => false) = true → i K) ∧ ((match x with | .bool c => c == g | _ => false) = false → K (.tup []) h)
/-- The same in a region that draws its order. -/
def wgd (x : V) (g : Bool) (i : (V → Heap → Prop) → Prop) (h : Heap) (K : V → Heap → Prop) : Prop :=
  ((match x with | .bool c => c == g | _ => false) = true → i fun v h' => Ext h h' ∧ K v h') ∧ ((match x with | .bool c => c == g | _ => false) = false → K (.tup []) h)
/-- A branch. -/
def wb (x : V) (A B : Prop) : Prop := ∃ t, x = .bool t ∧ (t = true → A) ∧ (t = false → B)
/-- An argument, its value in place of its slot. -/
def Arg.sub (e : Env) : Arg → Arg
  | .t n => .c (e n)
  | .c v => .c v
/-- An instruction, values in place of slots. -/
def Ins.sub (e : Env) : Ins → Ins
  | .mv a => .mv (a.sub e)
  | .mvs a => .mvs (a.sub e)
  | .pick c a b => .pick (c.sub e) (a.sub e) (b.sub e)
  | .boxz cs => .boxz cs
  | .box a => .box (a.sub e)
  | .build z ps => .build z (ps.map fun p => (p.1, p.2.1, p.2.2.sub e))
  | .bsl n ps => .bsl n (ps.map (·.sub e))
  | .bslb ps => .bslb (ps.map (·.sub e))
  | .mark x => .mark (x.sub e)
  | .load g s a => .load g s (a.sub e)
  | .store s a x => .store s (a.sub e) (x.sub e)
  | .nilck a => .nilck (a.sub e)
  | .bin o x y => .bin o (x.sub e) (y.sub e)
  | .eq k n x y => .eq k n (x.sub e) (y.sub e)
  | .un o x => .un o (x.sub e)
  | .toInt k x => .toInt k (x.sub e)
  | .toStr x => .toStr (x.sub e)
  | .toBytes x => .toBytes (x.sub e)
  | .mkfn f cs => .mkfn f (cs.map (·.sub e))
  | .mkmap => .mkmap
  | .lookup c z o m k => .lookup c z o (m.sub e) (k.sub e)
  | .mapset c m k v => .mapset c (m.sub e) (k.sub e) (v.sub e)
  | .mksl s b z l c => .mksl s b z (l.sub e) (c.sub e)
  | .slstr x l h => .slstr (x.sub e) (l.map (·.sub e)) (h.map (·.sub e))
  | .slsl s x l h m => .slsl s (x.sub e) (l.map (·.sub e)) (h.map (·.sub e)) (m.map (·.sub e))
  | .faddr o x => .faddr o (x.sub e)
  | .fld o s g x => .fld o s g (x.sub e)
  | .ixaSl s x i => .ixaSl s (x.sub e) (i.sub e)
  | .ixaArr n s x i => .ixaArr n s (x.sub e) (i.sub e)
  | .ixArr n s g x i => .ixArr n s g (x.sub e) (i.sub e)
  | .ixStr x i => .ixStr (x.sub e) (i.sub e)
  | .ext i x => .ext i (x.sub e)
  | .len c x => .len c (x.sub e)
  | .lenArr n => .lenArr n
  | .app s b m x y => .app s b m (x.sub e) (y.sub e)
  | .copy s d x => .copy s (d.sub e) (x.sub e)
  | .mn xs => .mn (xs.map (·.sub e))
  | .mx xs => .mx (xs.map (·.sub e))
  | .clear m => .clear (m.sub e)
  | .call f xs => .call f (xs.map (·.sub e))
  | .callv g xs => .callv (g.sub e) (xs.map (·.sub e))
theorem sub_get (e : Env) (a : Arg) : (a.sub e).get E0 = a.get e := by cases a <;> rfl
theorem sub_gets (e : Env) (xs : List Arg) : (xs.map (·.sub e)).map (·.get E0) = xs.map (·.get e) := by
  induction xs with
  | nil => rfl
  | cons x r ih => simp only [List.map_cons, sub_get, ih]
theorem sub_fill (e : Env) : ∀ (ps : List (Nat × Nat × Arg)) (cs : List V), fillC E0 cs (ps.map fun p => (p.1, p.2.1, p.2.2.sub e)) = fillC e cs ps
  | [], cs => rfl
  | (a, b, x) :: r, cs => by
    simp only [List.map_cons, fillC, sub_get]
    split
    · exact sub_fill e r _
    · rfl
theorem sub_bound (e : Env) (a : Option Arg) : boundO E0 (a.map (·.sub e)) = boundO e a := by
  cases a with
  | none => rfl
  | some a => simp only [Option.map_some, boundO, sub_get]
theorem sub_all (e : Env) (sz : Nat) (ps : List Arg) : ((ps.map (·.sub e)).all fun p => decide ((cells (p.get E0)).length = sz) && stor (p.get E0)) = (ps.all fun p => decide ((cells (p.get e)).length = sz) && stor (p.get e)) := by
  induction ps with
  | nil => rfl
  | cons x r ih => simp only [List.map_cons, List.all_cons, sub_get, ih]
theorem sub_call (e : Env) (i : Ins) : callI (i.sub e) E0 = callI i e := by
  cases i <;> simp only [Ins.sub, callI, sub_get, sub_gets]
theorem sub_step (e : Env) (h : Heap) (i : Ins) : stepI (i.sub e) E0 h = stepI i e h := by
  cases i <;> simp only [Ins.sub, stepI, sub_get, sub_gets, sub_fill, sub_bound, sub_all, List.length_map]
theorem wi_sub (e : Env) (h : Heap) (i : Ins) (K : V → Heap → Prop) : wi F L (i.sub e) E0 h K = wi F L i e h K := by
  unfold wi
  rw [sub_call, sub_step]
def wo (F : FuncId → Option FnC) (L : FuncId → List V → V → Prop) : List OpC → (Env → Heap → Prop) → Env → Heap → Prop
  | [], Q, e, h => Q e h
  | ⟨d, none, .mv a⟩ :: l, Q, e, h => wo F L l Q (put e d (a.get e)) h
  | ⟨d, none, i⟩ :: l, Q, e, h => wi F L (i.sub e) E0 h fun v h' => wo F L l Q (put e d v) h'
  | ⟨d, some (t, g), i⟩ :: l, Q, e, h => wg (e t) g (wi F L (i.sub e) E0 h) h fun v h' => wo F L l Q (put e d v) h'
def wd (F : FuncId → Option FnC) (L : FuncId → List V → V → Prop) : List OpC → (Env → Heap → Prop) → Env → Heap → Prop
  | [], Q, e, h => Q e h
  | ⟨d, none, .mv a⟩ :: l, Q, e, h => wd F L l Q (put e d (a.get e)) h
  | ⟨d, none, i⟩ :: l, Q, e, h => wi F L (i.sub e) E0 h fun v h' => Ext h h' ∧ wd F L l Q (put e d v) h'
  | ⟨d, some (t, g), i⟩ :: l, Q, e, h => wgd (e t) g (wi F L (i.sub e) E0 h) h fun v h' => wd F L l Q (put e d v) h'
/-- The writers' part of a region that draws. -/
def wm (F : FuncId → Option FnC) (L : FuncId → List V → V → Prop) (fl : List (Nat × Bool × Nat × Arg)) : List OpC → (Env → Heap → Prop) → Env → Heap → Prop
  | [], Q, e, h => Q e h
  | ⟨d, none, .mv a⟩ :: l, Q, e, h => wm F L fl l Q (put e d (a.get e)) h
  | ⟨d, none, i⟩ :: l, Q, e, h => match quiet i with
    | true => wi F L (i.sub e) E0 h fun v h' => wm F L fl l Q (put e d v) h'
    | false => wi F L (i.sub e) E0 h fun v h' => flC fl (put e d v) h' ∧ wm F L fl l Q (put e d v) h'
  | _ :: _, _, _, _ => False
/-- A loop comes to what Q says. -/
def Wl (F : FuncId → Option FnC) (L : FuncId → List V → V → Prop) (c : C) (Q : X → Env → Heap → Prop) (e : Env) (h : Heap) : Prop :=
  ∃ x e' h', Ev F L (.code (.loop c) e h x e' h') ∧ Q x e' h'
def seqX (K : Env → Heap → Prop) (Q : X → Env → Heap → Prop) : X → Env → Heap → Prop
  | .norm => K
  | x => Q x
def wc (F : FuncId → Option FnC) (L : FuncId → List V → V → Prop) : C → (X → Env → Heap → Prop) → Env → Heap → Prop
  | .skip, Q, e, h => Q .norm e h
  | .region l, Q, e, h => wo F L l (Q .norm) e h
  | .dregion l t, Q, e, h => wd F L l (wo F L t (Q .norm)) e h
  | .mregion l m t fl, Q, e, h => wd F L l (wm F L fl m (wo F L t (Q .norm))) e h
  | .seq a b, Q, e, h => wc F L a (seqX (wc F L b Q) Q) e h
  | .cond g a b, Q, e, h => wb (g.get e) (wc F L a Q e h) (wc F L b Q e h)
  | .block id c, Q, e, h => wc F L c (fun x => Q (x.out id)) e h
  | .loop c, Q, e, h => Wl F L c Q e h
  | .exit id, Q, e, h => Q (.exit id) e h
  | .ret, Q, e, h => Q .ret e h
theorem wo_parts {o : OpC} {l : List OpC} {Q : Env → Heap → Prop} {e : Env} {h : Heap} (hq : wo F L (o :: l) Q e h) :
    (o.wanted e = true → wi F L o.ins e h fun v h' => wo F L l Q (put e o.dst v) h') ∧ (o.wanted e = false → wo F L l Q (put e o.dst (.tup [])) h) := by
  obtain ⟨d, g, i⟩ := o
  cases g with
  | none =>
    refine ⟨fun _ => ?_, fun hf => by simp [OpC.wanted] at hf⟩
    cases i <;> first | exact hq | (simp only [wo, wi_sub] at hq; exact hq)
  | some p =>
    obtain ⟨t, b⟩ := p
    have hq' : wg (e t) b (wi F L (i.sub e) E0 h) h fun v h' => wo F L l Q (put e d v) h' := by cases i <;> exact hq
    unfold wg at hq'
    rw [wi_sub] at hq'
    exact hq'
theorem wd_parts {o : OpC} {l : List OpC} {Q : Env → Heap → Prop} {e : Env} {h : Heap} (hq : wd F L (o :: l) Q e h) :
    (o.wanted e = true → wi F L o.ins e h fun v h' => Ext h h' ∧ wd F L l Q (put e o.dst v) h') ∧ (o.wanted e = false → wd F L l Q (put e o.dst (.tup [])) h) := by
  obtain ⟨d, g, i⟩ := o
  cases g with
  | none =>
    refine ⟨fun _ => ?_, fun hf => by simp [OpC.wanted] at hf⟩
    cases i <;> first | (simp only [wd, wi_sub] at hq; exact hq) | (show Ext h h ∧ _; exact ⟨fun _ _ => rfl, hq⟩)
  | some p =>
    obtain ⟨t, b⟩ := p
    have hq' : wgd (e t) b (wi F L (i.sub e) E0 h) h fun v h' => wd F L l Q (put e d v) h' := by cases i <;> exact hq
    unfold wgd at hq'
    rw [wi_sub] at hq'
    exact hq'
theorem wo_sound : ∀ {l : List OpC} {Q : Env → Heap → Prop} {e : Env} {h : Heap}, wo F L l Q e h → ∃ e' h', Ev F L (.ops l e h e' h') ∧ Q e' h'
  | [], Q, e, h, hq => ⟨e, h, .opsNil e h, hq⟩
  | o :: l, Q, e, h, hq => by
    have hq := wo_parts hq
    cases hw : o.wanted e with
    | false =>
      obtain ⟨e', h', hev, hq'⟩ := wo_sound (hq.2 hw)
      exact ⟨e', h', .opsSkip hw hev, hq'⟩
    | true =>
      have h1 := hq.1 hw
      unfold wi at h1
      split at h1
      · rename_i f args hc
        obtain ⟨v, h2, hcall, hn⟩ := h1
        obtain ⟨e', h', hev, hq'⟩ := wo_sound hn
        exact ⟨e', h', .opsCall hw hc hcall hev, hq'⟩
      · split at h1
        · rename_i v h2 hs
          obtain ⟨e', h', hev, hq'⟩ := wo_sound h1
          exact ⟨e', h', .opsIns hw hs hev, hq'⟩
        · exact h1.elim
theorem wd_sound : ∀ {l : List OpC} {Q : Env → Heap → Prop} {e : Env} {h : Heap}, wd F L l Q e h → ∃ e' h', Ev F L (.dops l e h e' h') ∧ Q e' h'
  | [], Q, e, h, hq => ⟨e, h, .dopsNil e h, hq⟩
  | o :: l, Q, e, h, hq => by
    have hq := wd_parts hq
    cases hw : o.wanted e with
    | false =>
      obtain ⟨e', h', hev, hq'⟩ := wd_sound (hq.2 hw)
      exact ⟨e', h', .dopsSkip hw hev, hq'⟩
    | true =>
      have h1 := hq.1 hw
      unfold wi at h1
      split at h1
      · rename_i f args hc
        obtain ⟨v, h2, hcall, hx, hn⟩ := h1
        obtain ⟨e', h', hev, hq'⟩ := wd_sound hn
        exact ⟨e', h', .dopsCall hw hc hx hcall hev, hq'⟩
      · split at h1
        · rename_i v h2 hs
          obtain ⟨e', h', hev, hq'⟩ := wd_sound h1.2
          exact ⟨e', h', .dopsIns hw hs h1.1 hev, hq'⟩
        · exact h1.elim
theorem wi_mono {i : Ins} {e : Env} {h : Heap} {K K' : V → Heap → Prop} (hk : ∀ v h, K v h → K' v h) (hi : wi F L i e h K) : wi F L i e h K' := by
  unfold wi at hi ⊢
  split at hi
  · obtain ⟨v, h1, h2, h3⟩ := hi
    exact ⟨v, h1, h2, hk _ _ h3⟩
  · split at hi
    · exact hk _ _ hi
    · exact hi
theorem wm_parts {fl : List (Nat × Bool × Nat × Arg)} {o : OpC} {l : List OpC} {Q : Env → Heap → Prop} {e : Env} {h : Heap} (hq : wm F L fl (o :: l) Q e h) :
    o.wanted e = true ∧ wi F L o.ins e h fun v h' => (quiet o.ins = true ∨ flC fl (put e o.dst v) h') ∧ wm F L fl l Q (put e o.dst v) h' := by
  obtain ⟨d, g, i⟩ := o
  cases g with
  | some p => cases i <;> exact hq.elim
  | none =>
    refine ⟨rfl, ?_⟩
    by_cases hm : ∃ a, i = .mv a
    · obtain ⟨a, rfl⟩ := hm
      exact ⟨.inl rfl, hq⟩
    · have hq' : (match quiet i with
        | true => wi F L (i.sub e) E0 h fun v h' => wm F L fl l Q (put e d v) h'
        | false => wi F L (i.sub e) E0 h fun v h' => flC fl (put e d v) h' ∧ wm F L fl l Q (put e d v) h') := by
        cases i <;> first | exact hq | exact absurd ⟨_, rfl⟩ hm
      split at hq'
      · rename_i hqi
        rw [wi_sub] at hq'
        exact wi_mono (fun v h' hk => ⟨.inl hqi, hk⟩) hq'
      · rw [wi_sub] at hq'
        exact wi_mono (fun v h' hk => ⟨.inr hk.1, hk.2⟩) hq'
theorem wm_sound {fl : List (Nat × Bool × Nat × Arg)} : ∀ {l : List OpC} {Q : Env → Heap → Prop} {e : Env} {h : Heap}, wm F L fl l Q e h → ∃ e' h', Ev F L (.mops fl l e h e' h') ∧ Q e' h'
  | [], Q, e, h, hq => ⟨e, h, .mopsNil fl e h, hq⟩
  | o :: l, Q, e, h, hq => by
    obtain ⟨hw, h1⟩ := wm_parts hq
    unfold wi at h1
    split at h1
    · rename_i f args hc
      obtain ⟨v, h2, hcall, hx, hn⟩ := h1
      obtain ⟨e', h', hev, hq'⟩ := wm_sound hn
      have hx' : flC fl (put e o.dst v) h2 := by
        rcases hx with hx | hx
        · exfalso
          obtain ⟨d, g, i⟩ := o
          cases i <;> simp [quiet] at hx <;> simp [callI] at hc
        · exact hx
      exact ⟨e', h', .mopsCall hw hc hx' hcall hev, hq'⟩
    · split at h1
      · rename_i v h2 hs
        obtain ⟨e', h', hev, hq'⟩ := wm_sound h1.2
        exact ⟨e', h', .mopsIns hw hs h1.1 hev, hq'⟩
      · exact h1.elim
theorem wc_sound : ∀ {c : C} {Q : X → Env → Heap → Prop} {e : Env} {h : Heap}, wc F L c Q e h → ∃ x e' h', Ev F L (.code c e h x e' h') ∧ Q x e' h'
  | .skip, Q, e, h, hq => ⟨.norm, e, h, .skip e h, hq⟩
  | .region l, Q, e, h, hq => let ⟨e', h', hev, hq'⟩ := wo_sound hq; ⟨.norm, e', h', .region hev, hq'⟩
  | .dregion l t, Q, e, h, hq => let ⟨e1, h1, hev, hq'⟩ := wd_sound hq; let ⟨e', h', hev', hq''⟩ := wo_sound hq'; ⟨.norm, e', h', .dregion hev hev', hq''⟩
  | .mregion l m t fl, Q, e, h, hq => let ⟨e1, h1, hev, hq'⟩ := wd_sound hq; let ⟨e2, h2, hev2, hq2⟩ := wm_sound hq'; let ⟨e', h', hev', hq''⟩ := wo_sound hq2; ⟨.norm, e', h', .mregion hev hev2 hev', hq''⟩
  | .seq a b, Q, e, h, hq => by
    obtain ⟨x, e1, h1, hev, hq1⟩ := wc_sound (c := a) hq
    cases x with
    | norm =>
      obtain ⟨x, e2, h2, hev2, hq2⟩ := wc_sound (c := b) hq1
      exact ⟨x, e2, h2, .seqN hev hev2, hq2⟩
    | exit i => exact ⟨_, e1, h1, .seqX hev (fun hh => by cases hh), hq1⟩
    | ret => exact ⟨_, e1, h1, .seqX hev (fun hh => by cases hh), hq1⟩
  | .cond g a b, Q, e, h, hq => by
    obtain ⟨t, hg, ha, hb⟩ := hq
    cases t with
    | true =>
      obtain ⟨x, e', h', hev, hq'⟩ := wc_sound (c := a) (ha rfl)
      exact ⟨x, e', h', .cond hg hev, hq'⟩
    | false =>
      obtain ⟨x, e', h', hev, hq'⟩ := wc_sound (c := b) (hb rfl)
      exact ⟨x, e', h', .cond hg hev, hq'⟩
  | .block id c, Q, e, h, hq => let ⟨x, e', h', hev, hq'⟩ := wc_sound (c := c) hq; ⟨x.out id, e', h', .block hev, hq'⟩
  | .loop c, Q, e, h, hq => hq
  | .exit id, Q, e, h, hq => ⟨.exit id, e, h, .exit id e h, hq⟩
  | .ret, Q, e, h, hq => ⟨.ret, e, h, .ret e h, hq⟩
/-- A loop, by what holds at the head of each round: n falls. -/
theorem wloop {c : C} {Q : X → Env → Heap → Prop} (I : Nat → Env → Heap → Prop) (hr : ∀ n e h, I n e h → wc F L c (seqX (fun e' h' => ∃ m, m < n ∧ I m e' h') Q) e h) :
    ∀ {n : Nat} {e : Env} {h : Heap}, I n e h → Wl F L c Q e h := by
  intro n
  induction n using Nat.strongRecOn with
  | _ n ih =>
    intro e h hI
    obtain ⟨x, e1, h1, hev, hq⟩ := wc_sound (hr n e h hI)
    cases x with
    | norm =>
      obtain ⟨m, hm, hI'⟩ := hq
      obtain ⟨x, e2, h2, hev2, hq2⟩ := ih m hm hI'
      exact ⟨x, e2, h2, .loopN hev hev2, hq2⟩
    | exit i => exact ⟨_, e1, h1, .loopX hev (fun hh => by cases hh), hq⟩
    | ret => exact ⟨_, e1, h1, .loopX hev (fun hh => by cases hh), hq⟩
/-- What a function's end hands on. -/
def retX (rs : List Res) (K : V → Heap → Prop) : X → Env → Heap → Prop
  | .exit _, _, _ => False
  | _, e, h => ∃ v, resultsV h e rs = some v ∧ K v h
theorem wcall {f : FuncId} {fn : FnC} {args : List V} {h : Heap} {K : V → Heap → Prop} (hf : F f = some fn) (ha : args.length ≤ fn.ntmps) (hw : wc F L fn.body (retX fn.results K) (enterE args) h) : Cf F L f args h K := by
  obtain ⟨x, e', h', hev, hq⟩ := wc_sound hw
  cases x with
  | exit i => exact hq.elim
  | norm => obtain ⟨v, hr, hk⟩ := hq; exact ⟨v, h', .call hf ha hev (.inl rfl) hr, hk⟩
  | ret => obtain ⟨v, hr, hk⟩ := hq; exact ⟨v, h', .call hf ha hev (.inr rfl) hr, hk⟩
theorem wlib {f : FuncId} {args : List V} {h : Heap} {v : V} {K : V → Heap → Prop} (hl : L f args v) (hk : K v h) : Cf F L f args h K := ⟨v, h, .lib hl, hk⟩
section
variable {e : Env} {h : Heap} {K : V → Heap → Prop} {Q : Env → Heap → Prop} {d : Option Nat} {l : List OpC} {a b c x y : Arg}
/-- An instruction that calls nothing. -/
def ws (i : Ins) (e : Env) (h : Heap) (K : V → Heap → Prop) : Prop :=
  match stepI i e h with
  | some (v, h') => K v h'
  | none => False
theorem wi_call {f : FuncId} {xs : List Arg} : wi F L (.call f xs) e h K = Cf F L f (xs.map (·.get e)) h K := rfl
theorem wi_callv {g : Arg} {xs : List Arg} : wi F L (.callv g xs) e h K = (match g.get e with | .fn f caps => Cf F L f (xs.map (·.get e) ++ caps) h K | _ => False) := by
  unfold wi
  simp only [callI, stepI]
  cases g.get e <;> rfl
theorem wi_mv : wi F L (.mv a) e h K = K (a.get e) h := rfl
theorem wi_mvs : wi F L (.mvs a) e h K = (match a.get e with | .str s => K (.str s) h | _ => False) := by
  simp only [wi, callI, stepI]; cases a.get e <;> rfl
theorem wi_pick : wi F L (.pick c a b) e h K = (match c.get e with | .bool t => K (if t then a.get e else b.get e) h | _ => False) := by
  simp only [wi, callI, stepI]; cases c.get e <;> rfl
theorem wi_boxz {cs : List V} : wi F L (.boxz cs) e h K = K (.ptr h.length 0) (h ++ [.box cs]) := rfl
theorem wi_box : wi F L (.box a) e h K = (stor (a.get e) = true ∧ K (.ptr h.length 0) (h ++ [.box (cells (a.get e))])) := by
  simp only [wi, callI, stepI]; cases stor (a.get e) <;> simp
theorem wi_build {z : List V} {ps : List (Nat × Nat × Arg)} : wi F L (.build z ps) e h K = (match fillC e z ps with | some cs => K (.agg cs) h | none => False) := by
  simp only [wi, callI, stepI]; cases fillC e z ps <;> simp
theorem wi_bsl {sz : Nat} {ps : List Arg} : wi F L (.bsl sz ps) e h K = ((ps.all fun p => decide ((cells (p.get e)).length = sz) && stor (p.get e)) = true ∧ K (.sl sz .full (ps.map (·.get e))) h) := by
  simp only [wi, callI, stepI]
  generalize (ps.all fun p => decide ((cells (p.get e)).length = sz) && stor (p.get e)) = q
  cases q <;> simp
/-- A part, with what must hold. -/
def partK (cs : List V) (off sz : Nat) (g : Bool) (K : V → Prop) : Prop := off + sz ≤ cs.length ∧ (if g then K (.agg ((cs.drop off).take sz)) else sz = 1 ∧ K (cs.getD off (.tup [])))
theorem partK_eq {cs : List V} {off sz : Nat} {g : Bool} {K : V → Prop} : (match part cs off sz g with | some v => K v | none => False) = partK cs off sz g K := by
  unfold part partK
  by_cases hl : off + sz ≤ cs.length
  · cases g with
    | true => simp [hl]
    | false =>
      by_cases hs : sz = 1
      · subst hs
        have : off < cs.length := by omega
        simp [hl, List.getD_eq_getElem?_getD, this]
      · simp [hl, hs]
  · simp [hl]
theorem wi_load {g : Bool} {s : Nat} : wi F L (.load g s a) e h K = (match a.get e with
    | .ptr id off => (match h[id]? with | some (.box cs) => partK cs off s g (K · h) | _ => False)
    | .iptr cs => partK cs 0 s g (K · h)
    | _ => False) := by
  simp only [wi, callI, stepI, loadV, ← partK_eq]
  cases a.get e <;> try rfl
  · rename_i id off
    show (match (match h[id]? with | some (.box cs) => part cs off s g | _ => none).map (fun v => (v, h)) with | some (v, h') => K v h' | none => False) = (match h[id]? with | some (.box cs) => (match part cs off s g with | some v => K v h | none => False) | _ => False)
    cases h[id]? with
    | none => rfl
    | some o =>
      cases o <;> try rfl
      rename_i cs
      cases hq : part cs off s g <;> simp [hq]
  · rename_i cs
    show (match (part cs 0 s g).map (fun v => (v, h)) with | some (v, h') => K v h' | none => False) = (match part cs 0 s g with | some v => K v h | none => False)
    cases part cs 0 s g <;> rfl
theorem wi_store {s : Nat} : wi F L (.store s a x) e h K = (match a.get e with
    | .ptr id off => (match h[id]? with | some (.box cs) => (cells (x.get e)).length = s ∧ off + s ≤ cs.length ∧ stor (x.get e) = true ∧ K (.tup []) (h.set id (.box (splice cs off (cells (x.get e))))) | _ => False)
    | _ => False) := by
  simp only [wi, callI, stepI, storeV]
  cases a.get e <;> try rfl
  rename_i id off
  show (match (match h[id]? with | some (.box cs) => if (cells (x.get e)).length = s ∧ off + s ≤ cs.length ∧ stor (x.get e) = true then some (V.tup [], h.set id (.box (splice cs off (cells (x.get e))))) else none | _ => none) with | some (v, h') => K v h' | none => False) = (match h[id]? with | some (.box cs) => (cells (x.get e)).length = s ∧ off + s ≤ cs.length ∧ stor (x.get e) = true ∧ K (.tup []) (h.set id (.box (splice cs off (cells (x.get e))))) | _ => False)
  cases h[id]? with
  | none => rfl
  | some o =>
    cases o <;> try rfl
    rename_i cs
    by_cases hc : (cells (x.get e)).length = s ∧ off + s ≤ cs.length ∧ stor (x.get e) = true
    · simp only [if_pos hc]
      simp [hc]
    · simp only [if_neg hc]
      refine propext ⟨False.elim, fun hh => hc ⟨hh.1, hh.2.1, hh.2.2.1⟩⟩
theorem wi_nilck : wi F L (.nilck a) e h K = (match a.get e with | .ptr id o => K (.ptr id o) h | .iptr cs => K (.iptr cs) h | .fn f caps => K (.fn f caps) h | _ => False) := by
  simp only [wi, callI, stepI]; cases a.get e <;> rfl
theorem wi_bin {o : BinOp} : wi F L (.bin o x y) e h K = (match binV o (x.get e) (y.get e) with | some v => K v h | none => False) := by
  simp only [wi, callI, stepI]; cases binV o (x.get e) (y.get e) <;> rfl
section
variable {k k' : IntKind} {p q : Int} {s t : List UInt8}
theorem bin_add : binV .add (.int k p) (.int k q) = some (.int k (k.wrap (p + q))) := by simp [binV, binI]
theorem bin_sub : binV .sub (.int k p) (.int k q) = some (.int k (k.wrap (p - q))) := by simp [binV, binI]
theorem bin_mul : binV .mul (.int k p) (.int k q) = some (.int k (k.wrap (p * q))) := by simp [binV, binI]
theorem bin_and : binV .and (.int k p) (.int k q) = some (.int k (bitsI .and k p q)) := by simp [binV, binI]
theorem bin_or : binV .or (.int k p) (.int k q) = some (.int k (bitsI .or k p q)) := by simp [binV, binI]
theorem bin_xor : binV .xor (.int k p) (.int k q) = some (.int k (bitsI .xor k p q)) := by simp [binV, binI]
theorem bin_eql : binV .eql (.int k p) (.int k q) = some (.bool (decide (p = q))) := by simp [binV, binI]
theorem bin_neq : binV .neq (.int k p) (.int k q) = some (.bool (!decide (p = q))) := by simp [binV, binI]
theorem bin_lss : binV .lss (.int k p) (.int k q) = some (.bool (decide (p < q))) := by simp [binV, binI]
theorem bin_leq : binV .leq (.int k p) (.int k q) = some (.bool (decide (p ≤ q))) := by simp [binV, binI]
theorem bin_gtr : binV .gtr (.int k p) (.int k q) = some (.bool (decide (p > q))) := by simp [binV, binI]
theorem bin_geq : binV .geq (.int k p) (.int k q) = some (.bool (decide (p ≥ q))) := by simp [binV, binI]
theorem bin_seql : binV .eql (.str s) (.str t) = some (.bool (s == t)) := by simp [binV, binS]
theorem bin_sneq : binV .neq (.str s) (.str t) = some (.bool (!(s == t))) := by simp [binV, binS]
theorem bin_slss : binV .lss (.str s) (.str t) = some (.bool (Go.Op.bytesLess s t)) := by simp [binV, binS]
end
theorem wi_eq {k : EqK} {n : Bool} : wi F L (.eq k n x y) e h K = (match eqV k (x.get e) (y.get e) with | some r => K (.bool (if n then !r else r)) h | none => False) := by
  simp only [wi, callI, stepI]; cases eqV k (x.get e) (y.get e) <;> simp
theorem wi_un {o : UnOp} : wi F L (.un o x) e h K = (match unV o (x.get e) with | some v => K v h | none => False) := by
  simp only [wi, callI, stepI]; cases unV o (x.get e) <;> simp
theorem un_not {b : Bool} : unV .not (.bool b) = some (.bool !b) := rfl
theorem un_neg {k : IntKind} {p : Int} : unV .neg (.int k p) = some (.int k (k.wrap (0 - p))) := rfl
theorem wi_toInt {k : IntKind} : wi F L (.toInt k x) e h K = (match x.get e with | .int _ n => K (.int k (k.wrap n)) h | _ => False) := by
  simp only [wi, callI, stepI]; cases x.get e <;> rfl
theorem wi_st {i : Ins} (hc : callI i e = none) : wi F L i e h K = (match stepI i e h with | some (v, h') => K v h' | none => False) := by
  simp only [wi, hc]
theorem wi_toStr : wi F L (.toStr x) e h K = (match stepI (.toStr x) e h with | some (v, h') => K v h' | none => False) := wi_st rfl
theorem wi_toBytes : wi F L (.toBytes x) e h K = (match x.get e with | .str s => K (.hsl 1 h.length s.length) (h ++ [.box (s.map ofByte)]) | _ => False) := by
  simp only [wi, callI, stepI]; cases x.get e <;> rfl
theorem wi_mark : wi F L (.mark x) e h K = (match stepI (.mark x) e h with | some (v, h') => K v h' | none => False) := wi_st rfl
theorem wi_bslb {ps : List Arg} : wi F L (.bslb ps) e h K = ((ps.all fun p => decide ((cells (p.get e)).length = 1) && stor (p.get e)) = true ∧ K (.hsl 1 h.length ps.length) (h ++ [.box (flat (ps.map (·.get e)))])) := by
  simp only [wi, callI, stepI]
  generalize (ps.all fun p => decide ((cells (p.get e)).length = 1) && stor (p.get e)) = q
  cases q <;> simp
theorem wi_mkfn {f : FuncId} {cs : List Arg} : wi F L (.mkfn f cs) e h K = K (.fn f (cs.map (·.get e))) h := rfl
theorem wi_mkmap : wi F L .mkmap e h K = K (.map h.length) (h ++ [.map []]) := rfl
theorem wi_lookup {k : LK} {z : V} {ok : Bool} : wi F L (.lookup k z ok x y) e h K = (match stepI (.lookup k z ok x y) e h with | some (v, h') => K v h' | none => False) := wi_st rfl
theorem wi_mapset {k : LK} : wi F L (.mapset k a x y) e h K = (match stepI (.mapset k a x y) e h with | some (v, h') => K v h' | none => False) := wi_st rfl
theorem wi_slstr {lo hi : Option Arg} : wi F L (.slstr x lo hi) e h K = (match x.get e, boundO e lo, boundO e hi with
    | .str s, some l, some r => l.getD 0 ≤ r.getD s.length ∧ r.getD s.length ≤ s.length ∧ K (.str ((s.take (r.getD s.length)).drop (l.getD 0))) h
    | _, _, _ => False) := by
  simp only [wi, callI, stepI]
  cases x.get e <;> try rfl
  cases boundO e lo <;> try rfl
  cases boundO e hi <;> try rfl
  rename_i s l r
  simp only [Option.bind_some]
  by_cases hc : l.getD 0 ≤ r.getD s.length ∧ r.getD s.length ≤ s.length
  · simp [hc]
  · rw [if_neg hc]
    exact propext ⟨False.elim, fun hh => hc ⟨hh.1, hh.2.1⟩⟩
theorem wi_slsl {s : Nat} {lo hi mx : Option Arg} : wi F L (.slsl s x lo hi mx) e h K = (match stepI (.slsl s x lo hi mx) e h with | some (v, h') => K v h' | none => False) := wi_st rfl
theorem wi_faddr {o : Nat} : wi F L (.faddr o x) e h K = (match x.get e with | .ptr id k => K (.ptr id (k + o)) h | .iptr cs => K (.iptr (cs.drop o)) h | _ => False) := by
  simp only [wi, callI, stepI]; cases x.get e <;> rfl
theorem wi_fld {o s : Nat} {g : Bool} : wi F L (.fld o s g x) e h K = (match x.get e with | .agg cs => partK cs o s g (K · h) | _ => False) := by
  simp only [wi, callI, stepI, ← partK_eq]; cases x.get e <;> try rfl
  rename_i cs
  show (match (part cs o s g).map (fun v => (v, h)) with | some (v, h') => K v h' | none => False) = (match part cs o s g with | some v => K v h | none => False)
  cases part cs o s g <;> rfl
theorem wi_ixaSl {s : Nat} : wi F L (.ixaSl s x y) e h K = (match x.get e, y.get e with
    | .sl s' _ es, .int _ n => 0 ≤ n ∧ s' = s ∧ n.toNat < es.length ∧ K (.iptr (cells (es.getD n.toNat (.tup [])))) h
    | .hsl s' id len, .int _ n => 0 ≤ n ∧ s' = s ∧ n.toNat < len ∧ K (.ptr id (n.toNat * s)) h
    | _, _ => False) := by
  simp only [wi, callI, stepI]
  cases hy : y.get e <;> try (cases x.get e <;> rfl)
  rename_i k n
  by_cases hn : n < 0
  · have hn' : ¬ 0 ≤ n := by omega
    cases x.get e <;> simp [hn, hn']
  · have hn' : 0 ≤ n := by omega
    cases x.get e <;> try (simp [hn]; done)
    · rename_i s' own es
      by_cases hs : s' = s
      · by_cases hl : n.toNat < es.length
        · simp [hn, hn', hs, hl, List.getD_eq_getElem?_getD]
        · simp [hn, hn', hs, hl]
      · simp [hn, hs]
    · rename_i s' id len
      by_cases hc : s' = s ∧ n.toNat < len
      · simp [hn, hn', hc]
      · simp only [hn, if_false, if_neg hc]
        exact propext ⟨False.elim, fun hh => hc ⟨hh.2.1, hh.2.2.1⟩⟩
theorem wi_ixaArr {n s : Nat} : wi F L (.ixaArr n s x y) e h K = (match x.get e, y.get e with
    | .ptr id o, .int _ j => 0 ≤ j ∧ j < n ∧ K (.ptr id (o + j.toNat * s)) h
    | .iptr cs, .int _ j => 0 ≤ j ∧ j < n ∧ K (.iptr (cs.drop (j.toNat * s))) h
    | _, _ => False) := by
  simp only [wi, callI, stepI]
  cases hy : y.get e <;> try (cases x.get e <;> rfl)
  rename_i k j
  by_cases hc : 0 ≤ j ∧ j < n
  · cases x.get e <;> simp [hc]
  · cases x.get e <;> simp only [if_neg hc] <;> exact propext ⟨False.elim, fun hh => by first | exact hc ⟨hh.1, hh.2.1⟩ | exact hh⟩
theorem wi_ixArr {n s : Nat} {g : Bool} : wi F L (.ixArr n s g x y) e h K = (match x.get e, y.get e with
    | .agg cs, .int _ j => 0 ≤ j ∧ j < n ∧ partK cs (j.toNat * s) s g (K · h)
    | _, _ => False) := by
  simp only [wi, callI, stepI, ← partK_eq]
  cases hy : y.get e <;> try (cases x.get e <;> rfl)
  rename_i k j
  by_cases hc : 0 ≤ j ∧ j < n
  · cases x.get e <;> try (simp [hc]; done)
    rename_i cs
    simp only [if_pos hc, hc, true_and]
    show (match (part cs (j.toNat * s) s g).map (fun v => (v, h)) with | some (v, h') => K v h' | none => False) = (match part cs (j.toNat * s) s g with | some v => K v h | none => False)
    cases part cs (j.toNat * s) s g <;> rfl
  · cases x.get e <;> simp only [if_neg hc] <;> exact propext ⟨False.elim, fun hh => by first | exact hc ⟨hh.1, hh.2.1⟩ | exact hh⟩
theorem wi_ixStr : wi F L (.ixStr x y) e h K = (match x.get e, y.get e with | .str s, .int _ n => 0 ≤ n ∧ n.toNat < s.length ∧ K (ofByte (s.getD n.toNat 0)) h | _, _ => False) := by
  simp only [wi, callI, stepI]
  cases x.get e <;> try rfl
  cases y.get e <;> try rfl
  rename_i s k n
  by_cases hn : n < 0
  · simp [hn]; omega
  · by_cases hl : n.toNat < s.length
    · simp [hn, hl, List.getD_eq_getElem?_getD]; omega
    · simp [hn, hl]
theorem wi_ext {i : Nat} : wi F L (.ext i x) e h K = (match x.get e with | .tup vs => (match vs[i]? with | some v => K v h | none => False) | _ => False) := by
  simp only [wi, callI, stepI]; cases x.get e <;> try rfl
  rename_i vs
  show (match (vs[i]?).map (fun v => (v, h)) with | some (v, h') => K v h' | none => False) = (match vs[i]? with | some v => K v h | none => False)
  cases vs[i]? <;> rfl
theorem wi_lenS : wi F L (.len 0 x) e h K = (match x.get e with | .str s => K (.int .i64 s.length) h | _ => False) := by
  simp only [wi, callI, stepI]; cases x.get e <;> rfl
theorem wi_lenL : wi F L (.len 1 x) e h K = (match x.get e with | .nsl => K (.int .i64 0) h | .sl _ _ es => K (.int .i64 es.length) h | .hsl _ _ n => K (.int .i64 n) h | _ => False) := by
  simp only [wi, callI, stepI]; cases x.get e <;> rfl
theorem wi_lenArr {k : Nat} : wi F L (.lenArr k) e h K = K (.int .i64 k) h := rfl
theorem wi_app {s b : Nat} {m : Bool} : wi F L (.app s b m x y) e h K = (match appV h s b m (x.get e) (y.get e) with | some (v, h') => K v h' | none => False) := wi_st rfl
theorem wi_mn {xs : List Arg} : wi F L (.mn xs) e h K = (match mnV (xs.map (·.get e)) with | some v => K v h | none => False) := by
  simp only [wi, callI, stepI]; cases mnV (xs.map (·.get e)) <;> rfl
theorem wi_mx {xs : List Arg} : wi F L (.mx xs) e h K = (match mxV (xs.map (·.get e)) with | some v => K v h | none => False) := by
  simp only [wi, callI, stepI]; cases mxV (xs.map (·.get e)) <;> rfl
theorem get_new (t : Heap) (k : Nat) : (h ++ t)[h.length + k]? = t[k]? := by
  rw [List.getElem?_append_right (by omega)]; congr 1; omega
theorem get_new0 (t : Heap) : (h ++ t)[h.length]? = t[0]? := get_new t 0
theorem get_old {t : Heap} {i : Nat} {o : O} (hi : h[i]? = some o) : (h ++ t)[i]? = some o := by
  rw [List.getElem?_append_left (List.getElem?_eq_some_iff.1 hi).1]; exact hi
theorem set_new (t : Heap) (k : Nat) (o : O) : (h ++ t).set (h.length + k) o = h ++ t.set k o := by
  rw [List.set_append]; rw [if_neg (by omega)]; congr 2; omega
theorem set_new0 (t : Heap) (o : O) : (h ++ t).set h.length o = h ++ t.set 0 o := set_new t 0 o
theorem ext_refl : Ext h h := fun _ _ => rfl
theorem ext_app (t : Heap) : Ext h (h ++ t) := fun i hi => List.getElem?_append_left hi
end
theorem wc_yes {g : Arg} {c1 c2 : C} {Q : X → Env → Heap → Prop} {e : Env} {h : Heap} (hg : g.get e = .bool true) : wc F L (.cond g c1 c2) Q e h = wc F L c1 Q e h := by
  simp [wc, wb, hg]
theorem wc_no {g : Arg} {c1 c2 : C} {Q : X → Env → Heap → Prop} {e : Env} {h : Heap} (hg : g.get e = .bool false) : wc F L (.cond g c1 c2) Q e h = wc F L c2 Q e h := by
  simp [wc, wb, hg]
section
variable {K : Env → Heap → Prop} {Q : X → Env → Heap → Prop} {R : V → Heap → Prop} {rs : List Res} {e : Env} {h : Heap} {i id : Nat} {c c1 c2 : C} {l : List OpC} {g : Arg}
theorem seqX_norm : seqX K Q .norm e h = K e h := rfl
theorem seqX_exit : seqX K Q (.exit i) e h = Q (.exit i) e h := rfl
theorem seqX_ret : seqX K Q .ret e h = Q .ret e h := rfl
theorem retX_norm : retX rs R .norm e h = ∃ v, resultsV h e rs = some v ∧ R v h := rfl
theorem retX_ret : retX rs R .ret e h = ∃ v, resultsV h e rs = some v ∧ R v h := rfl
theorem out_norm : X.out id .norm = .norm := rfl
theorem out_ret : X.out id .ret = .ret := rfl
theorem out_exit : X.out id (.exit i) = if i = id then .norm else .exit i := rfl
theorem wc_skip : wc F L .skip Q e h = Q .norm e h := rfl
theorem wc_region : wc F L (.region l) Q e h = wo F L l (Q .norm) e h := rfl
theorem wc_dregion {t : List OpC} : wc F L (.dregion l t) Q e h = wd F L l (wo F L t (Q .norm)) e h := rfl
theorem wc_seq : wc F L (.seq c1 c2) Q e h = wc F L c1 (seqX (wc F L c2 Q) Q) e h := rfl
theorem wc_block : wc F L (.block id c) Q e h = wc F L c (fun x => Q (x.out id)) e h := rfl
theorem wc_loop : wc F L (.loop c) Q e h = Wl F L c Q e h := rfl
theorem wc_exit : wc F L (.exit id) Q e h = Q (.exit id) e h := rfl
theorem wc_ret : wc F L .ret Q e h = Q .ret e h := rfl
theorem enterE_app (args : List V) (t : Nat) : enterE args t = args.getD t (.tup []) := rfl
end
theorem upd_app (e : Env) (d : Nat) (v : V) (t : Nat) : upd e d v t = if t = d then v else e t := rfl
theorem put_some (e : Env) (d : Nat) (v : V) : put e (some d) v = upd e d v := rfl
theorem put_none (e : Env) (v : V) : put e none v = e := rfl
end Go.Vm
end
section
namespace Go.Vm
set_option linter.unusedVariables false
set_option linter.unusedSimpArgs false
section
variable {P : Program} {F : FuncId → Option FnC} {L : FuncId → List V → V → Prop}
def G0 : Gh := ⟨fun _ => none, fun _ => none, fun _ => none⟩
theorem rel0 (w : World) : Rel w.heap.size G0 [] w where
  wf := {
    base := Nat.le_refl _
    blk := by intro _ _ h; cases h
    tip := by intro _ _ h; cases h
    lim := by intro _ _ h; cases h
    inj := by intro _ _ _ _ h; cases h
    tinj := by intro _ _ _ _ h; cases h
    tipo := by intro _ _ h; cases h }
  obj id o h := by simp at h
theorem not_mapped0 (b : Nat) : ¬ Mapped G0 b := by
  rintro (⟨_, _, h, _⟩ | ⟨_, _, h, _⟩) <;> cases h
variable {B : Nat} {G : Gh} {w : World}
theorem rv_str (s : ByteArray) : Rv B G w (.str s.data.toList) (.string s) := by
  have := Rv.str (B := B) (G := G) (w := w) s.data.toList
  simpa using this
theorem rv_agg {cs : List V} {vs : List Value} {arr : Array Value} (ha : arr = vs.toArray) (h : Rvs B G w cs vs) (h1 : ∀ c ∈ cs, oneC c) : Rv B G w (.agg cs) (.agg arr) := by
  subst ha; exact .agg h.1 h1 h.2
end
end Go.Vm
end
section
namespace Go.Vm
set_option linter.unusedVariables false
set_option linter.unusedSimpArgs false
variable {F : FuncId → Option FnC} {L : FuncId → List V → V → Prop}
/-- The answer is x, and there may be new boxes. -/
def Pu (h : Heap) (x : V) (v : V) (h' : Heap) : Prop := v = x ∧ ∃ t, h' = h ++ t
theorem Cf.pu {f : FuncId} {args : List V} {h : Heap} {x : V} {K : V → Heap → Prop} (hc : Cf F L f args h (Pu h x)) (k : ∀ t, K x (h ++ t)) : Cf F L f args h K :=
  hc.mono fun v h' ⟨e, t, e'⟩ => by subst e; subst e'; exact k t
theorem pu_app (h t : Heap) (x y : V) : Pu h x y (h ++ t) = (y = x) := propext ⟨fun hp => hp.1, fun he => ⟨he, t, rfl⟩⟩
theorem pu_same (h : Heap) (x y : V) : Pu h x y h = (y = x) := propext ⟨fun hp => hp.1, fun he => ⟨he, [], by simp⟩⟩
theorem ext_apps (h a b : Heap) : Ext (h ++ a) (h ++ b) = Ext a b := by
  refine propext ⟨fun hx i hi => ?_, fun hx i hi => ?_⟩
  · have := hx (h.length + i) (by simp; omega)
    rwa [get_new, get_new] at this
  · by_cases hl : i < h.length
    · rw [List.getElem?_append_left hl, List.getElem?_append_left hl]
    · rw [List.getElem?_append_right (by omega), List.getElem?_append_right (by omega)]
      exact hx _ (by simp at hi; omega)
theorem ext_cons (o : O) (a b : Heap) : Ext (o :: a) (o :: b) = Ext a b := ext_apps [o] a b
theorem ext_nil (b : Heap) : Ext [] b = True := eq_true fun i hi => absurd hi (by simp)
theorem ext_appT (h t : Heap) : Ext h (h ++ t) = True := eq_true (ext_app t)
theorem ext_reflT (h : Heap) : Ext h h = True := eq_true ext_refl
theorem ofByte_int (b : UInt8) : ofByte b = .int .u8 b.toNat := rfl
theorem bool_dec (p : Prop) [Decidable p] : (decide p = true) = p := by simp
theorem bool_decf (p : Prop) [Decidable p] : (decide p = false) = ¬ p := by simp
theorem wrap64 {x : Int} (h1 : -9223372036854775808 ≤ x) (h2 : x ≤ 9223372036854775807) : IntKind.i64.wrap x = x := by
  unfold IntKind.wrap
  have e1 : (2 : Int) ^ 64 = 18446744073709551616 := by decide
  have e2 : (2 : Int) ^ (64 - 1) = 9223372036854775808 := by decide
  simp only [IntKind.bits, IntKind.signed, e1, e2, Bool.true_and, decide_eq_true_eq]
  by_cases hc : x % 18446744073709551616 ≥ 9223372036854775808
  · rw [if_pos hc]; omega
  · rw [if_neg hc]; omega
theorem mn2 {k k' : IntKind} {x y : Int} : mnV [.int k x, .int k' y] = some (.int k (min x y)) := by
  simp only [mnV]
  congr 2
  split <;> omega
theorem mx2 {k k' : IntKind} {x y : Int} : mxV [.int k x, .int k' y] = some (.int k (max x y)) := by
  simp only [mxV]
  congr 2
  split <;> omega
def AllC (P : Program) : List (FuncId × FnC) → Prop
  | [] => True
  | p :: r => compF P p.1 = some p.2 ∧ AllC P r
theorem lookup_all {P : Program} : ∀ {tab : List (FuncId × FnC)}, AllC P tab → ∀ f fn, tab.lookup f = some fn → compF P f = some fn
  | [], _, f, fn, h => by simp at h
  | (g, c) :: r, ⟨h1, h2⟩, f, fn, h => by
    rw [List.lookup_cons] at h
    by_cases he : f = g
    · subst he
      simp at h
      subst h
      exact h1
    · have hb : (f == g) = false := by simpa using he
      rw [hb] at h
      exact lookup_all h2 f fn h
/-! Boxes behind others, by nested sums. -/
theorem cg1 {a : O} {l : Heap} {m k : Nat} : (a :: l)[m + (k + 1)]? = l[m + (k)]? := by
  rw [show m + (k + 1) = (m + (k)) + 1 from by omega]; exact List.getElem?_cons_succ
theorem cs1 {a x : O} {l : Heap} {m k : Nat} : (a :: l).set (m + (k + 1)) x = a :: l.set (m + (k)) x := by
  rw [show m + (k + 1) = (m + (k)) + 1 from by omega]; exact List.set_cons_succ ..
theorem cg2 {a : O} {l : Heap} {m n k : Nat} : (a :: l)[m + (n + (k + 1))]? = l[m + (n + (k))]? := by
  rw [show m + (n + (k + 1)) = (m + (n + (k))) + 1 from by omega]; exact List.getElem?_cons_succ
theorem cs2 {a x : O} {l : Heap} {m n k : Nat} : (a :: l).set (m + (n + (k + 1))) x = a :: l.set (m + (n + (k))) x := by
  rw [show m + (n + (k + 1)) = (m + (n + (k))) + 1 from by omega]; exact List.set_cons_succ ..
theorem cg3 {a : O} {l : Heap} {m n p k : Nat} : (a :: l)[m + (n + (p + (k + 1)))]? = l[m + (n + (p + (k)))]? := by
  rw [show m + (n + (p + (k + 1))) = (m + (n + (p + (k)))) + 1 from by omega]; exact List.getElem?_cons_succ
theorem cs3 {a x : O} {l : Heap} {m n p k : Nat} : (a :: l).set (m + (n + (p + (k + 1)))) x = a :: l.set (m + (n + (p + (k)))) x := by
  rw [show m + (n + (p + (k + 1))) = (m + (n + (p + (k)))) + 1 from by omega]; exact List.set_cons_succ ..
theorem cg4 {a : O} {l : Heap} {m n p q k : Nat} : (a :: l)[m + (n + (p + (q + (k + 1))))]? = l[m + (n + (p + (q + (k))))]? := by
  rw [show m + (n + (p + (q + (k + 1)))) = (m + (n + (p + (q + (k))))) + 1 from by omega]; exact List.getElem?_cons_succ
theorem cs4 {a x : O} {l : Heap} {m n p q k : Nat} : (a :: l).set (m + (n + (p + (q + (k + 1))))) x = a :: l.set (m + (n + (p + (q + (k))))) x := by
  rw [show m + (n + (p + (q + (k + 1)))) = (m + (n + (p + (q + (k))))) + 1 from by omega]; exact List.set_cons_succ ..
theorem cg5 {a : O} {l : Heap} {m n p q r k : Nat} : (a :: l)[m + (n + (p + (q + (r + (k + 1)))))]? = l[m + (n + (p + (q + (r + (k)))))]? := by
  rw [show m + (n + (p + (q + (r + (k + 1))))) = (m + (n + (p + (q + (r + (k)))))) + 1 from by omega]; exact List.getElem?_cons_succ
theorem cs5 {a x : O} {l : Heap} {m n p q r k : Nat} : (a :: l).set (m + (n + (p + (q + (r + (k + 1)))))) x = a :: l.set (m + (n + (p + (q + (r + (k)))))) x := by
  rw [show m + (n + (p + (q + (r + (k + 1))))) = (m + (n + (p + (q + (r + (k)))))) + 1 from by omega]; exact List.set_cons_succ ..
theorem cg6 {a : O} {l : Heap} {m n p q r s k : Nat} : (a :: l)[m + (n + (p + (q + (r + (s + (k + 1))))))]? = l[m + (n + (p + (q + (r + (s + (k))))))]? := by
  rw [show m + (n + (p + (q + (r + (s + (k + 1)))))) = (m + (n + (p + (q + (r + (s + (k))))))) + 1 from by omega]; exact List.getElem?_cons_succ
theorem cs6 {a x : O} {l : Heap} {m n p q r s k : Nat} : (a :: l).set (m + (n + (p + (q + (r + (s + (k + 1))))))) x = a :: l.set (m + (n + (p + (q + (r + (s + (k))))))) x := by
  rw [show m + (n + (p + (q + (r + (s + (k + 1)))))) = (m + (n + (p + (q + (r + (s + (k))))))) + 1 from by omega]; exact List.set_cons_succ ..
theorem ofInt_nat (n : Nat) (hn : n < 18446744073709551616) : (BitVec.ofInt 64 (n : Int)).toNat = n := by
  simp only [BitVec.toNat_ofInt]
  omega
theorem andI_range (x m : Int) (h0 : 0 ≤ m) (h1 : m < 9223372036854775808) : 0 ≤ bitsI .and .i64 x m ∧ bitsI .and .i64 x m ≤ m := by
  obtain ⟨n, rfl⟩ := Int.eq_ofNat_of_zero_le h0
  have hn : n < 9223372036854775808 := by omega
  have hle : (BitVec.ofInt 64 x &&& BitVec.ofInt 64 (n : Int)).toNat ≤ n := by
    rw [BitVec.toNat_and]
    refine Nat.le_trans Nat.and_le_right ?_
    rw [ofInt_nat n (by omega)]
    exact Nat.le_refl _
  have e : bitsI .and .i64 x (n : Int) = IntKind.i64.wrap ((BitVec.ofInt 64 x &&& BitVec.ofInt 64 (n : Int)).toNat : Int) := rfl
  rw [e]
  generalize (BitVec.ofInt 64 x &&& BitVec.ofInt 64 (n : Int)).toNat = q at *
  rw [wrap64 (by omega) (by omega)]
  omega
end Go.Vm
end
section
namespace Go.Vm
set_option linter.unusedVariables false
set_option linter.unusedSimpArgs false
section
variable {F : FuncId → Option FnC} {L : FuncId → List V → V → Prop} {x : V} {g : Bool} {i : (V → Heap → Prop) → Prop} {h : Heap} {K : V → Heap → Prop} {A B : Prop}
theorem wg_yes : wg (.bool g) g i h K = i K := by simp [wg]
theorem wg_no1 : wg (.bool false) true i h K = K (.tup []) h := by simp [wg]
theorem wg_no2 : wg (.bool true) false i h K = K (.tup []) h := by simp [wg]
theorem wgd_yes : wgd (.bool g) g i h K = i fun v h' => Ext h h' ∧ K v h' := by simp [wgd]
theorem wgd_no1 : wgd (.bool false) true i h K = K (.tup []) h := by simp [wgd]
theorem wgd_no2 : wgd (.bool true) false i h K = K (.tup []) h := by simp [wgd]
theorem wb_yes : wb (.bool true) A B = A := by simp [wb]
theorem wb_no : wb (.bool false) A B = B := by simp [wb]
theorem wg_congr {x' : V} (hx : x = x') : wg x g i h K = wg x' g i h K := by rw [hx]
theorem wgd_congr {x' : V} (hx : x = x') : wgd x g i h K = wgd x' g i h K := by rw [hx]
theorem wb_congr {x' : V} (hx : x = x') : wb x A B = wb x' A B := by rw [hx]
theorem wi_congr {n n' : Ins} {e : Env} {h' : Heap} (hn : n = n') (hh : h = h') : wi F L n e h K = wi F L n' e h' K := by rw [hn, hh]
theorem wg_casep {p : Prop} {_ : Decidable p} (h1 : p → wg (.bool (decide p)) g i h K) (h2 : ¬ p → wg (.bool (decide p)) g i h K) : wg (.bool (decide p)) g i h K := by
  by_cases hp : p
  · exact h1 hp
  · exact h2 hp
theorem wg_casen {p : Prop} {_ : Decidable p} (h1 : p → wg (.bool (!decide p)) g i h K) (h2 : ¬ p → wg (.bool (!decide p)) g i h K) : wg (.bool (!decide p)) g i h K := by
  by_cases hp : p
  · exact h1 hp
  · exact h2 hp
theorem wg_case {b : Bool} (h1 : b = true → wg (.bool b) g i h K) (h2 : b = false → wg (.bool b) g i h K) : wg (.bool b) g i h K := by
  cases b
  · exact h2 rfl
  · exact h1 rfl
theorem wgd_casep {p : Prop} {_ : Decidable p} (h1 : p → wgd (.bool (decide p)) g i h K) (h2 : ¬ p → wgd (.bool (decide p)) g i h K) : wgd (.bool (decide p)) g i h K := by
  by_cases hp : p
  · exact h1 hp
  · exact h2 hp
theorem wgd_casen {p : Prop} {_ : Decidable p} (h1 : p → wgd (.bool (!decide p)) g i h K) (h2 : ¬ p → wgd (.bool (!decide p)) g i h K) : wgd (.bool (!decide p)) g i h K := by
  by_cases hp : p
  · exact h1 hp
  · exact h2 hp
theorem wgd_case {b : Bool} (h1 : b = true → wgd (.bool b) g i h K) (h2 : b = false → wgd (.bool b) g i h K) : wgd (.bool b) g i h K := by
  cases b
  · exact h2 rfl
  · exact h1 rfl
theorem wb_casep {p : Prop} {_ : Decidable p} (h1 : p → wb (.bool (decide p)) A B) (h2 : ¬ p → wb (.bool (decide p)) A B) : wb (.bool (decide p)) A B := by
  by_cases hp : p
  · exact h1 hp
  · exact h2 hp
theorem wb_casen {p : Prop} {_ : Decidable p} (h1 : p → wb (.bool (!decide p)) A B) (h2 : ¬ p → wb (.bool (!decide p)) A B) : wb (.bool (!decide p)) A B := by
  by_cases hp : p
  · exact h1 hp
  · exact h2 hp
theorem wb_case {b : Bool} (h1 : b = true → wb (.bool b) A B) (h2 : b = false → wb (.bool b) A B) : wb (.bool b) A B := by
  cases b
  · exact h2 rfl
  · exact h1 rfl
theorem wg_tup : wg (.tup []) g i h K = K (.tup []) h := by simp [wg]
theorem wgd_tup : wgd (.tup []) g i h K = K (.tup []) h := by simp [wgd]
theorem wl_congr {c : C} {Q : X → Env → Heap → Prop} {e e' : Env} {h' : Heap} (he : e = e') (hh : h = h') : Wl F L c Q e h = Wl F L c Q e' h' := by rw [he, hh]
theorem cf_congr {f : FuncId} {xs ys : List V} {h' : Heap} (hx : xs = ys) (hh : h = h') : Cf F L f xs h K = Cf F L f ys h' K := by rw [hx, hh]
theorem wcallp {f : FuncId} {fn : FnC} {args : List V} {p : Prop} (hf : F f = some fn) (ha : args.length ≤ fn.ntmps) (he : wc F L fn.body (retX fn.results K) (enterE args) h = p) (hp : p) : Cf F L f args h K :=
  wcall hf ha (he ▸ hp)
theorem wloopp {c : C} {Q : X → Env → Heap → Prop} {b : (Env → Heap → Prop) → Env → Heap → Prop} (I : Nat → Env → Heap → Prop) (hb : ∀ N e h, wc F L c (seqX N Q) e h = b N e h)
    (hr : ∀ n e h, I n e h → b (fun e' h' => ∃ m, m < n ∧ I m e' h') e h) {n : Nat} {e : Env} {h : Heap} (hi : I n e h) : Wl F L c Q e h :=
  wloop I (fun n e h hi => by rw [hb]; exact hr n e h hi) hi
theorem wi_mapsetI {k : LK} {a x y : Arg} {e : Env} : wi F L (.mapset k a x y) e h K = (stor (y.get e) = true ∧ match a.get e with
    | .map id => (match h[id]? with
      | some (.map es) => (match mapsetE k (x.get e) (y.get e) es with | some es' => K (.tup []) (h.set id (.map es')) | none => False)
      | _ => False)
    | _ => False) := by
  rw [wi_mapset]
  simp only [stepI]
  cases hs : stor (y.get e)
  · simp
  · simp only [Bool.not_true, Bool.false_eq_true, if_false, true_and]
    cases a.get e <;> try rfl
    rename_i id
    show (match (match h[id]? with | some (O.map es) => (mapsetE k (x.get e) (y.get e) es).map fun es' => (V.tup [], h.set id (O.map es')) | _ => none) with | some (v, h') => K v h' | none => False) = _
    split <;> rename_i ho <;> split at ho <;> simp_all
    · obtain ⟨es', h1, h2, h3⟩ := ho
      simp [h1, ← h2, ← h3]
theorem wi_lookupI {k : LK} {z : V} {ok : Bool} {x y : Arg} {e : Env} : wi F L (.lookup k z ok x y) e h K = (match x.get e with
    | .nmap => K (if ok then .tup [z, .bool false] else z) h
    | .map id => (match h[id]? with
      | some (.map es) => (match findE k (y.get e) es 0 with
        | some (some (_, v)) => K (if ok then .tup [v, .bool true] else v) h
        | some none => K (if ok then .tup [z, .bool false] else z) h
        | none => False)
      | _ => False)
    | _ => False) := by
  rw [wi_lookup]
  simp only [stepI]
  cases x.get e <;> try rfl
  rename_i id
  simp only
  cases h[id]? <;> try rfl
  rename_i o
  cases o <;> try rfl
  rename_i es
  simp only
  cases findE k (y.get e) es 0 <;> try rfl
  rename_i r
  cases r <;> rfl
theorem wi_slslI {s : Nat} {x : Arg} {lo hi mx : Option Arg} {e : Env} : wi F L (.slsl s x lo hi mx) e h K = (match boundO e lo, boundO e hi, boundO e mx with
    | some l, some r, some m => (match slslV s (x.get e) (l.getD 0) r m with | some v => K v h | none => False)
    | _, _, _ => False) := by
  rw [wi_slsl]
  simp only [stepI]
  cases boundO e lo <;> try rfl
  cases boundO e hi <;> try rfl
  cases boundO e mx <;> try rfl
  rename_i l r m
  simp only [Option.bind_some]
  cases slslV s (x.get e) (l.getD 0) r m <;> rfl
theorem ti1 {n : Nat} : ((n : Int) + 1).toNat = n + 1 := by omega
theorem ti2 {n : Nat} : (0 ≤ (n : Int) + 1) = True := eq_true (by omega)
theorem ti3 {n : Nat} : ((n : Int) + 2).toNat = n + 2 := by omega
theorem ti4 {n : Nat} : (0 ≤ (n : Int) + 2) = True := eq_true (by omega)
theorem eq_bool {a b : Bool} : eqV .bool (.bool a) (.bool b) = some (a == b) := rfl
theorem eqn_00 : eqV (.nil 0) .nsl .nsl = some true := rfl
theorem eqn_01 {s : Nat} {o : Own} {es : List V} : eqV (.nil 0) .nsl (.sl s o es) = some false := rfl
theorem eqn_02 {s i l : Nat} : eqV (.nil 0) .nsl (.hsl s i l) = some false := rfl
theorem eqn_10 {s : Nat} {o : Own} {es : List V} : eqV (.nil 0) (.sl s o es) .nsl = some false := rfl
theorem eqn_20 {s i l : Nat} : eqV (.nil 0) (.hsl s i l) .nsl = some false := rfl
theorem eqf_00 : eqV (.nil 2) .nfn .nfn = some true := rfl
theorem eqf_10 {f : FuncId} {c : List V} : eqV (.nil 2) (.fn f c) .nfn = some false := rfl
theorem eqp_00 : eqV (.nil 3) .nilp .nilp = some true := rfl
theorem eqp_10 {i o : Nat} : eqV (.nil 3) (.ptr i o) .nilp = some false := rfl
theorem rs_nil {e : Env} : List.mapM (resV h e) [] = some [] := rfl
theorem rs_cons {e : Env} {r : Res} {rs : List Res} : List.mapM (resV h e) (r :: rs) = (match resV h e r with | some x => (match List.mapM (resV h e) rs with | some xs => some (x :: xs) | none => none) | none => none) := by
  rw [List.mapM_cons]
  cases resV h e r <;> try rfl
  cases List.mapM (resV h e) rs <;> rfl
end
end Go.Vm
end
section
namespace Go.Vm
set_option linter.defProp false
def vm := (And.intro (And.intro (And.intro (And.intro (And.intro (And.intro (And.intro @cg1 @cg2) (And.intro @cg3 @cg4)) (And.intro (And.intro @cg5 @cg6) (And.intro @cs1 @cs2))) (And.intro (And.intro (And.intro @cs3 @cs4) (And.intro @cs5 @cs6)) (And.intro (And.intro @wg_tup @wgd_tup) (And.intro @wg_yes @wg_no1)))) (And.intro (And.intro (And.intro (And.intro @wg_no2 @wgd_yes) (And.intro @wgd_no1 @wgd_no2)) (And.intro (And.intro @wb_yes @wb_no) (And.intro @wc_skip @wc_region))) (And.intro (And.intro (And.intro @wc_dregion @wc_seq) (And.intro @wc_yes @wc_no)) (And.intro (And.intro @wc_block @wc_loop) (And.intro @wc_exit (And.intro @wc_ret @seqX_norm)))))) (And.intro (And.intro (And.intro (And.intro (And.intro @seqX_exit @seqX_ret) (And.intro @retX_norm @retX_ret)) (And.intro (And.intro @out_norm @out_ret) (And.intro @out_exit @put_some))) (And.intro (And.intro (And.intro @put_none @upd_app) (And.intro @enterE_app @wi_call)) (And.intro (And.intro @wi_callv @wi_mv) (And.intro @wi_mvs @wi_pick)))) (And.intro (And.intro (And.intro (And.intro @wi_boxz @wi_box) (And.intro @wi_build @wi_bsl)) (And.intro (And.intro @wi_load @wi_store) (And.intro @wi_nilck @wi_bin))) (And.intro (And.intro (And.intro @wi_eq @wi_un) (And.intro @wi_toInt @wi_toStr)) (And.intro (And.intro @wi_toBytes @wi_mark) (And.intro @wi_bslb (And.intro @wi_mkfn @wi_slstr))))))) (And.intro (And.intro (And.intro (And.intro (And.intro (And.intro @wi_faddr @wi_fld) (And.intro @wi_ixaSl @wi_ixaArr)) (And.intro (And.intro @wi_ixArr @wi_ixStr) (And.intro @wi_ext @wi_lenS))) (And.intro (And.intro (And.intro @wi_lenL @wi_lenArr) (And.intro @wi_mn @wi_mx)) (And.intro (And.intro @bin_add @bin_sub) (And.intro @bin_mul @bin_and)))) (And.intro (And.intro (And.intro (And.intro @bin_or @bin_xor) (And.intro @bin_eql @bin_neq)) (And.intro (And.intro @bin_lss @bin_leq) (And.intro @bin_gtr @bin_geq))) (And.intro (And.intro (And.intro @bin_seql @bin_sneq) (And.intro @bin_slss @get_new0)) (And.intro (And.intro @set_new0 @get_new) (And.intro @set_new (And.intro @pu_app @pu_same)))))) (And.intro (And.intro (And.intro (And.intro (And.intro @ext_apps @ext_cons) (And.intro @ext_nil @ext_appT)) (And.intro (And.intro @ext_reflT @un_not) (And.intro @un_neg @mn2))) (And.intro (And.intro (And.intro @mx2 @bool_dec) (And.intro @bool_decf @ofByte_int)) (And.intro (And.intro @rs_nil @rs_cons) (And.intro @eq_bool @eqn_00)))) (And.intro (And.intro (And.intro (And.intro @eqn_01 @eqn_02) (And.intro @eqn_10 @eqn_20)) (And.intro (And.intro @eqf_00 @eqf_10) (And.intro @eqp_00 @eqp_10))) (And.intro (And.intro (And.intro @wi_app @wi_mkmap) (And.intro @wi_mapsetI @wi_lookupI)) (And.intro (And.intro @wi_slslI @ti1) (And.intro @ti2 (And.intro @ti3 @ti4))))))))
def vl := (And.intro (And.intro (And.intro (And.intro (And.intro @Nat.add_zero (And.intro @Nat.add_assoc @Int.cast_ofNat_Int)) (And.intro @List.map_cons.{0,0} (And.intro @List.map_nil.{0,0} @List.getD_cons_zero.{0}))) (And.intro (And.intro @List.getD_cons_succ.{0} (And.intro @List.getD_nil.{0} @Option.map_some.{0,0})) (And.intro (And.intro @Option.map_none.{0,0} @Option.bind_some.{0,0}) (And.intro @Option.getD_some.{0} @Option.getD_none.{0})))) (And.intro (And.intro (And.intro @List.getElem?_cons_succ.{0} (And.intro @List.getElem?_cons_zero.{0} @List.getElem?_nil.{0})) (And.intro (And.intro @exists_eq_left.{1} @exists_eq_left'.{1}) (And.intro @Option.some.injEq.{0} @V.bool.injEq))) (And.intro (And.intro @true_and (And.intro @and_true @true_implies)) (And.intro (And.intro @false_implies @implies_true.{1}) (And.intro @List.length_append.{0} @List.length_map.{0,0}))))) (And.intro (And.intro (And.intro (And.intro @List.length_cons.{0} (And.intro @List.length_nil.{0} @Int.toNat_natCast)) (And.intro (And.intro @Nat.mul_one @Nat.zero_add) (And.intro @Int.natCast_nonneg @List.length_set.{0}))) (And.intro (And.intro @decide_true (And.intro @decide_false @List.set_cons_zero.{0})) (And.intro (And.intro @List.set_cons_succ.{0} @List.append_assoc.{0}) (And.intro @List.cons_append.{0} @List.nil_append.{0})))) (And.intro (And.intro (And.intro @List.all_cons.{0} (And.intro @List.all_nil.{0} @Bool.and_true)) (And.intro (And.intro @Bool.true_and @decide_eq_true_eq) (And.intro @List.drop_succ_cons.{0} @List.drop_zero.{0}))) (And.intro (And.intro @List.take_succ_cons.{0} (And.intro @List.take_zero.{0} @and_self)) (And.intro (And.intro @Nat.le_refl @Bool.not_true) (And.intro @Bool.not_false @Bool.false_eq_true))))))
end Go.Vm
end
