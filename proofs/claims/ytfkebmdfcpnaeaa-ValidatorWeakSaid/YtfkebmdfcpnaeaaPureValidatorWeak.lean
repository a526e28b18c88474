/- Two tags that are alike as strong ones are alike as weak ones, and a weak one is like no tag as a strong one: the plain law, over what the walks show. No condition beside the row's own bounds. -/
import Derived.Test.YtfkebmdfcpnaeaaHp4
import Derived.Test.YtfkebmdfcpnaeaaPTag
set_option linter.unusedVariables false
set_option linter.unusedSimpArgs false
namespace Go.Proofs.Ytfkebmdfcpnaeaa.Pure
open Go.RowKit Go.Proofs.Ytfkebmdfcpnaeaa.Hp Go.Proofs.YtfkebmdfcpnaeaaW.PrintWords Go.Proofs.YtfkebmdfcpnaeaaW.PrintLast

theorem strong_f (w v : Bool) (s t : ByteArray) : validator_Strong.f w s v t = some ((w == v && (bs s == bs t)) && !w) := by
  unfold validator_Strong.f
  rw [toList_bs, toList_bs]
  by_cases h : (w == v && (bs s == bs t)) = true
  · rw [if_pos h, h]; rfl
  · rw [if_neg h]
    have : (w == v && (bs s == bs t)) = false := by simpa using h
    rw [this]; rfl
theorem weak_f (w v : Bool) (s t : ByteArray) : validator_Weak.f w s v t = some (bs s == bs t) := by
  unfold validator_Weak.f
  rw [toList_bs, toList_bs]

theorem weak_j2 (w v : Bool) (s t : ByteArray) : Ev (fun k => gatepostlaw12_ValidatorWeak.j2 k false w s v t) true := by
  refine Ev.step (f := fun _ => some true) (fun k => ?_) (Ev.now _)
  simp only [gatepostlaw12_ValidatorWeak.j2]
  rw [if_neg (by simp), strong_f, strong_f, strong_f, weak_f, weak_f, weak_f]
  simp only [Option.bind_some]
  have e1 : ((w == v && (bs s == bs t) && !w) == (v == w && (bs t == bs s) && !v)) = true := by
    rw [show (bs t == bs s) = (bs s == bs t) from by rw [Bool.eq_iff_iff]; simp only [beq_iff_eq]; exact ⟨Eq.symm, Eq.symm⟩]
    cases w <;> cases v <;> simp
  have e2 : ((bs s == bs t) == (bs t == bs s)) = true := by
    rw [show (bs t == bs s) = (bs s == bs t) from by rw [Bool.eq_iff_iff]; simp only [beq_iff_eq]; exact ⟨Eq.symm, Eq.symm⟩]
    simp
  rw [if_pos e1, if_pos e2]
  cases w <;> simp

theorem weak_j1 (a b : ByteArray) : Ev (fun k => gatepostlaw12_ValidatorWeak.j1 k a b (!(tagB a).2.2 || !(tagB b).2.2) (tagB a).1 (tagB a).2.1 (tagB b).1 (tagB b).2.1) true := by
  by_cases hok : (tagB a).2.2 = true ∧ (tagB b).2.2 = true
  · rw [hok.1, hok.2]
    by_cases hst : ((tagB a).1 == (tagB b).1 && (bs (tagB a).2.1 == bs (tagB b).2.1) && !(tagB a).1) = true
    · have h1 : (tagB a).1 = false := by
        revert hst
        cases (tagB a).1 <;> simp
      have h2 : (tagB b).1 = false := by
        revert hst
        rw [h1]
        cases (tagB b).1 <;> simp
      have h3 : bs (tagB a).2.1 = bs (tagB b).2.1 := by
        rw [h1, h2] at hst
        simpa using hst
      have hab : bs a = bs b := by
        have ea := tagS_back (bs a) hok.1
        have eb := tagS_back (bs b) hok.2
        rw [show (tagS (bs a)).1 = false from h1] at ea
        rw [show (tagS (bs b)).1 = false from h2] at eb
        have h4 : (tagS (bs a)).2.1 = (tagS (bs b)).2.1 := by
          have := h3
          unfold tagB at this
          rw [bs_ofL, bs_ofL] at this
          exact this
        rw [ea, eb, h4]
      refine Ev.step (fun k => ?_) (weak_j2 (tagB a).1 (tagB b).1 (tagB a).2.1 (tagB b).2.1)
      simp only [gatepostlaw12_ValidatorWeak.j1]
      rw [if_neg (by simp), strong_f, hst, weak_f, h3, h1, h2, toList_bs, toList_bs, hab]
      simp
    · refine Ev.step (fun k => ?_) (weak_j2 (tagB a).1 (tagB b).1 (tagB a).2.1 (tagB b).2.1)
      have : ((tagB a).1 == (tagB b).1 && (bs (tagB a).2.1 == bs (tagB b).2.1) && !(tagB a).1) = false := by simpa using hst
      simp only [gatepostlaw12_ValidatorWeak.j1]
      rw [if_neg (by simp), strong_f, this]
      simp
  · refine Ev.step (f := fun _ => some true) (fun k => ?_) (Ev.now _)
    simp only [gatepostlaw12_ValidatorWeak.j1]
    rw [if_pos]
    cases ha : (tagB a).2.2 <;> cases hb : (tagB b).2.2 <;> simp_all

theorem ValidatorWeak : gatepostlaw12_ValidatorWeak.Pure := by
  intro a b ha hb
  refine Ev.rounds ?_
  unfold gatepostlaw12_ValidatorWeak.f
  refine Ev.bind (parse_ev a ha) ?_
  refine Ev.bind (parse_ev b hb) ?_
  refine Ev.bind (parse_ev ⟨#[87, 47, 34, 34]⟩ (by decide)) ?_
  have e : tagB ⟨#[87, 47, 34, 34]⟩ = (true, ⟨#[]⟩, true) := by
    have : tagS (bs ⟨#[87, 47, 34, 34]⟩) = (true, [], true) := by decide
    unfold tagB
    rw [this]
    rfl
  rw [e]
  simp only [if_true]
  rw [strong_f, weak_f]
  simp only [Option.bind_some, Bool.not_true, Bool.and_false, beq_self_eq_true, Bool.false_eq_true, if_false]
  refine Ev.step (fun k => ?_) (weak_j1 a b)
  simp only [gatepostlaw12_ValidatorWeak.j0]
  rw [if_neg (by simp)]
  cases (tagB a).2.2 <;> simp
end Go.Proofs.Ytfkebmdfcpnaeaa.Pure
