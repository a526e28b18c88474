/- Any text is the document's number, or none: the plain law, over what the walks show. No condition beside the row's own bounds. -/
import Derived.Test.YtmfpmnfbcgchjaaHp1
import Derived.Test.YtmfpmnfbcgchjaaPNumber
namespace Go.Proofs.Ytmfpmnfbcgchjaa.Pure
open Go.RowKit Go.Proofs.Ytmfpmnfbcgchjaa.Hp Go.Proofs.YtmfpmnfbcgchjaaW.PrintWords Go.Proofs.YtmfpmnfbcgchjaaW.PrintLast

theorem TokenNumbers : gatepostlaw01_TokenNumbers.Pure := by
  intro s most hs hw
  have hm : most ≤ 9223372036854775807 := by
    have h := hw
    simp only [Lit.wf, Bool.and_eq_true, decide_eq_true_eq] at h
    exact h.2
  refine Ev.rounds ?_
  unfold gatepostlaw01_TokenNumbers.f
  refine Ev.bind (token_number_ev s most hm hs) ?_
  refine Ev.bind (ref_number_ev s most hm hs) ?_
  refine Ev.bind (token_number_ev ⟨#[49, 50]⟩ 99 (by omega) (by decide)) ?_
  have e : numberS (bs ⟨#[49, 50]⟩) 99 = (12, true) := by decide
  rw [e]
  simp only [if_true, beq_self_eq_true]
  exact Ev.now _

end Go.Proofs.Ytmfpmnfbcgchjaa.Pure
