/- Any target has the document's path and host, or none: the plain law, over what the walks show. No condition beside the row's own bounds. -/
import Derived.Test.YtbcnhkgiabobiaaHp3
import Derived.Test.YtbcnhkgiabobiaaPPath
namespace Go.Proofs.Ytbcnhkgiabobiaa.Pure
open Go.RowKit Go.Proofs.Ytbcnhkgiabobiaa.Hp Go.Proofs.YtbcnhkgiabobiaaW.PrintWords Go.Proofs.YtbcnhkgiabobiaaW.PrintLast

theorem LinePaths : gatepostlaw03_LinePaths.Pure := by
  intro s hs
  refine Ev.rounds ?_
  unfold gatepostlaw03_LinePaths.f
  refine Ev.bind (path_ev s hs) ?_
  refine Ev.bind (ref_path_ev s hs) ?_
  refine Ev.bind (path_ev ⟨#[47, 120]⟩ (by decide)) ?_
  have e : triB (pathS (bs ⟨#[47, 120]⟩)) = (⟨#[47, 120]⟩, ⟨#[]⟩, true) := by
    have : pathS (bs ⟨#[47, 120]⟩) = ([47, 120], [], true) := by decide
    rw [this]
    rfl
  rw [e]
  have e2 : (⟨#[47, 120]⟩ : ByteArray).toList = [47, 120] := by rw [toList_bs]; rfl
  simp only [if_true, beq_self_eq_true, e2]
  exact Ev.now _

end Go.Proofs.Ytbcnhkgiabobiaa.Pure
