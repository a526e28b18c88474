/- strconv.Itoa by the shelf's contract, as a function of the machine's library. -/
import Derived.Test.YtfihnnebffkbfaaDoorVh
import Derived.Test.YtfihnnebffkbfaaDoorVmLib
import Derived.Test.YtfihnnebffkbfaaDoorVmOpen
import Derived.Test.YtfihnnebffkbfaaDoorHShelf
import Derived.Lib.ItoaNum
import Derived.Lib.AppendIntMem
set_option linter.unusedVariables false
set_option linter.unusedSimpArgs false
namespace Go.Proofs.YtfihnnebffkbfaaDoor.Vh
open Go.Vm
abbrev TabAt (w : World) : Prop := Lib.TabIs Tryd.prog w "internal/strconv.uint64pow10" .u64 Lib.pow10Tab
def LItoa : FuncId → List V → V → Prop := fun f args v => f = i_strconv_Itoa ∧ ∃ n : Int, -9223372036854775808 ≤ n ∧ n ≤ 9223372036854775807 ∧ args = [.int .i64 n] ∧ v = .str (Go.Lib.itoa n)
theorem itoa_at {w0 : World} (ht : TabAt w0) : LibAt Tryd.prog w0 LItoa := by
  rintro f args v ⟨rfl, n, h0, h1, rfl, rfl⟩
  refine ⟨by kernel_rfl, good_below fun B G h w vs hr hb hv => ?_⟩
  obtain ⟨a, rfl, ha⟩ := rvs_one hv
  cases ha
  have htab : TabAt w := Lib.tabBelow_of_tabIs ht w (hb.2.mono hb.1)
  refine (Tryd.strconv_Itoa n h0 h1 w htab).mono fun e w' ⟨h1, k, os, h2⟩ => ?_
  subst h2
  exact ⟨_, h1, .str _, Lib.below_grow _ _ (Nat.le_refl _) k os⟩
def ItoaOk (L : FuncId → List V → V → Prop) : Prop := ∀ {n : Int} {h : Heap}, -9223372036854775808 ≤ n → n ≤ 9223372036854775807 → Cf F L i_strconv_Itoa [.int .i64 n] h (Pu h (.str (Go.Lib.itoa n)))
theorem itoaOk {L : FuncId → List V → V → Prop} (hL : ∀ f a v, LItoa f a v → L f a v) : ItoaOk L :=
  fun h0 h1 => wlib (hL _ _ _ ⟨rfl, _, h0, h1, rfl, rfl⟩) ⟨rfl, [], by simp⟩
end Go.Proofs.YtfihnnebffkbfaaDoor.Vh
