/- The row of HeadFields: its arguments opened, the run on the small machine, and shut again. Conditions: those of the given row. -/
import Derived.Test.YtnfcjeajbjcppaaDoorRows
import Derived.Test.YtnfcjeajbjcppaaDoorPk9
import Derived.Test.YtnfcjeajbjcppaaDoorPk2
import Derived.WalkKit
import Derived.ProofKit
import Derived.OpenShut
import Derived.ShutString
import Derived.ChangeOld
import Derived.Below
import Derived.Carry
import Derived.SizedLaws
import Derived.Test.YtnfcjeajbjcppaaDoorTie
import Derived.Test.YtnfcjeajbjcppaaDoorCards
import Derived.Lay
import Derived.LaidOnce
import Derived.LaidLaws
import Derived.ChangeSame
import Derived.ChangeVars
import Derived.JoinedOf
import Derived.SevenTiedAt
import Derived.MakeChecks
import Derived.LaidSub
import Derived.Lib.LaidTab
import Derived.Lib.ItoaNum
namespace Go.Proofs.YtnfcjeajbjcppaaDoor.headFields
open Go.ChangeShapes Go.WideShapes Go.ChangeAt Go.RowKit Go.Proofs.YtnfcjeajbjcppaaDoor.Vh Go.Vm
set_option linter.unusedVariables false
set_option linter.unusedSimpArgs false
theorem own : ownKnob Tryd.prog.godebug = none := by kernel_rfl
theorem shape0 : shapeOf Tryd.prog 5 43 = some ([.sl [.s]] : List SK) := by kernel_rfl
theorem shape1 : shapeOf Tryd.prog 5 4 = some ([.l .b] : List SK) := by kernel_rfl
theorem walk {x0 : V} (v0 : VPar [.sl [.s]] x0) {x1 : V} (v1 : VPar [.l .b] x1) (w : World) (vs : List Value) (hv : Rvs w.heap.size G0 w [x0, x1] vs) :
    Calls Tryd.prog 5 vs.toArray w fun e w' => e = .returned (.bool true) ∧ Below w.heap.size w w' :=
  HeadFields_row v0 v1 w vs hv
set_option maxRecDepth 100000 in
theorem lifted (os : Os) (started : os.Started) (H : Type) (enc : TypeId × Value → H) :
    ReturnsInHanded {} Tryd.checked os 5 .any (fun w args => (Rows.headFieldsSpec.pre enc Tryd.prog Tryd.f5 [] false w args ∧ laidMetH Tryd.prog Rows.headFieldsRow.laid w) ∧ sizedMet enc Tryd.prog Tryd.f5 (OpenSpec.ofChange Rows.headFieldsSpec) false w args)
      (Rows.headFieldsSpec.post enc Tryd.prog Tryd.f5 false true false false) := by
  refine returnsInHanded_of_change_and (C := Tryd.checked) (X := fun w _ => laidMetH Tryd.prog Rows.headFieldsRow.laid w) (fun _ _ _ hh h => h.of_heap hh) own started (by kernel_rfl) Tryd.func5
    (ChangeSpec.witness_shaped (enc := enc) (C := Tryd.checked) (os := os) (X := fun w _ => laidMetH Tryd.prog Rows.headFieldsRow.laid w) false (World.laidAll Tryd.prog os Rows.headFieldsRow.laid) #[.slice none 0 0, .bool false] 8 (World.laidAll_os _ _ _)
      (World.shaped_of_ZipB (by kernel_rfl) (by kernel_rfl)) (by kernel_rfl) (by kernel_rfl) (by kernel_rfl)
      (by rw [MakeChecks.laidMetH_plain _ _ _ (by kernel_rfl)]; exact laidMet_laidAll _ (by kernel_rfl) (by kernel_rfl))) ?_
  intro W base args ds gs before hval0 hW _ hsz0 hL _
  have hval : ∀ (j : Nat) t v, Tryd.f5.params[j]? = some t → args[j]? = some v → Value.okWide Tryd.prog W .any base t v := hval0
  have hW' := hW
  obtain ⟨p, q, hA0, hV, rfl, hfz, hnd⟩ := hW
  have hA : DataW.TrodAll enc Tryd.prog W 0 (fun _ => true) true Tryd.f5.params.toList args.toList ds p := hA0
  rw [Tryd.params5] at hA hval
  obtain ⟨v0, vs0, d0, ds0, p0, q0, hargs0, rfl, rfl, h0, r0⟩ := trodAll_cons hA
  obtain ⟨v1, vs1, d1, ds1, p1, q1, hargs1, rfl, rfl, h1, r1⟩ := trodAll_cons r0
  obtain ⟨rfl, rfl, rfl⟩ := trodAll_nil r1
  obtain rfl : args = #[v0, v1] := by cases args; simp_all
  obtain ⟨rfl, rfl⟩ := trodVars_none hV
  have hlt0 : ∀ x ∈ p0, x.block < W.heap.size := fun x hx => hW'.lt x (by simp [hx])
  have k0 : ∀ W', Below W.heap.size W W' → _ := fun W' hn => Below.trod (W' := W') (by kernel_rfl) (by kernel_rfl) (of_decide_eq_true (by kernel_rfl)) h0 hn hlt0
  have hlt1 : ∀ x ∈ p1, x.block < W.heap.size := fun x hx => hW'.lt x (by simp [hx])
  have k1 : ∀ W', Below W.heap.size W W' → _ := fun W' hn => Below.trod (W' := W') (by kernel_rfl) (by kernel_rfl) (of_decide_eq_true (by kernel_rfl)) h1 hn hlt1
  obtain ⟨x0, g0, rv0⟩ := open_par 5 shape0 h0 (fun z hzm => all_reach hsz0 z (mem_weightsEach (i := 0) (t := 43) rfl rfl hzm)) (fun _ => not_agg (by kernel_rfl) (hval 0 43 v0 rfl rfl))
  obtain ⟨x1, g1, rv1⟩ := open_par 5 shape1 h1 (fun z hzm => all_reach hsz0 z (mem_weightsEach (i := 1) (t := 4) rfl rfl hzm)) (fun _ => not_agg (by kernel_rfl) (hval 1 4 v1 rfl rfl))
  clear hA0 hval0
  refine (walk g0 g1 W _ (rvs_cons rv0 (rvs_cons rv1 rvs_nil))).mono fun e W' ⟨he, bel⟩ => ?_
  subst he
  exact ⟨_, rfl, _, _, _, [], _, [], hW', trodAll_mk1 (shut_bool Tryd.underlying4 _), (trodAll_cons_mk (k0 W' bel) (trodAll_cons_mk (k1 W' bel) trodAll_mk0)), rfl, bel.frame _, fun h => by cases h⟩
theorem over : Rows.headFieldsRow.holds Tryd.pinned (OpenSpec.ofChange Rows.headFieldsSpec) :=
  OpenClaim.holds_of_wide 5 Tryd.f5 rfl rfl rfl rfl rfl rfl rfl ⟨rfl, rfl, rfl, rfl, rfl⟩ rfl rfl rfl rfl rfl (by kernel_rfl) Tryd.func5 (by kernel_rfl)
    (of_decide_eq_true (by kernel_rfl)) (by unfold Func.isWrapper; first | (rw [if_pos (by decide +kernel)]; kernel_rfl) | (rw [if_neg (by decide +kernel)]; exact ⟨rfl, rfl⟩))
    (fun os started H enc _ => lifted os started H enc)
theorem card : Claim7.holds Tryd.pinned (.plain (OpenSpec.ofChange Rows.headFieldsSpec)) Rows.headFieldsCard :=
  Claim7.holds_tied_plain_at .later [] [.data, .pinned] true (true, "ec257f660871ba717d214e75e6daddb554b292c1b47c1e7e2f248a387e30e10f") false over (fun _ h => by cases h) (by kernel_rfl) (fun _ h => by cases h) headFields_row_tie rfl ⟨rfl, rfl⟩ (by kernel_rfl) rfl
    (fun f fn hf hfn => by
      obtain rfl : f = 5 := Option.some.inj ((show Tryd.prog.funcNamed "gatepost/gatepostlaw05.HeadFields" = some 5 by kernel_rfl).symm.trans hf) |>.symm
      obtain rfl : fn = Tryd.f5 := (Option.some.inj (Tryd.func5.symm.trans hfn)).symm
      exact ⟨by kernel_rfl, fun j t ht => by
        rw [Tryd.params5] at ht
        have hm : t ∈ [43, 4] := by simpa using Array.mem_of_getElem? ht
        have hall : ([43, 4].all fun u => !Tryd.prog.wantsStandIn u) = true := by kernel_rfl
        exact (show Tryd.prog.wantsStandIn t = false by simpa using List.all_eq_true.1 hall t hm)⟩)
    (by kernel_rfl)
theorem proved : Rows.HeadFieldsCardSaid := card
#print axioms proved
end Go.Proofs.YtnfcjeajbjcppaaDoor.headFields
namespace Go.Proofs.YtnfcjeajbjcppaaDoor
/-- The row, under a short name, for the claim. -/
theorem headFields_holds : Rows.HeadFieldsCardSaid := headFields.proved
end Go.Proofs.YtnfcjeajbjcppaaDoor
