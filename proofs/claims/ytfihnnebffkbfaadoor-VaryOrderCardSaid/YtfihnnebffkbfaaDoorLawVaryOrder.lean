/- The row of VaryOrder: its arguments opened, the run on the small machine, and shut again. Conditions: those of the given row. -/
import Derived.Test.YtfihnnebffkbfaaDoorRows
import Derived.Test.YtfihnnebffkbfaaDoorVVOrd
import Derived.Test.YtfihnnebffkbfaaDoorVmOpen
import Derived.WalkKit
import Derived.ProofKit
import Derived.OpenShut
import Derived.ShutString
import Derived.ChangeOld
import Derived.Below
import Derived.Carry
import Derived.SizedLaws
import Derived.Test.YtfihnnebffkbfaaDoorTie
import Derived.Test.YtfihnnebffkbfaaDoorCards
import Derived.Lay
import Derived.LaidOnce
import Derived.LaidLaws
import Derived.ChangeSame
import Derived.ChangeVars
import Derived.JoinedOf
import Derived.SevenTiedAt
import Derived.MakeChecks
import Derived.LaidSub
import Derived.Lib.LaidTab
import Derived.Lib.ItoaNum
namespace Go.Proofs.YtfihnnebffkbfaaDoor.varyOrder
open Go.ChangeShapes Go.WideShapes Go.ChangeAt Go.RowKit Go.Proofs.YtfihnnebffkbfaaDoor.Vh Go.Vm
set_option linter.unusedVariables false
set_option linter.unusedSimpArgs false
theorem own : ownKnob Tryd.prog.godebug = none := by kernel_rfl
theorem shape0 : shapeOf Tryd.prog 5 31 = some ([.sl [.i .i64]] : List SK) := by kernel_rfl
theorem shape1 : shapeOf Tryd.prog 5 4 = some ([.l .b] : List SK) := by kernel_rfl
theorem walk {x0 : V} (v0 : VPar [.sl [.i .i64]] x0) {x1 : V} (v1 : VPar [.l .b] x1) (w : World) (ht : Lib.TabIs Tryd.prog w "internal/strconv.uint64pow10" .u64 Lib.pow10Tab) (vs : List Value) (hv : Rvs w.heap.size G0 w [x0, x1] vs) :
    Calls Tryd.prog 4 vs.toArray w fun e w' => e = .returned (.bool true) ∧ Below w.heap.size w w' :=
  VaryOrder_row v0 v1 w ht vs hv
theorem tab {w : World} (h : laidMetH Tryd.prog Rows.varyOrderRow.laid w) : Lib.TabIs Tryd.prog w "internal/strconv.uint64pow10" .u64 Lib.pow10Tab := by
  rw [MakeChecks.laidMetH_plain _ _ _ (by kernel_rfl)] at h
  have h1 := h.filter fun x => x.1 == "internal/strconv.uint64pow10"
  rw [show (Rows.varyOrderRow.laid.filter fun x => x.1 == "internal/strconv.uint64pow10") = [("internal/strconv.uint64pow10", Lib.tabData .u64 Lib.pow10Tab)] from by kernel_rfl] at h1
  exact Lib.tabIs_of_head (g := 0) (t := 95) (e := 78) (n := 20) (by kernel_rfl) (by kernel_rfl) (by kernel_rfl) (by kernel_rfl) (by kernel_rfl) (by kernel_rfl) h1
set_option maxRecDepth 100000 in
theorem lifted (os : Os) (started : os.Started) (H : Type) (enc : TypeId × Value → H) :
    ReturnsInHanded {} Tryd.checked os 4 .any (fun w args => (Rows.varyOrderSpec.pre enc Tryd.prog Tryd.f4 [] false w args ∧ laidMetH Tryd.prog Rows.varyOrderRow.laid w) ∧ sizedMet enc Tryd.prog Tryd.f4 (OpenSpec.ofChange Rows.varyOrderSpec) false w args)
      (Rows.varyOrderSpec.post enc Tryd.prog Tryd.f4 false true false false) := by
  refine returnsInHanded_of_change_and (C := Tryd.checked) (X := fun w _ => laidMetH Tryd.prog Rows.varyOrderRow.laid w) (fun _ _ _ hh h => h.of_heap hh) own started (by kernel_rfl) Tryd.func4
    (ChangeSpec.witness_shaped (enc := enc) (C := Tryd.checked) (os := os) (X := fun w _ => laidMetH Tryd.prog Rows.varyOrderRow.laid w) false (World.laidAll Tryd.prog os Rows.varyOrderRow.laid) #[.slice none 0 0, .bool false] 8 (World.laidAll_os _ _ _)
      (World.shaped_of_ZipB (by kernel_rfl) (by kernel_rfl)) (by kernel_rfl) (by kernel_rfl) (by kernel_rfl)
      (by rw [MakeChecks.laidMetH_plain _ _ _ (by kernel_rfl)]; exact laidMet_laidAll _ (by kernel_rfl) (by kernel_rfl))) ?_
  intro W base args ds gs before hval0 hW _ hsz0 hL _
  have hval : ∀ (j : Nat) t v, Tryd.f4.params[j]? = some t → args[j]? = some v → Value.okWide Tryd.prog W .any base t v := hval0
  have hW' := hW
  obtain ⟨p, q, hA0, hV, rfl, hfz, hnd⟩ := hW
  have hA : DataW.TrodAll enc Tryd.prog W 0 (fun _ => true) true Tryd.f4.params.toList args.toList ds p := hA0
  rw [Tryd.params4] at hA hval
  obtain ⟨v0, vs0, d0, ds0, p0, q0, hargs0, rfl, rfl, h0, r0⟩ := trodAll_cons hA
  obtain ⟨v1, vs1, d1, ds1, p1, q1, hargs1, rfl, rfl, h1, r1⟩ := trodAll_cons r0
  obtain ⟨rfl, rfl, rfl⟩ := trodAll_nil r1
  obtain rfl : args = #[v0, v1] := by cases args; simp_all
  obtain ⟨rfl, rfl⟩ := trodVars_none hV
  have hlt0 : ∀ x ∈ p0, x.block < W.heap.size := fun x hx => hW'.lt x (by simp [hx])
  have k0 : ∀ W', Below W.heap.size W W' → _ := fun W' hn => Below.trod (W' := W') (by kernel_rfl) (by kernel_rfl) (of_decide_eq_true (by kernel_rfl)) h0 hn hlt0
  have hlt1 : ∀ x ∈ p1, x.block < W.heap.size := fun x hx => hW'.lt x (by simp [hx])
  have k1 : ∀ W', Below W.heap.size W W' → _ := fun W' hn => Below.trod (W' := W') (by kernel_rfl) (by kernel_rfl) (of_decide_eq_true (by kernel_rfl)) h1 hn hlt1
  obtain ⟨x0, g0, rv0⟩ := open_par 5 shape0 h0 (fun z hzm => all_reach hsz0 z (mem_weightsEach (i := 0) (t := 31) rfl rfl hzm)) (fun _ => not_agg (by kernel_rfl) (hval 0 31 v0 rfl rfl))
  obtain ⟨x1, g1, rv1⟩ := open_par 5 shape1 h1 (fun z hzm => all_reach hsz0 z (mem_weightsEach (i := 1) (t := 4) rfl rfl hzm)) (fun _ => not_agg (by kernel_rfl) (hval 1 4 v1 rfl rfl))
  clear hA0 hval0
  refine (walk g0 g1 W (tab hL) _ (rvs_cons rv0 (rvs_cons rv1 rvs_nil))).mono fun e W' ⟨he, bel⟩ => ?_
  subst he
  exact ⟨_, rfl, _, _, _, [], _, [], hW', trodAll_mk1 (shut_bool Tryd.underlying4 _), (trodAll_cons_mk (k0 W' bel) (trodAll_cons_mk (k1 W' bel) trodAll_mk0)), rfl, bel.frame _, fun h => by cases h⟩
theorem over : Rows.varyOrderRow.holds Tryd.pinned (OpenSpec.ofChange Rows.varyOrderSpec) :=
  OpenClaim.holds_of_wide 4 Tryd.f4 rfl rfl rfl rfl rfl rfl rfl ⟨rfl, rfl, rfl, rfl, rfl⟩ rfl rfl rfl rfl rfl (by kernel_rfl) Tryd.func4 (by kernel_rfl)
    (of_decide_eq_true (by kernel_rfl)) (by unfold Func.isWrapper; first | (rw [if_pos (by decide +kernel)]; kernel_rfl) | (rw [if_neg (by decide +kernel)]; exact ⟨rfl, rfl⟩))
    (fun os started H enc _ => lifted os started H enc)
theorem card : Claim7.holds Tryd.pinned (.plain (OpenSpec.ofChange Rows.varyOrderSpec)) Rows.varyOrderCard :=
  Claim7.holds_tied_plain_at .later [] [.data, .data, .data, .data, .pinned] true (true, "05c65a4082740c95f1488f2a4afb43bfa896a1116e7a782ac5de610544fc4b9e") false over (fun _ h => by cases h) (by kernel_rfl) (fun _ h => by cases h) varyOrder_row_tie rfl ⟨rfl, rfl⟩ (by kernel_rfl) rfl
    (fun f fn hf hfn => by
      obtain rfl : f = 4 := Option.some.inj ((show Tryd.prog.funcNamed "gatepost/gatepostlaw11.VaryOrder" = some 4 by kernel_rfl).symm.trans hf) |>.symm
      obtain rfl : fn = Tryd.f4 := (Option.some.inj (Tryd.func4.symm.trans hfn)).symm
      exact ⟨by kernel_rfl, fun j t ht => by
        rw [Tryd.params4] at ht
        have hm : t ∈ [31, 4] := by simpa using Array.mem_of_getElem? ht
        have hall : ([31, 4].all fun u => !Tryd.prog.wantsStandIn u) = true := by kernel_rfl
        exact (show Tryd.prog.wantsStandIn t = false by simpa using List.all_eq_true.1 hall t hm)⟩)
    (by kernel_rfl)
theorem proved : Rows.VaryOrderCardSaid := card
#print axioms proved
end Go.Proofs.YtfihnnebffkbfaaDoor.varyOrder
namespace Go.Proofs.YtfihnnebffkbfaaDoor
/-- The row, under a short name, for the claim. -/
theorem varyOrder_holds : Rows.VaryOrderCardSaid := varyOrder.proved
end Go.Proofs.YtfihnnebffkbfaaDoor
