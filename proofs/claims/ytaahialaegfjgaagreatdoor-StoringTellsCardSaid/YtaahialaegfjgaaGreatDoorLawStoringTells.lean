/- The row of StoringTells: its arguments opened, the run on the small machine, and shut again. Conditions: those of the given row. -/
import Derived.Test.YtaahialaegfjgaaGreatDoorRows
import Derived.Test.YtaahialaegfjgaaGreatDoorPk8
import Derived.Test.YtaahialaegfjgaaGreatDoorPk6
import Derived.WalkKit
import Derived.ProofKit
import Derived.OpenShut
import Derived.ShutString
import Derived.ChangeOld
import Derived.Below
import Derived.Carry
import Derived.SizedLaws
import Derived.Test.YtaahialaegfjgaaGreatDoorTie
import Derived.Test.YtaahialaegfjgaaGreatDoorCards
import Derived.Lay
import Derived.LaidOnce
import Derived.LaidLaws
import Derived.ChangeSame
import Derived.ChangeVars
import Derived.JoinedOf
import Derived.SevenTiedAt
import Derived.MakeChecks
import Derived.LaidSub
import Derived.Lib.LaidTab
import Derived.Lib.ItoaNum
namespace Go.Proofs.YtaahialaegfjgaaGreatDoor.storingTells
open Go.ChangeShapes Go.WideShapes Go.ChangeAt Go.RowKit Go.Proofs.YtaahialaegfjgaaGreatDoor.Vh Go.Vm
set_option linter.unusedVariables false
set_option linter.unusedSimpArgs false
theorem own : ownKnob Tryz.prog.godebug = none := by kernel_rfl
theorem shape0 : shapeOf Tryz.prog 5 37 = some ([.l .s, .l .s, .l (.i .i64), .sl [.s, .s]] : List SK) := by kernel_rfl
theorem shape1 : shapeOf Tryz.prog 5 34 = some ([.l (.i .i64), .l (.i .i64), .l .s, .sl [.s, .s]] : List SK) := by kernel_rfl
theorem shape2 : shapeOf Tryz.prog 5 38 = some ([.l (.i .i64), .l (.i .i64)] : List SK) := by kernel_rfl
theorem walk {x0 : V} (v0 : VPar [.l .s, .l .s, .l (.i .i64), .sl [.s, .s]] x0) {x1 : V} (v1 : VPar [.l (.i .i64), .l (.i .i64), .l .s, .sl [.s, .s]] x1) {x2 : V} (v2 : VPar [.l (.i .i64), .l (.i .i64)] x2) (w : World) (vs : List Value) (hv : Rvs w.heap.size G0 w [x0, x1, x2] vs) :
    Calls Tryz.prog 4 vs.toArray w fun e w' => e = .returned (.bool true) ∧ Below w.heap.size w w' :=
  StoringTells_row v0 v1 v2 w vs hv
set_option maxRecDepth 100000 in
theorem lifted (os : Os) (started : os.Started) (H : Type) (enc : TypeId × Value → H) :
    ReturnsInHanded {} Tryz.checked os 4 .any (fun w args => (Rows.storingTellsSpec.pre enc Tryz.prog Tryz.f4 [] false w args ∧ laidMetH Tryz.prog Rows.storingTellsRow.laid w) ∧ sizedMet enc Tryz.prog Tryz.f4 (OpenSpec.ofChange Rows.storingTellsSpec) false w args)
      (Rows.storingTellsSpec.post enc Tryz.prog Tryz.f4 false true false false) := by
  refine returnsInHanded_of_change_and (C := Tryz.checked) (X := fun w _ => laidMetH Tryz.prog Rows.storingTellsRow.laid w) (fun _ _ _ hh h => h.of_heap hh) own started (by kernel_rfl) Tryz.func4
    (ChangeSpec.witness_shaped (enc := enc) (C := Tryz.checked) (os := os) (X := fun w _ => laidMetH Tryz.prog Rows.storingTellsRow.laid w) false (World.laidAll Tryz.prog os Rows.storingTellsRow.laid) #[.agg #[.string ByteArray.empty, .string ByteArray.empty, .int .i64 0, .slice none 0 0], .agg #[.int .i64 0, .int .i64 0, .string ByteArray.empty, .slice none 0 0], .agg #[.int .i64 0, .int .i64 0]] 8 (World.laidAll_os _ _ _)
      (World.shaped_of_ZipB (by kernel_rfl) (by kernel_rfl)) (by kernel_rfl) (by kernel_rfl) (by kernel_rfl)
      (by rw [MakeChecks.laidMetH_plain _ _ _ (by kernel_rfl)]; exact laidMet_laidAll _ (by kernel_rfl) (by kernel_rfl))) ?_
  intro W base args ds gs before hval0 hW _ hsz0 hL _
  have hval : ∀ (j : Nat) t v, Tryz.f4.params[j]? = some t → args[j]? = some v → Value.okWide Tryz.prog W .any base t v := hval0
  have hW' := hW
  obtain ⟨p, q, hA0, hV, rfl, hfz, hnd⟩ := hW
  have hA : DataW.TrodAll enc Tryz.prog W 0 (fun _ => true) true Tryz.f4.params.toList args.toList ds p := hA0
  rw [Tryz.params4] at hA hval
  obtain ⟨v0, vs0, d0, ds0, p0, q0, hargs0, rfl, rfl, h0, r0⟩ := trodAll_cons hA
  obtain ⟨v1, vs1, d1, ds1, p1, q1, hargs1, rfl, rfl, h1, r1⟩ := trodAll_cons r0
  obtain ⟨v2, vs2, d2, ds2, p2, q2, hargs2, rfl, rfl, h2, r2⟩ := trodAll_cons r1
  obtain ⟨rfl, rfl, rfl⟩ := trodAll_nil r2
  obtain rfl : args = #[v0, v1, v2] := by cases args; simp_all
  obtain ⟨rfl, rfl⟩ := trodVars_none hV
  have hlt0 : ∀ x ∈ p0, x.block < W.heap.size := fun x hx => hW'.lt x (by simp [hx])
  have k0 : ∀ W', Below W.heap.size W W' → _ := fun W' hn => Below.trod (W' := W') (by kernel_rfl) (by kernel_rfl) (of_decide_eq_true (by kernel_rfl)) h0 hn hlt0
  have hlt1 : ∀ x ∈ p1, x.block < W.heap.size := fun x hx => hW'.lt x (by simp [hx])
  have k1 : ∀ W', Below W.heap.size W W' → _ := fun W' hn => Below.trod (W' := W') (by kernel_rfl) (by kernel_rfl) (of_decide_eq_true (by kernel_rfl)) h1 hn hlt1
  have hlt2 : ∀ x ∈ p2, x.block < W.heap.size := fun x hx => hW'.lt x (by simp [hx])
  have k2 : ∀ W', Below W.heap.size W W' → _ := fun W' hn => Below.trod (W' := W') (by kernel_rfl) (by kernel_rfl) (of_decide_eq_true (by kernel_rfl)) h2 hn hlt2
  obtain ⟨x0, g0, rv0⟩ := open_par 5 shape0 h0 (fun z hzm => all_reach hsz0 z (mem_weightsEach (i := 0) (t := 37) rfl rfl hzm)) (fun h => by simp at h)
  obtain ⟨x1, g1, rv1⟩ := open_par 5 shape1 h1 (fun z hzm => all_reach hsz0 z (mem_weightsEach (i := 1) (t := 34) rfl rfl hzm)) (fun h => by simp at h)
  obtain ⟨x2, g2, rv2⟩ := open_par 5 shape2 h2 (fun z hzm => all_reach hsz0 z (mem_weightsEach (i := 2) (t := 38) rfl rfl hzm)) (fun h => by simp at h)
  clear hA0 hval0
  refine (walk g0 g1 g2 W _ (rvs_cons rv0 (rvs_cons rv1 (rvs_cons rv2 rvs_nil)))).mono fun e W' ⟨he, bel⟩ => ?_
  subst he
  exact ⟨_, rfl, _, _, _, [], _, [], hW', trodAll_mk1 (shut_bool Tryz.underlying4 _), (trodAll_cons_mk (k0 W' bel) (trodAll_cons_mk (k1 W' bel) (trodAll_cons_mk (k2 W' bel) trodAll_mk0))), rfl, bel.frame _, fun h => by cases h⟩
theorem over : Rows.storingTellsRow.holds Tryz.pinned (OpenSpec.ofChange Rows.storingTellsSpec) :=
  OpenClaim.holds_of_wide 4 Tryz.f4 rfl rfl rfl rfl rfl rfl rfl ⟨rfl, rfl, rfl, rfl, rfl⟩ rfl rfl rfl rfl rfl (by kernel_rfl) Tryz.func4 (by kernel_rfl)
    (of_decide_eq_true (by kernel_rfl)) (by unfold Func.isWrapper; first | (rw [if_pos (by decide +kernel)]; kernel_rfl) | (rw [if_neg (by decide +kernel)]; exact ⟨rfl, rfl⟩))
    (fun os started H enc _ => lifted os started H enc)
theorem card : Claim7.holds Tryz.pinned (.plain (OpenSpec.ofChange Rows.storingTellsSpec)) Rows.storingTellsCard :=
  Claim7.holds_tied_plain_at .later [] [.data, .pinned] true (true, "5c69b1f978073804987019e032270955c5384be9ff35a60e338b584292080ceb") false over (fun _ h => by cases h) (by kernel_rfl) (fun _ h => by cases h) storingTells_row_tie rfl ⟨rfl, rfl⟩ (by kernel_rfl) rfl
    (fun f fn hf hfn => by
      obtain rfl : f = 4 := Option.some.inj ((show Tryz.prog.funcNamed "gatepost/gatepostlaw10.StoringTells" = some 4 by kernel_rfl).symm.trans hf) |>.symm
      obtain rfl : fn = Tryz.f4 := (Option.some.inj (Tryz.func4.symm.trans hfn)).symm
      exact ⟨by kernel_rfl, fun j t ht => by
        rw [Tryz.params4] at ht
        have hm : t ∈ [37, 34, 38] := by simpa using Array.mem_of_getElem? ht
        have hall : ([37, 34, 38].all fun u => !Tryz.prog.wantsStandIn u) = true := by kernel_rfl
        exact (show Tryz.prog.wantsStandIn t = false by simpa using List.all_eq_true.1 hall t hm)⟩)
    (by kernel_rfl)
theorem proved : Rows.StoringTellsCardSaid := card
#print axioms proved
end Go.Proofs.YtaahialaegfjgaaGreatDoor.storingTells
namespace Go.Proofs.YtaahialaegfjgaaGreatDoor
/-- The row, under a short name, for the claim. -/
theorem storingTells_holds : Rows.StoringTellsCardSaid := storingTells.proved
end Go.Proofs.YtaahialaegfjgaaGreatDoor
