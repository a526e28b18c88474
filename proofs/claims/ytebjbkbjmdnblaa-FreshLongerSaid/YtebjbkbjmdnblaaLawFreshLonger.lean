/- The row of FreshLonger: its arguments opened, the run on the small machine, and shut again. Conditions: those of the given row. -/
import Derived.Test.YtebjbkbjmdnblaaRows
import Derived.Test.YtebjbkbjmdnblaaPk6
import Derived.Test.YtebjbkbjmdnblaaPk5
import Derived.WalkKit
import Derived.ProofKit
import Derived.OpenShut
import Derived.ShutString
import Derived.ChangeOld
import Derived.Below
import Derived.Carry
import Derived.SizedLaws
namespace Go.Proofs.Ytebjbkbjmdnblaa.freshLonger
open Go.ChangeShapes Go.WideShapes Go.ChangeAt Go.RowKit Go.Proofs.Ytebjbkbjmdnblaa.Vh Go.Vm
set_option linter.unusedVariables false
set_option linter.unusedSimpArgs false
theorem own : ownKnob Try.prog.godebug = none := by kernel_rfl
theorem shape0 : shapeOf Try.prog 5 25 = some ([.l (.i .i64), .l .b, .l .b, .l .b, .l .b, .l .b, .l .b, .l .b, .l (.i .i64), .l (.i .i64), .l (.i .i64), .l (.i .i64), .l (.i .i64), .l (.i .i64), .l (.i .i64), .l (.i .i64), .l (.i .i64), .l (.i .i64), .l (.i .i64), .l (.i .i64), .l .s] : List SK) := by kernel_rfl
theorem shape1 : shapeOf Try.prog 5 3 = some ([.l (.i .i64)] : List SK) := by kernel_rfl
theorem shape2 : shapeOf Try.prog 5 32 = some ([.l (.i .i64), .l (.i .i64)] : List SK) := by kernel_rfl
theorem walk {x0 : V} (v0 : VPar [.l (.i .i64), .l .b, .l .b, .l .b, .l .b, .l .b, .l .b, .l .b, .l (.i .i64), .l (.i .i64), .l (.i .i64), .l (.i .i64), .l (.i .i64), .l (.i .i64), .l (.i .i64), .l (.i .i64), .l (.i .i64), .l (.i .i64), .l (.i .i64), .l (.i .i64), .l .s] x0) {x1 : V} (v1 : VPar [.l (.i .i64)] x1) {x2 : V} (v2 : VPar [.l (.i .i64), .l (.i .i64)] x2) (w : World) (vs : List Value) (hv : Rvs w.heap.size G0 w [x0, x1, x2] vs) :
    Calls Try.prog 7 vs.toArray w fun e w' => e = .returned (.bool true) ∧ Below w.heap.size w w' :=
  FreshLonger_row v0 v1 v2 w vs hv
set_option maxRecDepth 100000 in
theorem lifted (os : Os) (started : os.Started) (H : Type) (enc : TypeId × Value → H) :
    ReturnsInHanded {} Try.checked os 7 .any (Rows.freshLongerSpec.pre6 enc Try.prog Try.f7 Rows.freshLongerRow.domain false) (Rows.freshLongerSpec.post enc Try.prog Try.f7 false true false false) := by
  refine returnsInHanded_of_change_sized (C := Try.checked) own started (by kernel_rfl) Try.func7
    (ChangeSpec.witness6 (enc := enc) (C := Try.checked) false ⟨#[], #[.agg #[.int .i64 0, .bool false, .bool false, .bool false, .bool false, .bool false, .bool false, .bool false, .int .i64 0, .int .i64 0, .int .i64 0, .int .i64 0, .int .i64 0, .int .i64 0, .int .i64 0, .int .i64 0, .int .i64 0, .int .i64 0, .int .i64 0, .int .i64 0, .string ByteArray.empty], .int .i64 0, .agg #[.int .i64 0, .int .i64 0]], []⟩ 8 (by kernel_rfl) (by kernel_rfl) (by kernel_rfl) (by kernel_rfl)) ?_
  intro W base args ds gs before hval0 hW hcnd hsz0 _
  have hval : ∀ (j : Nat) t v, Try.f7.params[j]? = some t → args[j]? = some v → Value.okWide Try.prog W .any base t v := hval0
  have hW' := hW
  obtain ⟨p, q, hA0, hV, rfl, hfz, hnd⟩ := hW
  have hA : DataW.TrodAll enc Try.prog W 0 (fun _ => true) true Try.f7.params.toList args.toList ds p := hA0
  rw [Try.params7] at hA hval
  obtain ⟨v0, vs0, d0, ds0, p0, q0, hargs0, rfl, rfl, h0, r0⟩ := trodAll_cons hA
  obtain ⟨v1, vs1, d1, ds1, p1, q1, hargs1, rfl, rfl, h1, r1⟩ := trodAll_cons r0
  obtain ⟨v2, vs2, d2, ds2, p2, q2, hargs2, rfl, rfl, h2, r2⟩ := trodAll_cons r1
  obtain ⟨rfl, rfl, rfl⟩ := trodAll_nil r2
  obtain rfl : args = #[v0, v1, v2] := by cases args; simp_all
  obtain ⟨rfl, rfl⟩ := trodVars_none hV
  have hlt0 : ∀ x ∈ p0, x.block < W.heap.size := fun x hx => hW'.lt x (by simp [hx])
  have k0 : ∀ W', Below W.heap.size W W' → _ := fun W' hn => Below.trod (W' := W') (by kernel_rfl) (by kernel_rfl) (of_decide_eq_true (by kernel_rfl)) h0 hn hlt0
  have hlt1 : ∀ x ∈ p1, x.block < W.heap.size := fun x hx => hW'.lt x (by simp [hx])
  have k1 : ∀ W', Below W.heap.size W W' → _ := fun W' hn => Below.trod (W' := W') (by kernel_rfl) (by kernel_rfl) (of_decide_eq_true (by kernel_rfl)) h1 hn hlt1
  have hlt2 : ∀ x ∈ p2, x.block < W.heap.size := fun x hx => hW'.lt x (by simp [hx])
  have k2 : ∀ W', Below W.heap.size W W' → _ := fun W' hn => Below.trod (W' := W') (by kernel_rfl) (by kernel_rfl) (of_decide_eq_true (by kernel_rfl)) h2 hn hlt2
  obtain ⟨x0, g0, rv0⟩ := open_par 5 shape0 h0 (fun z hzm => all_reach hsz0 z (mem_weightsEach (i := 0) (t := 25) rfl rfl hzm)) (fun h => by simp at h)
  obtain ⟨x1, g1, rv1⟩ := open_par 5 shape1 h1 (fun z hzm => all_reach hsz0 z (mem_weightsEach (i := 1) (t := 3) rfl rfl hzm)) (fun _ => not_agg (by kernel_rfl) (hval 1 3 v1 rfl rfl))
  obtain ⟨x2, g2, rv2⟩ := open_par 5 shape2 h2 (fun z hzm => all_reach hsz0 z (mem_weightsEach (i := 2) (t := 32) rfl rfl hzm)) (fun h => by simp at h)
  clear hA0 hval0
  refine (walk g0 g1 g2 W _ (rvs_cons rv0 (rvs_cons rv1 (rvs_cons rv2 rvs_nil)))).mono fun e W' ⟨he, bel⟩ => ?_
  subst he
  exact ⟨_, rfl, _, _, _, [], _, [], hW', trodAll_mk1 (shut_bool Try.underlying4 _), (trodAll_cons_mk (k0 W' bel) (trodAll_cons_mk (k1 W' bel) (trodAll_cons_mk (k2 W' bel) trodAll_mk0))), rfl, bel.frame _, fun h => by cases h⟩
theorem over : Rows.freshLongerRow.holds Try.pinned (OpenSpec.ofChange Rows.freshLongerSpec) :=
  OpenClaim.holds_of_wide 7 Try.f7 rfl rfl rfl rfl rfl rfl rfl ⟨rfl, rfl, rfl, rfl, rfl⟩ rfl rfl rfl rfl rfl (by kernel_rfl) Try.func7 (by kernel_rfl)
    (of_decide_eq_true (by kernel_rfl)) (by unfold Func.isWrapper; first | (rw [if_pos (by decide +kernel)]; kernel_rfl) | (rw [if_neg (by decide +kernel)]; exact ⟨rfl, rfl⟩))
    (fun os started H enc _ => lifted os started H enc)
theorem proved : Rows.FreshLongerSaid := over
#print axioms proved
end Go.Proofs.Ytebjbkbjmdnblaa.freshLonger
namespace Go.Proofs.Ytebjbkbjmdnblaa
/-- The row, under a short name, for the claim. -/
theorem freshLonger_holds : Rows.FreshLongerSaid := freshLonger.proved
end Go.Proofs.Ytebjbkbjmdnblaa
