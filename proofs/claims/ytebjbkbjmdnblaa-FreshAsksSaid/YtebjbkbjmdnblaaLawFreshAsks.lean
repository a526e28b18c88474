/- The row of FreshAsks: its arguments opened, the walk, and shut again. -/
import Derived.Test.YtebjbkbjmdnblaaRows
import Derived.Test.YtebjbkbjmdnblaaVAsks
import Derived.Test.YtebjbkbjmdnblaaVmRow
import Derived.Test.YtebjbkbjmdnblaaHOpen
import Derived.WalkKit
import Derived.ProofKit
import Derived.OpenShut
import Derived.ShutString
import Derived.ChangeOld
import Derived.Below
import Derived.Carry
import Derived.SizedLaws
namespace Go.Proofs.Ytebjbkbjmdnblaa.freshAsks
open Go.ChangeShapes Go.WideShapes Go.ChangeAt Go.RowKit Go.Proofs.Ytebjbkbjmdnblaa.Hp Go.Proofs.Ytebjbkbjmdnblaa.Vh Go.Vm
set_option linter.unusedVariables false
theorem own : ownKnob Try.prog.godebug = none := by kernel_rfl
theorem walk (c0 : Int) (c1 : Bool) (c2 : Bool) (c3 : Bool) (c4 : Bool) (c5 : Bool) (c6 : Bool) (c7 : Bool) (c8 : Int) (c9 : Int) (c10 : Int) (c11 : Int) (c12 : Int) (c13 : Int) (c14 : Int) (c15 : Int) (c16 : Int) (c17 : Int) (c18 : Int) (c19 : Int) (c20 : ByteArray) (d0 : Bool) (d1 : Bool) (d2 : Bool) (d3 : Bool) (d4 : Bool) (d5 : Bool) (d6 : Bool) (d7 : Int) (d8 : Int) (d9 : Int) (d10 : Int) (d11 : Int) (d12 : Int) (e0 : Int) (w : World) :
    Calls Try.prog 6 #[.agg #[.int .i64 c0, .bool c1, .bool c2, .bool c3, .bool c4, .bool c5, .bool c6, .bool c7, .int .i64 c8, .int .i64 c9, .int .i64 c10, .int .i64 c11, .int .i64 c12, .int .i64 c13, .int .i64 c14, .int .i64 c15, .int .i64 c16, .int .i64 c17, .int .i64 c18, .int .i64 c19, .string c20], .agg #[.bool d0, .bool d1, .bool d2, .bool d3, .bool d4, .bool d5, .bool d6, .int .i64 d7, .int .i64 d8, .int .i64 d9, .int .i64 d10, .int .i64 d11, .int .i64 d12], .int .i64 e0] w fun e w' => e = .returned (.bool true) ∧ Below w.heap.size w w' := by
  refine calls_of hm hF lib_none (L := fun _ _ _ => False) (args := [.agg [.int .i64 c0, .bool c1, .bool c2, .bool c3, .bool c4, .bool c5, .bool c6, .bool c7, .int .i64 c8, .int .i64 c9, .int .i64 c10, .int .i64 c11, .int .i64 c12, .int .i64 c13, .int .i64 c14, .int .i64 c15, .int .i64 c16, .int .i64 c17, .int .i64 c18, .int .i64 c19, .str c20.data.toList], .agg [.bool d0, .bool d1, .bool d2, .bool d3, .bool d4, .bool d5, .bool d6, .int .i64 d7, .int .i64 d8, .int .i64 d9, .int .i64 d10, .int .i64 d11, .int .i64 d12], .int .i64 e0])
    (Asks_ok.mono fun v h' hp => hp.1) (vs := [_, _, _]) ?_
  refine rvs_cons (rv_agg rfl ?_ ?_) (rvs_cons (rv_agg rfl ?_ ?_) (rvs_cons (.int _ _) rvs_nil))
  · exact rvs_cons (.int _ _) (rvs_cons (.bool _) (rvs_cons (.bool _) (rvs_cons (.bool _) (rvs_cons (.bool _) (rvs_cons (.bool _) (rvs_cons (.bool _) (rvs_cons (.bool _) (rvs_cons (.int _ _) (rvs_cons (.int _ _) (rvs_cons (.int _ _) (rvs_cons (.int _ _) (rvs_cons (.int _ _) (rvs_cons (.int _ _) (rvs_cons (.int _ _) (rvs_cons (.int _ _) (rvs_cons (.int _ _) (rvs_cons (.int _ _) (rvs_cons (.int _ _) (rvs_cons (.int _ _) (rvs_cons (rv_str _) rvs_nil))))))))))))))))))))
  · intro c hc
    simp only [List.mem_cons, List.not_mem_nil, or_false] at hc
    rcases hc with rfl | rfl | rfl | rfl | rfl | rfl | rfl | rfl | rfl | rfl | rfl | rfl | rfl | rfl | rfl | rfl | rfl | rfl | rfl | rfl | rfl <;> trivial
  · exact rvs_cons (.bool _) (rvs_cons (.bool _) (rvs_cons (.bool _) (rvs_cons (.bool _) (rvs_cons (.bool _) (rvs_cons (.bool _) (rvs_cons (.bool _) (rvs_cons (.int _ _) (rvs_cons (.int _ _) (rvs_cons (.int _ _) (rvs_cons (.int _ _) (rvs_cons (.int _ _) (rvs_cons (.int _ _) rvs_nil))))))))))))
  · intro c hc
    simp only [List.mem_cons, List.not_mem_nil, or_false] at hc
    rcases hc with rfl | rfl | rfl | rfl | rfl | rfl | rfl | rfl | rfl | rfl | rfl | rfl | rfl <;> trivial
def ctlK : List LeafK := [.b, .b, .b, .b, .b, .b, .b, .i .i64, .i .i64, .i .i64, .i .i64, .i .i64, .i .i64]
theorem ctl_flat : leavesOf Try.prog 4 23 = some ctlK := by kernel_rfl
def metaK : List LeafK := [.i .i64, .b, .b, .b, .b, .b, .b, .b, .i .i64, .i .i64, .i .i64, .i .i64, .i .i64, .i .i64, .i .i64, .i .i64, .i .i64, .i .i64, .i .i64, .i .i64, .s]
theorem meta_flat : leavesOf Try.prog 4 25 = some metaK := by kernel_rfl
set_option maxRecDepth 100000 in
theorem lifted (os : Os) (started : os.Started) (H : Type) (enc : TypeId × Value → H) :
    ReturnsInHanded {} Try.checked os 6 .any (Rows.freshAsksSpec.pre6 enc Try.prog Try.f6 Rows.freshAsksRow.domain false) (Rows.freshAsksSpec.post enc Try.prog Try.f6 false true false false) := by
  refine returnsInHanded_of_change_sized (C := Try.checked) own started (by kernel_rfl) Try.func6
    (ChangeSpec.witness6 (enc := enc) (C := Try.checked) false ⟨#[], #[.agg #[.int .i64 0, .bool false, .bool false, .bool false, .bool false, .bool false, .bool false, .bool false, .int .i64 0, .int .i64 0, .int .i64 0, .int .i64 0, .int .i64 0, .int .i64 0, .int .i64 0, .int .i64 0, .int .i64 0, .int .i64 0, .int .i64 0, .int .i64 0, .string ByteArray.empty], .agg #[.bool false, .bool false, .bool false, .bool false, .bool false, .bool false, .bool false, .int .i64 0, .int .i64 0, .int .i64 0, .int .i64 0, .int .i64 0, .int .i64 0], .int .i64 0], []⟩ 8 (by kernel_rfl) (by kernel_rfl) (by kernel_rfl) (by kernel_rfl)) ?_
  intro W base args ds gs before hval0 hW hcnd hsz0 _
  have hval : ∀ (j : Nat) t v, Try.f6.params[j]? = some t → args[j]? = some v → Value.okWide Try.prog W .any base t v := hval0
  have hW' := hW
  obtain ⟨p, q, hA0, hV, rfl, hfz, hnd⟩ := hW
  have hA : DataW.TrodAll enc Try.prog W 0 (fun _ => true) true Try.f6.params.toList args.toList ds p := hA0
  rw [Try.params6] at hA hval
  obtain ⟨v0, vs0, d0, ds0, p0, q0, hargs0, rfl, rfl, h0, r0⟩ := trodAll_cons hA
  obtain ⟨v1, vs1, d1, ds1, p1, q1, hargs1, rfl, rfl, h1, r1⟩ := trodAll_cons r0
  obtain ⟨v2, vs2, d2, ds2, p2, q2, hargs2, rfl, rfl, h2, r2⟩ := trodAll_cons r1
  obtain ⟨rfl, rfl, rfl⟩ := trodAll_nil r2
  obtain rfl : args = #[v0, v1, v2] := by cases args; simp_all
  obtain ⟨rfl, rfl⟩ := trodVars_none hV
  have hlt0 : ∀ x ∈ p0, x.block < W.heap.size := fun x hx => hW'.lt x (by simp [hx])
  have k0 : ∀ W', Below W.heap.size W W' → _ := fun W' hn => Below.trod (W' := W') (by kernel_rfl) (by kernel_rfl) (of_decide_eq_true (by kernel_rfl)) h0 hn hlt0
  have hlt1 : ∀ x ∈ p1, x.block < W.heap.size := fun x hx => hW'.lt x (by simp [hx])
  have k1 : ∀ W', Below W.heap.size W W' → _ := fun W' hn => Below.trod (W' := W') (by kernel_rfl) (by kernel_rfl) (of_decide_eq_true (by kernel_rfl)) h1 hn hlt1
  have hlt2 : ∀ x ∈ p2, x.block < W.heap.size := fun x hx => hW'.lt x (by simp [hx])
  have k2 : ∀ W', Below W.heap.size W W' → _ := fun W' hn => Below.trod (W' := W') (by kernel_rfl) (by kernel_rfl) (of_decide_eq_true (by kernel_rfl)) h2 hn hlt2
  obtain ⟨u0, rfl, l0_0⟩ := open_leaves 4 metaK (by decide) meta_flat h0
  obtain ⟨u1, rfl, l1_0⟩ := open_leaves 4 ctlK (by decide) ctl_flat h1
  obtain ⟨e0, rfl, _, _, _⟩ := open_int Try.underlying3 (hval 2 3 v2 rfl rfl) h2
  obtain ⟨c0, u0, rfl, _, l0_1⟩ := leaf_i l0_0
  obtain ⟨c1, u0, rfl, l0_2⟩ := leaf_b l0_1
  obtain ⟨c2, u0, rfl, l0_3⟩ := leaf_b l0_2
  obtain ⟨c3, u0, rfl, l0_4⟩ := leaf_b l0_3
  obtain ⟨c4, u0, rfl, l0_5⟩ := leaf_b l0_4
  obtain ⟨c5, u0, rfl, l0_6⟩ := leaf_b l0_5
  obtain ⟨c6, u0, rfl, l0_7⟩ := leaf_b l0_6
  obtain ⟨c7, u0, rfl, l0_8⟩ := leaf_b l0_7
  obtain ⟨c8, u0, rfl, _, l0_9⟩ := leaf_i l0_8
  obtain ⟨c9, u0, rfl, _, l0_10⟩ := leaf_i l0_9
  obtain ⟨c10, u0, rfl, _, l0_11⟩ := leaf_i l0_10
  obtain ⟨c11, u0, rfl, _, l0_12⟩ := leaf_i l0_11
  obtain ⟨c12, u0, rfl, _, l0_13⟩ := leaf_i l0_12
  obtain ⟨c13, u0, rfl, _, l0_14⟩ := leaf_i l0_13
  obtain ⟨c14, u0, rfl, _, l0_15⟩ := leaf_i l0_14
  obtain ⟨c15, u0, rfl, _, l0_16⟩ := leaf_i l0_15
  obtain ⟨c16, u0, rfl, _, l0_17⟩ := leaf_i l0_16
  obtain ⟨c17, u0, rfl, _, l0_18⟩ := leaf_i l0_17
  obtain ⟨c18, u0, rfl, _, l0_19⟩ := leaf_i l0_18
  obtain ⟨c19, u0, rfl, _, l0_20⟩ := leaf_i l0_19
  obtain ⟨c20, u0, rfl, _, l0_21⟩ := leaf_s l0_20
  obtain rfl := leaf_nil l0_21
  obtain ⟨d0, u1, rfl, l1_1⟩ := leaf_b l1_0
  obtain ⟨d1, u1, rfl, l1_2⟩ := leaf_b l1_1
  obtain ⟨d2, u1, rfl, l1_3⟩ := leaf_b l1_2
  obtain ⟨d3, u1, rfl, l1_4⟩ := leaf_b l1_3
  obtain ⟨d4, u1, rfl, l1_5⟩ := leaf_b l1_4
  obtain ⟨d5, u1, rfl, l1_6⟩ := leaf_b l1_5
  obtain ⟨d6, u1, rfl, l1_7⟩ := leaf_b l1_6
  obtain ⟨d7, u1, rfl, _, l1_8⟩ := leaf_i l1_7
  obtain ⟨d8, u1, rfl, _, l1_9⟩ := leaf_i l1_8
  obtain ⟨d9, u1, rfl, _, l1_10⟩ := leaf_i l1_9
  obtain ⟨d10, u1, rfl, _, l1_11⟩ := leaf_i l1_10
  obtain ⟨d11, u1, rfl, _, l1_12⟩ := leaf_i l1_11
  obtain ⟨d12, u1, rfl, _, l1_13⟩ := leaf_i l1_12
  obtain rfl := leaf_nil l1_13
  clear hA0 hval0 hsz0
  refine (walk c0 c1 c2 c3 c4 c5 c6 c7 c8 c9 c10 c11 c12 c13 c14 c15 c16 c17 c18 c19 c20 d0 d1 d2 d3 d4 d5 d6 d7 d8 d9 d10 d11 d12 e0 W).mono fun e W' ⟨he, bel⟩ => ?_
  subst he
  exact ⟨_, rfl, _, _, _, [], _, [], hW', trodAll_mk1 (shut_bool Try.underlying4 _), (trodAll_cons_mk (k0 W' bel) (trodAll_cons_mk (k1 W' bel) (trodAll_cons_mk (k2 W' bel) trodAll_mk0))), rfl, bel.frame _, fun h => by cases h⟩
theorem over : Rows.freshAsksRow.holds Try.pinned (OpenSpec.ofChange Rows.freshAsksSpec) :=
  OpenClaim.holds_of_wide 6 Try.f6 rfl rfl rfl rfl rfl rfl rfl ⟨rfl, rfl, rfl, rfl, rfl⟩ rfl rfl rfl rfl rfl (by kernel_rfl) Try.func6 (by kernel_rfl)
    (of_decide_eq_true (by kernel_rfl)) (by unfold Func.isWrapper; first | (rw [if_pos (by decide +kernel)]; kernel_rfl) | (rw [if_neg (by decide +kernel)]; exact ⟨rfl, rfl⟩))
    (fun os started H enc _ => lifted os started H enc)
theorem proved : Rows.FreshAsksSaid := over
#print axioms proved
end Go.Proofs.Ytebjbkbjmdnblaa.freshAsks
namespace Go.Proofs.Ytebjbkbjmdnblaa
/-- The row, under a short name, for the claim. -/
theorem freshAsks_holds : Rows.FreshAsksSaid := freshAsks.proved
end Go.Proofs.Ytebjbkbjmdnblaa
