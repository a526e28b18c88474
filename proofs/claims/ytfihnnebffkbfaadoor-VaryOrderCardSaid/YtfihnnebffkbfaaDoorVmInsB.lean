/- Arithmetic, strings, slices, loads, lookups. -/
import Derived.Test.YtfihnnebffkbfaaDoorVmEq
namespace Go.Vm
set_option linter.unusedVariables false
set_option linter.unusedSimpArgs false

section
variable {P : Program} {B : Nat} {G : Gh} {h h' : Heap} {w : World} {n : Nat} {e : Env} {a : Act} {o : Oper} {v : V}

/-! ### Arithmetic -/

theorem binI_run {op : BinOp} {k : IntKind} {x y : Int} {t : TypeId} (hop : op ≠ .shl ∧ op ≠ .shr) (hb : binI op k x y = some v) :
    ∃ u, (binOp op t (.int k x) (.int k y)).run P w = .ok u w ∧ Rv B G w v u := by
  cases op <;> simp only [binI] at hb
  case quo =>
    split at hb <;> first | (cases hb; done) | skip
    rename_i h0
    injection hb with hb; subst hb
    exact ⟨_, by simp [binOp, Op.intDiv, h0], .int _ _⟩
  case rem =>
    split at hb <;> first | (cases hb; done) | skip
    rename_i h0
    injection hb with hb; subst hb
    exact ⟨_, by simp [binOp, Op.intDiv, h0], .int _ _⟩
  case shl => exact absurd rfl hop.1
  case shr => exact absurd rfl hop.2
  all_goals (injection hb with hb; subst hb)
  all_goals first
    | exact ⟨_, by simp [binOp, Op.intArith, Op.intBits, bitsI], .int _ _⟩
    | skip
  · exact ⟨.bool (x == y), by simp [binOp, Op.intCmp], by rw [show (x == y) = decide (x = y) from by rw [Bool.eq_iff_iff]; simp]; exact .bool _⟩
  · exact ⟨.bool (x != y), by simp [binOp, Op.intCmp], by rw [show (x != y) = !decide (x = y) from by rw [Bool.eq_iff_iff]; simp]; exact .bool _⟩
  all_goals exact ⟨_, by simp [binOp, Op.intCmp], .bool _⟩

theorem shI_run {op : BinOp} {k yk : IntKind} {x y : Int} {t : TypeId} (hop : op = .shl ∨ op = .shr) (hb : shI op k x y = some v) :
    ∃ u, (binOp op t (.int k x) (.int yk y)).run P w = .ok u w ∧ Rv B G w v u := by
  unfold shI at hb
  split at hb <;> first | (cases hb; done) | skip
  rename_i h0
  rcases hop with rfl | rfl
  · simp at hb; subst hb
    exact ⟨_, by simp [binOp, Op.shift, h0], .int _ _⟩
  · simp at hb; subst hb
    exact ⟨_, by simp [binOp, Op.shift, h0], .int _ _⟩

theorem bytes_toList (s : List UInt8) : (⟨s.toArray⟩ : ByteArray).toList = s := by simp [ByteArray.toList_eq]

theorem binS_run {op : BinOp} {x y : List UInt8} {t : TypeId} (hb : binS op x y = some v) :
    ∃ u, (binOp op t (.string ⟨x.toArray⟩) (.string ⟨y.toArray⟩)).run P w = .ok u w ∧ Rv B G w v u := by
  have hst : binOp op t (.string ⟨x.toArray⟩) (.string ⟨y.toArray⟩) = Op.stringOp op ⟨x.toArray⟩ ⟨y.toArray⟩ := by cases op <;> rfl
  rw [hst]
  cases op <;> simp only [binS] at hb <;> first | (cases hb; done) | skip
  case add =>
    split at hb <;> first | (cases hb; done) | skip
    rename_i hle
    injection hb with hb; subst hb
    refine ⟨.string (⟨x.toArray⟩ ++ ⟨y.toArray⟩), ?_, ?_⟩
    · have hn : ¬ ((((⟨x.toArray⟩ : ByteArray).size + (⟨y.toArray⟩ : ByteArray).size : Nat) : Int) > 9223372036854775807) := by
        simp [ByteArray.size]; omega
      simp only [Op.stringOp, IntKind.max_i64]
      rw [if_neg hn]; rfl
    · have : ((⟨x.toArray⟩ : ByteArray) ++ ⟨y.toArray⟩) = ⟨(x ++ y).toArray⟩ := by
        apply ByteArray.ext; simp
      rw [this]; exact .str _
  all_goals (injection hb with hb; subst hb)
  all_goals exact ⟨_, by simp [Op.stringOp, bytes_toList], .bool _⟩

/-- '==' by the model's own, one level deep. -/
theorem eql_of {D : Nat} (hD : D = 9999) {t : TypeId} {u z : Value} {b : Bool} (hb : ∀ op, (op = .eql ∨ op = .neq) → binOp op t u z = (do let r ← Op.equal t u z; pure (.bool (if op = .neq then !r else r))))
    (hq : (Op.equalIn (D + 1) t u z).run P w = .ok b w) : (binOp .eql t u z).run P w = .ok (.bool b) w ∧ (binOp .neq t u z).run P w = .ok (.bool (!b)) w := by
  have hq' : (Op.equal t u z).run P w = .ok b w := by subst hD; exact hq
  constructor
  · rw [hb .eql (.inl rfl)]; simp [hq']
  · rw [hb .neq (.inr rfl)]; simp [hq']

theorem eqs_slice {D : Nat} {t el : TypeId} (hu : P.underlying t = some (.slice el)) (p q : Option Addr) (l m c d : Nat) (h0 : p = none ∨ q = none) :
    (Op.equalIn (D + 1) t (.slice p l c) (.slice q m d)).run P w = .ok (p.isNone && q.isNone) w := by
  simp only [Op.equalIn, Sem.run_bind, run_underlying hu, Result.andThen_ok]
  rcases h0 with rfl | rfl
  · simp
  · cases p <;> simp

theorem eqs_map {D : Nat} {t k el : TypeId} (hu : P.underlying t = some (.map k el)) (p q : Option Nat) (h0 : p = none ∨ q = none) :
    (Op.equalIn (D + 1) t (.map p) (.map q)).run P w = .ok (p.isNone && q.isNone) w := by
  simp only [Op.equalIn, Sem.run_bind, run_underlying hu, Result.andThen_ok]
  rcases h0 with rfl | rfl
  · simp
  · cases p <;> simp

theorem eqs_ptr {D : Nat} {t el : TypeId} (hu : P.underlying t = some (.pointer el)) (p q : Option Addr) (h0 : p = none ∨ q = none) :
    (Op.equalIn (D + 1) t (.pointer p) (.pointer q)).run P w = .ok (p.isNone && q.isNone) w := by
  simp only [Op.equalIn, Sem.run_bind, run_underlying hu, Result.andThen_ok]
  rcases h0 with rfl | rfl
  · simp
  · cases p <;> simp

theorem eqs_fn {D : Nat} {t : TypeId} {ps rs : Array TypeId} {vr : Bool} (hu : P.underlying t = some (.func ps rs vr)) :
    (Op.equalIn (D + 1) t .nilFunc .nilFunc).run P w = .ok true w ∧ (∀ f x y, (Op.equalIn (D + 1) t .nilFunc (.func f x y)).run P w = .ok false w) ∧
    ∀ f x y, (Op.equalIn (D + 1) t (.func f x y) .nilFunc).run P w = .ok false w := by
  refine ⟨?_, fun f x y => ?_, fun f x y => ?_⟩ <;> (simp only [Op.equalIn, Sem.run_bind, run_underlying hu, Result.andThen_ok]; rfl)

theorem bo_slice {t : TypeId} {p q : Option Addr} {l m c d : Nat} (op : BinOp) (ho : op = .eql ∨ op = .neq) :
    binOp op t (.slice p l c) (.slice q m d) = (do let r ← Op.equal t (.slice p l c) (.slice q m d); pure (.bool (if op = .neq then !r else r))) := by
  rcases ho with rfl | rfl <;> rfl
theorem bo_map {t : TypeId} {p q : Option Nat} (op : BinOp) (ho : op = .eql ∨ op = .neq) :
    binOp op t (.map p) (.map q) = (do let r ← Op.equal t (.map p) (.map q); pure (.bool (if op = .neq then !r else r))) := by
  rcases ho with rfl | rfl <;> rfl
theorem bo_ptr {t : TypeId} {p q : Option Addr} (op : BinOp) (ho : op = .eql ∨ op = .neq) :
    binOp op t (.pointer p) (.pointer q) = (do let r ← Op.equal t (.pointer p) (.pointer q); pure (.bool (if op = .neq then !r else r))) := by
  rcases ho with rfl | rfl <;> cases p <;> cases q <;> rfl
theorem bo_nf {t : TypeId} {z : Value} (hz : z = .nilFunc ∨ ∃ f x y, z = .func f x y) (op : BinOp) (ho : op = .eql ∨ op = .neq) :
    binOp op t .nilFunc z = (do let r ← Op.equal t .nilFunc z; pure (.bool (if op = .neq then !r else r))) := by
  rcases hz with rfl | ⟨f, x, y, rfl⟩ <;> rcases ho with rfl | rfl <;> rfl
theorem bo_fn {t : TypeId} {f : Fn} {x y : Array Value} (op : BinOp) (ho : op = .eql ∨ op = .neq) :
    binOp op t (.func f x y) .nilFunc = (do let r ← Op.equal t (.func f x y) .nilFunc; pure (.bool (if op = .neq then !r else r))) := by
  rcases ho with rfl | rfl <;> rfl
theorem bo_bool {t : TypeId} {p q : Bool} (op : BinOp) (ho : op = .eql ∨ op = .neq) :
    binOp op t (.bool p) (.bool q) = (do let r ← Op.equal t (.bool p) (.bool q); pure (.bool (if op = .neq then !r else r))) := by
  rcases ho with rfl | rfl <;> rfl

theorem eq_nil_run {t : TypeId} {x y : V} {u z : Value} {b : Bool} (c : Nat) (hk : (c = 0 ∧ ∃ el, P.underlying t = some (.slice el)) ∨ (c = 1 ∧ ∃ k el, P.underlying t = some (.map k el)) ∨ (c = 2 ∧ ∃ ps rs vr, P.underlying t = some (.func ps rs vr)) ∨ (c = 3 ∧ ∃ el, P.underlying t = some (.pointer el)))
    (hb : eqNil c x y = some b) (r1 : Rv B G w x u) (r2 : Rv B G w y z) :
    (∀ op X Y, (eqGuard op t X Y u z).run P w = .ok () w) ∧ (binOp .eql t u z).run P w = .ok (.bool b) w ∧ (binOp .neq t u z).run P w = .ok (.bool (!b)) w := by
  rcases hk with ⟨rfl, el, hu⟩ | ⟨rfl, k, el, hu⟩ | ⟨rfl, ps, rs, vr, hu⟩ | ⟨rfl, el, hu⟩
  · unfold eqNil at hb
    split at hb <;> first | (cases hb; done) | skip
    all_goals (first | contradiction | skip)
    all_goals (injection hb with hb; subst hb; cases r1; cases r2)
    all_goals (refine ⟨fun op X Y => by rw [eqGuard_at_slice]; rfl, eql_of rfl bo_slice ?_⟩)
    all_goals first | exact eqs_slice hu none none _ _ _ _ (.inl rfl) | exact eqs_slice hu none (some _) _ _ _ _ (.inl rfl) | exact eqs_slice hu (some _) none _ _ _ _ (.inr rfl)
  · unfold eqNil at hb
    split at hb <;> first | (cases hb; done) | skip
    all_goals (first | contradiction | skip)
    all_goals (injection hb with hb; subst hb; cases r1; cases r2)
    all_goals (refine ⟨fun op X Y => by rw [eqGuard_at_map]; rfl, eql_of rfl bo_map ?_⟩)
    all_goals first | exact eqs_map hu none none (.inl rfl) | exact eqs_map hu none (some _) (.inl rfl) | exact eqs_map hu (some _) none (.inr rfl)
  · unfold eqNil at hb
    split at hb <;> first | (cases hb; done) | skip
    all_goals (first | contradiction | skip)
    all_goals (injection hb with hb; subst hb; cases r1; cases r2)
    · exact ⟨fun op X Y => by rw [eqGuard_at_nilFunc]; rfl, eql_of rfl (bo_nf (.inl rfl)) (eqs_fn hu).1⟩
    · exact ⟨fun op X Y => by rw [eqGuard_at_nilFunc]; rfl, eql_of rfl (bo_nf (.inr ⟨_, _, _, rfl⟩)) ((eqs_fn hu).2.1 _ _ _)⟩
    · exact ⟨fun op X Y => by rw [eqGuard_at_func]; rfl, eql_of rfl bo_fn ((eqs_fn hu).2.2 _ _ _)⟩
  · unfold eqNil at hb
    split at hb <;> first | (cases hb; done) | skip
    all_goals (first | contradiction | skip)
    all_goals (injection hb with hb; subst hb; cases r1; cases r2)
    all_goals (refine ⟨fun op X Y => by rw [eqGuard_at_pointer]; rfl, eql_of rfl bo_ptr ?_⟩)
    all_goals first | exact eqs_ptr hu none none (.inl rfl) | exact eqs_ptr hu none (some _) (.inl rfl) | exact eqs_ptr hu (some _) none (.inr rfl)

/-- '==' and '!=' of what is neither a number nor a text. -/
theorem eq_run {t : TypeId} {k : EqK} {x y : V} {u z : Value} {b : Bool} (hk : eqKind P t = some k) (hb : eqV k x y = some b) (r1 : Rv B G w x u) (r2 : Rv B G w y z) :
    (∀ op X Y, (eqGuard op t X Y u z).run P w = .ok () w) ∧ (binOp .eql t u z).run P w = .ok (.bool b) w ∧ (binOp .neq t u z).run P w = .ok (.bool (!b)) w := by
  unfold eqKind at hk
  split at hk <;> first | (cases hk; done) | skip
  · rename_i hu
    injection hk with hk; subst hk
    simp only [eqV] at hb
    split at hb <;> first | (cases hb; done) | skip
    injection hb with hb; subst hb
    cases r1; cases r2
    exact ⟨fun op X Y => by rw [eqGuard_at_bool]; rfl, eql_of rfl bo_bool (run_equalIn_bool w 9999 t _ _ hu)⟩
  · rename_i el hu
    injection hk with hk; subst hk
    exact eq_nil_run 0 (.inl ⟨rfl, el, hu⟩) hb r1 r2
  · rename_i kt el hu
    injection hk with hk; subst hk
    exact eq_nil_run 1 (.inr (.inl ⟨rfl, kt, el, hu⟩)) hb r1 r2
  · rename_i ps rs vr hu
    injection hk with hk; subst hk
    exact eq_nil_run 2 (.inr (.inr (.inl ⟨rfl, ps, rs, vr, hu⟩))) hb r1 r2
  · rename_i el hu
    injection hk with hk; subst hk
    exact eq_nil_run 3 (.inr (.inr (.inr ⟨rfl, el, hu⟩))) hb r1 r2
  · rename_i fs hu
    split at hk <;> first | (cases hk; done) | skip
    rename_i hg
    have hg' : P.eqGuardType P.depth t = false := by simpa using hg
    obtain ⟨ks, hks, rfl⟩ := map_some hk
    simp only [eqV] at hb
    split at hb <;> first | (cases hb; done) | skip
    rename_i as bs
    have heq := eq_agg hks ⟨fs, hu⟩ hb r1 r2
    cases r1; cases r2
    refine ⟨fun op X Y => run_eqGuard_agg w op t X Y _ _ hg', ?_, ?_⟩
    · simp [binOp, heq]
    · simp [binOp, heq]

theorem o_binOp {op : BinOp} {t yt : TypeId} {x y : Operand} {i : Ins} (hop : o.op = .binOp op t x y yt) (hc : insC P n o = some i) (hs : stepI i e h = some (v, h')) (he : EnvRel B G w n e a.tmps) (hr : Rel B G h w) : Outc P B G h w o a v h' := by
  simp only [insC, hop] at hc
  split at hc <;> first | (cases hc; done) | skip
  rename_i gx gy e1 e2
  have r1 := argC_rv he e1
  have r2 := argC_rv he e2
  have binc : i = .bin op gx gy → Outc P B G h w o a v h' := by
    rintro rfl
    simp only [stepI] at hs
    obtain ⟨u, hu, h2⟩ := map_some hs
    injection h2 with h1 h2; subst h1; subst h2
    unfold binV at hu
    split at hu <;> first | (cases hu; done) | skip
    · rename_i k1 x1 k2 y1 ex ey
      rw [ex] at r1; rw [ey] at r2
      generalize hx : a.eval x = q1 at r1
      generalize hy : a.eval y = q2 at r2
      cases r1; cases r2
      have key : ∃ z, (binOp op t (.int k1 x1) (.int k2 y1)).run P w = .ok z w ∧ Rv B G w u z := by
        split at hu
        · exact shI_run (.inl rfl) hu
        · exact shI_run (.inr rfl) hu
        · rename_i hn1 hn2
          split at hu <;> first | (cases hu; done) | skip
          rename_i hk
          subst hk
          exact binI_run ⟨fun hh => hn1 hh, fun hh => hn2 hh⟩ hu
      obtain ⟨z, hz, hrz⟩ := key
      refine Outc.same hr (val := z) ?_ hrz
      simp [execOp, hop, hx, hy, eqGuard_at_int, hz]
    · rename_i s1 s2 ex ey
      rw [ex] at r1; rw [ey] at r2
      generalize hx : a.eval x = q1 at r1
      generalize hy : a.eval y = q2 at r2
      cases r1; cases r2
      obtain ⟨z, hz, hrz⟩ := binS_run (P := P) (w := w) (B := B) (G := G) (t := t) hu
      refine Outc.same hr (val := z) ?_ hrz
      simp [execOp, hop, hx, hy, eqGuard_at_string, hz]
  split at hc
  · injection hc with hc; exact binc hc.symm
  · injection hc with hc; exact binc hc.symm
  · split at hc <;> first | (cases hc; done) | skip
    all_goals (
      rename_i k ek
      injection hc with hc; subst hc
      simp only [stepI] at hs
      obtain ⟨b, hb, h2⟩ := map_some hs
      injection h2 with h1 h2; subst h1; subst h2
      obtain ⟨g0, g1, g2⟩ := eq_run ek hb r1 r2)
    · exact Outc.same hr (val := .bool b) (by simp [execOp, hop, g0, g1]) (.bool _)
    · exact Outc.same hr (val := .bool (!b)) (by simp [execOp, hop, g0, g2]) (.bool _)

end
end Go.Vm
