/- Several texts in one: VmSound, VmCongr, VmDraw, VmMain, VmWp, VmRow, VmPu, VmHo, VmSet. -/
import Derived.Test.YtaahialaegfjgaaGreatDoorPk0
section
namespace Go.Vm
set_option linter.unusedVariables false
set_option linter.unusedSimpArgs false
section
variable {P : Program} {B : Nat} {G : Gh} {h h' : Heap} {w w0 : World} {n : Nat} {e : Env} {a : Act} {o : Oper} {v : V}
theorem Qt5 {i : Ins} (hc : Ql P n o = some i) (hs : Qg i e h = some (v, h')) (he : Qv B G w n e a.tmps) (hr : Rel B G h w) : Outc P B G h w o a v h' := by
  cases hop : o.op with
  | move x => exact Qsa (.inl hop) hc hs he hr
  | assign x => exact Qsa (.inr hop) hc hs he hr
  | pick c x y => exact Qz9 hop hc hs he hr
  | alloc t => exact QIF hop hc hs he hr
  | box t x => exact QDa hop hc hs he hr
  | build t ps => exact QGw hop hc hs he hr
  | buildSlice t l ps => exact Qzo hop hc hs he hr
  | insert t m k x => exact Qs2 (.inr hop) hc hs he hr
  | load t x => exact QC6 hop hc hs he hr
  | store t x y => exact Qzl hop hc hs he hr
  | nilCheck x => exact QF8 hop hc hs he hr
  | binOp op t x y yt => exact QGp hop hc hs he hr
  | unOp op t x => exact QJC hop hc hs he hr
  | convert t u x =>
    by_cases h1 : ∃ g, i = .toStr g
    · obtain ⟨g, rfl⟩ := h1; exact Qyz hop hc hs he hr
    · by_cases h2 : ∃ g, i = .toBytes g
      · obtain ⟨g, rfl⟩ := h2; exact QFl hop hc hs he hr
      · exact QEh hop hc hs he hr (fun g hg => h1 ⟨g, hg⟩) (fun g hg => h2 ⟨g, hg⟩)
  | makeFunc fn fs cs => exact QGW hop hc hs he hr
  | makeMap t r => exact QE3 hop hc hs he hr
  | makeSlice t l c => exact Qy1 hop hc hs he hr
  | slice t x lo hi mx => exact QFE hop hc hs he hr
  | fieldAddr t x f => exact QBr hop hc hs he hr
  | field t x f => exact QG3 hop hc hs he hr
  | indexAddr t x j => exact QHE hop hc hs he hr
  | index t x j => exact QDK hop hc hs he hr
  | lookup t m k ok => exact Qwe hop hc hs he hr
  | mapUpdate t m k x => exact Qs2 (.inl hop) hc hs he hr
  | extract x k => exact Qxx hop hc hs he hr
  | call c =>
    cases hcal : c.callee with
    | value f =>
      exfalso
      cases f <;> simp [Ql, hop, Qbg, hcal] at hc
      · obtain ⟨_, gs, _, rfl⟩ := hc; simp [Qg] at hs
      · obtain ⟨_, gs, _, rfl⟩ := hc; simp [Qg] at hs
    | invoke r m => simp [Ql, hop, Qbg, hcal] at hc
    | builtin b =>
      cases b with
      | append => exact QBh hop hcal hc hs he hr
      | len => exact QwS hop hcal hc hs he hr
      | copy => exact QA4 hop hcal hc hs he hr
      | min => exact Qzg hop hcal hc hs he hr
      | max => exact QIx hop hcal hc hs he hr
      | clear => exact QHB hop hcal hc hs he hr
      | _ => simp [Ql, hop, Qbg, hcal] at hc
  | _ => simp [Ql, hop] at hc
theorem QuQ {f : FuncId} (hf : QcG P f = true) (vs : Array Value) : (callFunc f vs).run P w = .ok (.enter f vs) w := by
  unfold QcG at hf
  split at hf <;> first | (cases hf; done) | skip
  rename_i fn hfn
  simp only [Bool.and_eq_true, bne_iff_ne, ne_eq] at hf
  obtain ⟨hb, hn⟩ := hf
  have hb' : fn.body.isNone = false := by cases hbb : fn.body <;> simp_all
  have hb2 : fn.body ≠ none := by intro hh; rw [hh] at hb; cases hb
  simp [callFunc, hfn, hn, hb2]
theorem QyI {i : Ins} (hc : Ql P n o = some i) (hi : (∃ f xs, i = .call f xs) ∨ ∃ g xs, i = .callv g xs) : ∃ c, o.op = .call c := by
  cases hop : o.op <;> first | exact ⟨_, rfl⟩ | skip
  all_goals (exfalso; simp only [Ql, hop] at hc)
  all_goals (repeat' (first | (cases hc; done) | contradiction | (obtain ⟨_, _, rfl⟩ := map_some hc; rcases hi with ⟨_, _, hh⟩ | ⟨_, _, hh⟩ <;> cases hh; done) | (injection hc with hc; subst hc; rcases hi with ⟨_, _, hh⟩ | ⟨_, _, hh⟩ <;> cases hh; done) | split at hc))
theorem Qrg {i : Ins} {f : FuncId} {args : List V} (hc : Ql P n o = some i) (hs : QH i e = some (f, args)) (hf : QcG P f = true) (he : Qv B G w n e a.tmps) :
    ∃ vs, (execOp a.eval o).run P w = .ok (.enter f vs.toArray) w ∧ Rvs B G w args vs := by
  obtain ⟨c, hop⟩ : ∃ c, o.op = .call c := QyI hc (by
    cases i <;> simp [QH] at hs
    · exact .inl ⟨_, _, rfl⟩
    · exact .inr ⟨_, _, rfl⟩)
  cases hcal : c.callee with
  | value g =>
    cases g with
    | func f' =>
      simp only [Ql, hop, Qbg, hcal] at hc
      split at hc <;> first | (cases hc; done) | skip
      obtain ⟨gs, hg, rfl⟩ := map_some hc
      simp [QH] at hs
      obtain ⟨rfl, rfl⟩ := hs
      refine ⟨c.args.toList.map a.eval, ?_, QgL he hg⟩
      have h1 : (Array.map a.eval c.args) = (c.args.toList.map a.eval).toArray := by apply Array.ext'; simp
      simp [execOp, hop, resolve, hcal, Act.eval, Deferred.ofValue, invoke, QuQ hf, h1]
    | tmp t =>
      simp only [Ql, hop, Qbg, hcal] at hc
      split at hc <;> first | (cases hc; done) | skip
      rename_i ht
      obtain ⟨gs, hg, rfl⟩ := map_some hc
      simp only [QH] at hs
      split at hs <;> first | (cases hs; done) | skip
      rename_i f' caps hfe
      injection hs with hs
      injection hs with h1 h2; subst h1; subst h2
      have r := he.2 t ht
      simp only [Arg.get] at hfe
      rw [hfe] at r
      have hev : a.eval (.tmp t) = a.tmps.getD t undef := rfl
      generalize a.tmps.getD t undef = q at r hev
      cases r with
      | fn hl hrr =>
        rename_i cvs
        refine ⟨c.args.toList.map a.eval ++ cvs, ?_, Qts (QgL he hg) ⟨hl, hrr⟩⟩
        have h1 : (Array.map a.eval c.args) ++ cvs.toArray = (c.args.toList.map a.eval ++ cvs).toArray := by apply Array.ext'; simp
        simp [execOp, hop, resolve, hcal, hev, Deferred.ofValue, invoke, QuQ hf, h1]
    | const v => simp [Ql, hop, Qbg, hcal] at hc
    | global g => simp [Ql, hop, Qbg, hcal] at hc
  | invoke r m => simp [Ql, hop, Qbg, hcal] at hc
  | builtin b =>
    exfalso
    have nc : ∀ i, Qbg P n c = some i → (∀ f xs, i ≠ .call f xs) ∧ ∀ g xs, i ≠ .callv g xs := by
      intro i hi
      simp only [Qbg, hcal] at hi
      split at hi
      all_goals (first | (cases hi; done) | skip)
      all_goals (repeat' (first | (cases hi; done) | (obtain ⟨_, _, rfl⟩ := map_some hi; exact ⟨(fun _ _ hh => by cases hh), (fun _ _ hh => by cases hh)⟩) | (injection hi with hi; subst hi; exact ⟨(fun _ _ hh => by cases hh), (fun _ _ hh => by cases hh)⟩) | split at hi))
    have := nc i (by simpa [Ql, hop] using hc)
    cases i <;> simp [QH] at hs
    · exact this.1 _ _ rfl
    · exact this.2 _ _ rfl
/-! ### Runs -/
def Base (w0 : World) (B : Nat) (w : World) : Prop := w0.heap.size ≤ B ∧ RowKit.Below B w0 w
theorem Base.evo {G' : Gh} {w' : World} (hb : Base w0 B w) (hr : Rel B G h w) (he : Evo B G h w G' h' w') : Base w0 B w' := by
  obtain ⟨h0, hb⟩ := hb
  refine ⟨h0, he.os.trans hb.os, he.tape.trans hb.tape, he.output.trans hb.output, Nat.le_trans hb.size he.size, fun k hk => ?_⟩
  have hlt : k < w.heap.size := Nat.lt_of_lt_of_le hk hr.wf.base
  refine (he.frame k hlt ?_).trans (hb.block k hk)
  rintro (⟨id, p, e, rfl⟩ | ⟨id, t, e, rfl⟩)
  · have := (hr.wf.blk id p e).1; omega
  · have := (hr.wf.tip id t e).1; omega
def Qfx (P : Program) (w0 : World) (f : FuncId) (args : List V) (h : Heap) (v : V) (h' : Heap) : Prop :=
  ∀ B G w vs, Rel B G h w → Base w0 B w → Rvs B G w args vs → Calls P f vs.toArray w fun en w' => ∃ G' val, en = .returned val ∧ Rv B G' w' v val ∧ Rel B G' h' w' ∧ Evo B G h w G' h' w'
theorem Qm1 {d : Option Tmp} {tmps : Array Value} {x : V} {u : Value} {ds : List Deferred} (he : Qv B G w n e tmps) (hd : QdF n d = true) (hx : Rv B G w x u) :
    Qv B G w n (put e d x) ((({ tmps := tmps, defers := ds } : Act).put d u).tmps) := by
  cases d with
  | none => exact he
  | some d =>
    simp only [QdF, decide_eq_true_eq] at hd
    refine ⟨by simp [Act.put]; exact he.1, fun t ht => ?_⟩
    simp only [put, upd, Act.put]
    by_cases htd : t = d
    · subst htd
      rw [if_pos rfl]
      have : (tmps.setIfInBounds t u).getD t undef = u := by simp [he.1, hd]
      rw [this]; exact hx
    · rw [if_neg htd]
      have : (tmps.setIfInBounds d u).getD t undef = tmps.getD t undef := by
        simp [Array.getElem?_setIfInBounds_ne (Ne.symm htd)]
      rw [this]; exact he.2 t ht
theorem Qv.mono {G' : Gh} {w' : World} {tmps : Array Value} (hle : Le B G w G' w') (he : Qv B G w n e tmps) : Qv B G' w' n e tmps :=
  ⟨he.1, fun t ht => (he.2 t ht).mono hle⟩
theorem Qis (a : Act) (d : Option Tmp) (u : Value) : (a.put d u).defers = a.defers := by cases d <;> rfl
theorem Qjf {ops : Array Oper} {g : Option (Nat × Bool)} (hg : Qgp ops n o.guard = some g) (he : Qv B G w n e a.tmps) {d : Option Nat} {i : Ins} :
    Region.wanted o (yielded ops a.tmps) = OpC.wanted { dst := d, guard := g, ins := i } e := by
  unfold Qgp at hg
  unfold Region.wanted OpC.wanted
  cases hog : o.guard with
  | none => simp [hog] at hg; subst hg; rfl
  | some jb =>
    obtain ⟨j, b⟩ := jb
    simp only [hog] at hg
    split at hg <;> first | (cases hg; done) | skip
    rename_i t ht
    split at hg <;> first | (cases hg; done) | skip
    rename_i hlt
    injection hg with hg; subst hg
    have r := he.2 t hlt
    have hget : a.tmps[t]? = some (a.tmps.getD t undef) := by
      have : t < a.tmps.size := by rw [he.1]; exact hlt
      simp [this]
    have hy : yielded ops a.tmps j = match a.tmps.getD t undef with | .bool b => some b | _ => none := by
      simp only [yielded, ht, Option.bind_some, hget]
      cases a.tmps.getD t undef <;> rfl
    simp only [hy]
    generalize a.tmps.getD t undef = q at r
    generalize e t = x at r
    cases r <;> simp
def DGood (P : Program) (w0 : World) : List OpC → Env → Heap → Env → Heap → Prop
  | [], e, h, e', h' => e' = e ∧ h' = h
  | o :: l, e, h, e', h' =>
    (o.wanted e = false ∧ DGood P w0 l (put e o.dst (.tup [])) h e' h') ∨
    (o.wanted e = true ∧ ∃ v h1, Qg o.ins e h = some (v, h1) ∧ Ext h h1 ∧ DGood P w0 l (put e o.dst v) h1 e' h') ∨
    (o.wanted e = true ∧ ∃ f args v h1, QH o.ins e = some (f, args) ∧ QcG P f = true ∧ Ext h h1 ∧ Qfx P w0 f args h v h1 ∧ DGood P w0 l (put e o.dst v) h1 e' h')
def X.real : X → Exit
  | .norm => .normal
  | .exit i => .exit i
  | .ret => .ret
def Post (B : Nat) (G : Gh) (h : Heap) (w : World) (ds : List Deferred) (n : Nat) (e' : Env) (h' : Heap) (K : Act → World → Prop) : Prop :=
  ∀ G' a' w', Rel B G' h' w' → Evo B G h w G' h' w' → Qv B G' w' n e' a'.tmps → a'.defers = ds → K a' w'
def Qhg (P : Program) (c : Code) (Q : Exit → Act → World → Prop) (a : Act) (w : World) : Prop :=
  ∀ (b : Frame) (k : List Item) (cs : List Frame), ∃ e a' w', Q e a' w' ∧ Arrives P (lone (b.at a (.code c :: .inLoop c :: k)) cs w) b k cs e a' w'
theorem QvN {c : Code} {Q : Exit → Act → World → Prop} (hl : Qhg P c Q a w) : (Code.loop c).wp P Q a w :=
  fun b k cs => let ⟨e, a', w', hq, harr⟩ := hl b k cs; ⟨e, a', w', hq, .of_steps (.one step_loop) harr⟩
theorem Qti {c : Code} {Q : Exit → Act → World → Prop} (hb : c.wp P (Exit.then (Qhg P c Q) Q) a w) : Qhg P c Q a w := by
  intro b k cs
  obtain ⟨e, a₁, w₁, hq, harr⟩ := hb b (.inLoop c :: k) cs
  cases e with
  | normal =>
    obtain ⟨e₂, a₂, w₂, hq₂, harr₂⟩ := hq b k cs
    exact ⟨e₂, a₂, w₂, hq₂, .of_steps (Steps.trans harr (.one step_inLoop)) harr₂⟩
  | exit id => exact ⟨_, a₁, w₁, hq, .pass (x := .inLoop c) rfl (fun _ _ => .inl (by simp)) harr⟩
  | goto l => exact ⟨_, a₁, w₁, hq, .pass (x := .inLoop c) rfl (fun _ _ => .inl (by simp)) harr⟩
  | ret => exact ⟨_, a₁, w₁, hq, .pass (x := .inLoop c) rfl (fun _ _ => .inl (by simp)) harr⟩
  | panic ch => exact ⟨_, a₁, w₁, hq, .pass (x := .inLoop c) rfl (fun _ _ => .inl (by simp)) harr⟩
  | outgrown => exact ⟨_, a₁, w₁, hq, .pass (x := .inLoop c) rfl (fun _ _ => .inl (by simp)) harr⟩
def QIb (P : Program) (w0 : World) (c : C) (e : Env) (h : Heap) (x : X) (e' : Env) (h' : Heap) : Prop :=
  ∀ n B G w a, Rel B G h w → Base w0 B w → Qv B G w n e a.tmps →
    (∀ code Q, Qay P n code = some c → Post B G h w a.defers n e' h' (Q x.real) → code.wp P Q a w) ∧
    (∀ cb code Q, c = .loop cb → Qay P n code = some cb → Post B G h w a.defers n e' h' (Q x.real) → Qhg P code Q a w)
def Good (P : Program) (w0 : World) : Task → Prop
  | .ops l e h e' h' => ∀ n B G w a (ops : Array Oper) (os : List Oper) (k : Nat) Q, Qbt P ops n os = some l → (∀ j, os[j]? = ops[k + j]?) → Rel B G h w → Base w0 B w → Qv B G w n e a.tmps →
      Post B G h w a.defers n e' h' (Q .normal) → wpOps P ops Q (List.range' k l.length) a w
  | .dops l e h e' h' => DGood P w0 l e h e' h'
  | .code c e h x e' h' => QIb P w0 c e h x e' h'
  | .call f args h v h' => QcG P f = true ∧ Qfx P w0 f args h v h'
theorem Post.evo {h1 : Heap} {G1 : Gh} {w1 : World} {ds ds' : List Deferred} {e' : Env} {K : Act → World → Prop} (hp : Post B G h w ds n e' h' K) (he : Evo B G h w G1 h1 w1) (hd : ds' = ds) : Post B G1 h1 w1 ds' n e' h' K :=
  fun G' a' w' hr hev hen hdd => hp G' a' w' hr (he.trans hev) hen (hdd.trans hd)
theorem Qir {ops : Array Oper} {os : List Oper} {oc : OpC} {l : List OpC} (hc : Qbt P ops n os = some (oc :: l)) :
    ∃ o r g i, os = o :: r ∧ Qbt P ops n r = some l ∧ Qgp ops n o.guard = some g ∧ Ql P n o = some i ∧ QdF n o.dst = true ∧ oc = { dst := o.dst, guard := g, ins := i } := by
  cases os with
  | nil => simp [Qbt] at hc
  | cons o r =>
    simp only [Qbt] at hc
    split at hc <;> first | (cases hc; done) | skip
    rename_i x xs e1 e2
    injection hc with hc
    injection hc with h1 h2; subst h1; subst h2
    simp only [opC] at e1
    split at e1 <;> first | (cases e1; done) | skip
    rename_i g i e3 e4
    split at e1 <;> first | (cases e1; done) | skip
    rename_i hd
    injection e1 with e1
    exact ⟨o, r, g, i, rfl, e2, e3, e4, hd, e1.symm⟩
theorem QoK {ops : Array Oper} {Q : Exit → Act → World → Prop} {k m : Nat} {oo : Oper} (hk : ops[k]? = some oo) (a : Act) (w : World) :
    wpOps P ops Q (List.range' k (m + 1)) a w = if Region.wanted oo (yielded ops a.tmps) then oo.wp P a w (wpOps P ops Q (List.range' (k + 1) m)) Q ∨ (oo.asks P a w ∧ LetsOut Q) else wpOps P ops Q (List.range' (k + 1) m) (a.put oo.dst undef) w := by
  simp [List.range'_succ, wpOps, hk]
theorem QBO {i : Ins} {next : Act → World → Prop} {Q : Exit → Act → World → Prop} (hi : Ql P n o = some i) (hd : QdF n o.dst = true) (hs : Qg i e h = some (v, h')) (he : Qv B G w n e a.tmps) (hr : Rel B G h w)
    (hn : ∀ G' a' w', Rel B G' h' w' → Evo B G h w G' h' w' → Qv B G' w' n (put e o.dst v) a'.tmps → a'.defers = a.defers → next a' w') : o.wp P a w next Q := by
  obtain ⟨nx, w', G', val, hrun, hnx, hv, hrel, hevo⟩ := Qt5 hi hs he hr
  have hen := Qm1 (ds := a.defers) (he.mono hevo.le) hd hv
  unfold Oper.wp
  rw [hrun]
  rcases hnx with rfl | ⟨rfl, rfl⟩
  · exact hn G' _ w' hrel hevo hen (Qis _ _ _)
  · exact hn G' _ w' hrel hevo hen (Qis _ _ _)
theorem QyZ {i : Ins} {f : FuncId} {args : List V} {next : Act → World → Prop} {Q : Exit → Act → World → Prop} (hi : Ql P n o = some i) (hd : QdF n o.dst = true) (hs : QH i e = some (f, args)) (hf : QcG P f = true) (hg : Qfx P w0 f args h v h')
    (he : Qv B G w n e a.tmps) (hr : Rel B G h w) (hb : Base w0 B w)
    (hn : ∀ G' a' w', Rel B G' h' w' → Evo B G h w G' h' w' → Qv B G' w' n (put e o.dst v) a'.tmps → a'.defers = a.defers → next a' w') : o.wp P a w next Q := by
  obtain ⟨vs, hrun, hvs⟩ := Qrg hi hs hf he
  unfold Oper.wp
  rw [hrun]
  refine (hg B G w vs hr hb hvs).mono fun en w' hpost => ?_
  obtain ⟨G', val, rfl, hv, hrel, hevo⟩ := hpost
  exact hn G' _ w' hrel hevo (Qm1 (ds := a.defers) (he.mono hevo.le) hd hv) (Qis _ _ _)
theorem Qwx {args : List V} {vs : List Value} {m : Nat} (hv : Rvs B G w args vs) (hl : args.length ≤ m) : Qv B G w m (Qd args) (vs.toArray ++ Array.replicate (m - vs.toArray.size) undef) := by
  refine ⟨by simp [hv.1]; omega, fun t ht => ?_⟩
  simp only [Qd]
  by_cases htl : t < args.length
  · have h2 : t < vs.length := by rw [hv.1]; exact htl
    have := hv.2 t args[t] vs[t] (List.getElem?_eq_getElem htl) (List.getElem?_eq_getElem h2)
    rw [List.getD_eq_getElem?_getD, List.getElem?_eq_getElem htl]
    have h3 : (vs.toArray ++ Array.replicate (m - vs.toArray.size) undef).getD t undef = vs[t] := by
      rw [Array.getD_eq_getD_getElem?, Array.getElem?_append_left (by simpa using h2)]
      simp [h2]
    rw [h3]; exact this
  · rw [List.getD_eq_getElem?_getD, List.getElem?_eq_none (by omega)]
    have h3 : (vs.toArray ++ Array.replicate (m - vs.toArray.size) undef).getD t undef = undef := by
      rw [Array.getD_eq_getD_getElem?, Array.getElem?_append_right (by simp [hv.1]; omega)]
      cases hq : (Array.replicate (m - vs.toArray.size) undef)[t - vs.toArray.size]? with
      | none => rfl
      | some q =>
        have := Array.getElem?_eq_some_iff.1 hq
        obtain ⟨h4, h5⟩ := this
        simp at h5; simp [h5]
    rw [h3]; exact QdB
def QhZ (tmps : Array Value) : ResultVar → Sem Value
  | .tmp t => pure (tmps.getD t undef)
  | .cell a t => do loadVar t (← asAddr (tmps.getD a undef))
theorem Qxl (fn : Func) (tmps : Array Value) : results fn tmps = (fn.results.mapM (QhZ tmps) >>= fun vs => pure (if h : vs.size = 1 then vs[0] else .tuple vs)) := by
  unfold results
  refine congrArg (fun f : ResultVar → Sem Value => (fn.results.mapM f >>= fun vs => pure (if h : vs.size = 1 then vs[0] else .tuple vs))) (funext fun r => ?_)
  cases r <;> rfl
theorem QDe {r : ResultVar} {rc : Res} {x : V} {tmps : Array Value} (hc : QkB P n r = some rc) (hx : Qc h e rc = some x) (he : Qv B G w n e tmps) (hr : Rel B G h w) :
    ∃ u, (QhZ tmps r).run P w = .ok u w ∧ Rv B G w x u := by
  cases r with
  | tmp t =>
    simp only [QkB] at hc
    split at hc <;> first | (cases hc; done) | skip
    rename_i ht
    injection hc with hc; subst hc
    simp [Qc] at hx; subst hx
    exact ⟨_, rfl, he.2 t ht⟩
  | cell t ty =>
    simp only [QkB] at hc
    split at hc <;> first | (cases hc; done) | skip
    rename_i g s e1 e2
    split at hc <;> first | (cases hc; done) | skip
    rename_i ht
    injection hc with hc; subst hc
    simp only [Qc] at hx
    obtain ⟨ad, z, h1, h2, h3⟩ := QrG e1 e2 hr hx (he.2 t ht)
    exact ⟨z, by simp only [QhZ, Sem.run_bind]; rw [h1]; simp [asAddr, h2], h3⟩
theorem QlN {tmps : Array Value} (he : Qv B G w n e tmps) (hr : Rel B G h w) : ∀ {rs : List ResultVar} {rcs : List Res} {xs : List V}, QfI P n rs = some rcs → rcs.mapM (Qc h e) = some xs →
    rcs.length = rs.length ∧ xs.length = rcs.length ∧ ∃ us, (rs.mapM (QhZ tmps)).run P w = .ok us w ∧ Rvs B G w xs us
  | [], rcs, xs, hc, hx => by
    simp [QfI] at hc; subst hc
    simp at hx; subst hx
    exact ⟨rfl, rfl, [], by simp, rvs_nil⟩
  | r :: rs, rcs, xs, hc, hx => by
    simp only [QfI] at hc
    split at hc <;> first | (cases hc; done) | skip
    rename_i rc rcs' e1 e2
    injection hc with hc; subst hc
    simp only [List.mapM_cons] at hx
    cases ex : Qc h e rc with
    | none => simp [ex] at hx
    | some x =>
      cases ey : rcs'.mapM (Qc h e) with
      | none => simp [ex, ey] at hx
      | some ys =>
        simp [ex, ey] at hx
        subst hx
        obtain ⟨u, hu, hru⟩ := QDe e1 ex he hr
        obtain ⟨h1, h2, us, hus, hrs⟩ := QlN he hr e2 ey
        refine ⟨by simp [h1], by simp [h2], u :: us, ?_, rvs_cons hru hrs⟩
        simp only [List.mapM_cons, Sem.run_bind, hu, hus, Result.andThen_ok, Sem.run_pure]
theorem Qy3 {fn : Func} {rcs : List Res} {x : V} {tmps : Array Value} (he : Qv B G w n e tmps) (hr : Rel B G h w) (hc : QfI P n fn.results.toList = some rcs) (hx : Qa h e rcs = some x) :
    ∃ u, (results fn tmps).run P w = .ok u w ∧ Rv B G w x u := by
  have hm : ∀ {us : List Value}, (fn.results.toList.mapM (QhZ tmps)).run P w = .ok us w →
      (results fn tmps).run P w = .ok (if h : us.toArray.size = 1 then us.toArray[0] else .tuple us.toArray) w := by
    intro us hus
    rw [Qxl, Array.mapM_eq_mapM_toList]
    simp only [Sem.run_bind, Sem.run_map, hus, Result.andThen_ok, Sem.run_pure]
  unfold Qa at hx
  split at hx
  · rename_i r
    obtain ⟨_, _, us, hus, hrs⟩ := QlN (xs := [x]) he hr hc (by simp [List.mapM_cons, hx])
    obtain ⟨u, rfl⟩ := List.length_eq_one_iff.1 (show us.length = 1 by simpa using hrs.1)
    exact ⟨u, by rw [hm hus]; simp, hrs.2 0 x u rfl rfl⟩
  · rename_i hne
    obtain ⟨xs, hxs, rfl⟩ := map_some hx
    obtain ⟨_, hlen2, us, hus, hrs⟩ := QlN he hr hc hxs
    refine ⟨.tuple us.toArray, ?_, .tup hrs.1 hrs.2⟩
    rw [hm hus]
    have hlen : us.length = rcs.length := by rw [hrs.1, hlen2]
    have h1 : ¬ us.toArray.size = 1 := by
      simp only [List.size_toArray, hlen]
      intro h1
      obtain ⟨r, rfl⟩ := List.length_eq_one_iff.1 h1
      exact hne r rfl
    rw [dif_neg h1]
end
end Go.Vm
end
section
namespace Go.Vm
set_option linter.unusedVariables false
set_option linter.unusedSimpArgs false
theorem QDk {e e' : Env} {a : Arg} (h : ∀ t, a = .t t → e t = e' t) : a.get e = a.get e' := by
  cases a with
  | t n => exact h n rfl
  | c v => rfl
def Qcu (e e' : Env) (as : List Arg) : Prop := ∀ t, Arg.t t ∈ as → e t = e' t
theorem Qcu.get {e e' : Env} {as : List Arg} (h : Qcu e e' as) {a : Arg} (ha : a ∈ as) : a.get e = a.get e' := QDk fun t ht => h t (ht ▸ ha)
theorem Qcu.map {e e' : Env} {as bs : List Arg} (h : Qcu e e' as) (hs : ∀ b ∈ bs, b ∈ as) : bs.map (·.get e) = bs.map (·.get e') :=
  List.map_congr_left fun b hb => h.get (hs b hb)
theorem Qrx {e e' : Env} : ∀ {ps : List (Nat × Nat × Arg)} {cs : List V}, Qcu e e' (ps.map (·.2.2)) → Qu e cs ps = Qu e' cs ps
  | [], cs, _ => rfl
  | (o, s, a) :: r, cs, h => by
    have h1 : a.get e = a.get e' := h.get (by simp)
    have h2 : Qcu e e' (r.map (·.2.2)) := fun t ht => h t (by simp at ht ⊢; exact .inr ht)
    simp only [Qu, h1]
    split
    · exact Qrx h2
    · rfl
theorem QhU {e e' : Env} {x : Option Arg} (h : Qcu e e' x.toList) : Qi e x = Qi e' x := by
  cases x with
  | none => rfl
  | some a => simp only [Qi, h.get (a := a) (by simp)]
theorem Qcu.sub {e e' : Env} {as bs : List Arg} (h : Qcu e e' as) (hs : ∀ b ∈ bs, b ∈ as) : Qcu e e' bs := fun t ht => h t (hs _ ht)
theorem QIg {e e' : Env} {i : Ins} {h : Heap} (ha : Qcu e e' i.args) : Qg i e h = Qg i e' h := by
  cases i <;> simp only [Ins.args] at ha <;> simp only [Qg]
  case bsl sz ps =>
    rw [ha.map (bs := ps) (fun b hb => hb)]
    have : ∀ qs : List Arg, (∀ p ∈ qs, p.get e = p.get e') → (qs.all fun p => decide ((cells (p.get e)).length = sz) && stor (p.get e)) = (qs.all fun p => decide ((cells (p.get e')).length = sz) && stor (p.get e')) := by
      intro qs
      induction qs with
      | nil => intro _; rfl
      | cons p qs ih => intro hq; simp only [List.all_cons, hq p (by simp), ih (fun x hx => hq x (by simp [hx]))]
    rw [this ps fun p hp => ha.get hp]
  case build z ps => rw [Qrx ha]
  case mkfn f cs => rw [ha.map (fun b hb => hb)]
  case mn xs => rw [ha.map (fun b hb => hb)]
  case mx xs => rw [ha.map (fun b hb => hb)]
  case slstr x lo hi =>
    rw [ha.get (a := x) (by simp), QhU (x := lo) (ha.sub (fun b hb => by simp at hb ⊢; simp [hb])), QhU (x := hi) (ha.sub (fun b hb => by simp at hb ⊢; simp [hb]))]
  case slsl s x lo hi mx =>
    rw [ha.get (a := x) (by simp), QhU (x := lo) (ha.sub (fun b hb => by simp at hb ⊢; simp [hb])), QhU (x := hi) (ha.sub (fun b hb => by simp at hb ⊢; simp [hb])), QhU (x := mx) (ha.sub (fun b hb => by simp at hb ⊢; simp [hb]))]
  all_goals first
    | rfl
    | (have hg : ∀ a, a ∈ _ → Arg.get e a = Arg.get e' a := fun a h => ha.get h
       simp at hg
       simp only [hg])
theorem QwU {e e' : Env} {i : Ins} (ha : Qcu e e' i.args) : QH i e = QH i e' := by
  cases i <;> simp only [Ins.args] at ha <;> simp only [QH]
  case call f xs => rw [ha.map (fun b hb => hb)]
  case callv g xs => rw [ha.get (a := g) (by simp), ha.map (bs := xs) (fun b hb => by simp [hb])]
end Go.Vm
end
section
namespace Go.Vm
set_option linter.unusedVariables false
set_option linter.unusedSimpArgs false
section
variable {P : Program} {B : Nat} {G : Gh} {h h' : Heap} {w w0 : World} {n : Nat} {e e' : Env} {a : Act} {o : Oper} {v : V}
def QfC (P : Program) (w0 : World) (oc : OpC) (e : Env) (h : Heap) (v : V) (h1 : Heap) : Prop :=
  (oc.wanted e = false ∧ v = .tup [] ∧ h1 = h) ∨
  (oc.wanted e = true ∧ Qg oc.ins e h = some (v, h1) ∧ Ext h h1) ∨
  (oc.wanted e = true ∧ ∃ f args, QH oc.ins e = some (f, args) ∧ QcG P f = true ∧ Ext h h1 ∧ Qfx P w0 f args h v h1)
theorem Qrm : ∀ {l : List OpC} {e : Env} {h : Heap} {e' : Env} {h' : Heap}, DGood P w0 l e h e' h' →
    ∃ (es : Nat → Env) (hs : Nat → Heap) (vs : Nat → V), es 0 = e ∧ hs 0 = h ∧ es l.length = e' ∧ hs l.length = h' ∧
      ∀ j oc, l[j]? = some oc → es (j + 1) = put (es j) oc.dst (vs j) ∧ QfC P w0 oc (es j) (hs j) (vs j) (hs (j + 1))
  | [], e, h, e', h', hd => ⟨fun _ => e, fun _ => h, fun _ => .tup [], rfl, rfl, hd.1.symm, hd.2.symm, fun j oc hj => by simp at hj⟩
  | o :: l, e, h, e', h', hd => by
    have step : ∀ (v : V) (h1 : Heap), QfC P w0 o e h v h1 → DGood P w0 l (put e o.dst v) h1 e' h' →
        ∃ (es : Nat → Env) (hs : Nat → Heap) (vs : Nat → V), es 0 = e ∧ hs 0 = h ∧ es (o :: l).length = e' ∧ hs (o :: l).length = h' ∧
          ∀ j oc, (o :: l)[j]? = some oc → es (j + 1) = put (es j) oc.dst (vs j) ∧ QfC P w0 oc (es j) (hs j) (vs j) (hs (j + 1)) := by
      intro v h1 hs1 hd1
      obtain ⟨es, hs, vs, a1, a2, a3, a4, a5⟩ := Qrm hd1
      refine ⟨fun | 0 => e | j + 1 => es j, fun | 0 => h | j + 1 => hs j, fun | 0 => v | j + 1 => vs j, rfl, rfl, a3, a4, fun j oc hj => ?_⟩
      cases j with
      | zero =>
        simp at hj; subst hj
        exact ⟨a1, by show QfC P w0 o e h v (hs 0); rw [a2]; exact hs1⟩
      | succ j =>
        simp at hj
        exact a5 j oc hj
    rcases hd with ⟨hw, hd⟩ | ⟨hw, v, h1, hs, hx, hd⟩ | ⟨hw, f, args, v, h1, hs, hf, hx, hc, hd⟩
    · exact step _ _ (.inl ⟨hw, rfl, rfl⟩) hd
    · exact step _ _ (.inr (.inl ⟨hw, hs, hx⟩)) hd
    · exact step _ _ (.inr (.inr ⟨hw, f, args, hs, hf, hx, hc⟩)) hd
theorem QfC.ext {oc : OpC} {v : V} {h1 : Heap} (hs : QfC P w0 oc e h v h1) : Ext h h1 := by
  rcases hs with ⟨_, _, rfl⟩ | ⟨_, _, hx⟩ | ⟨_, _, _, _, _, hx, _⟩
  · exact fun _ _ => rfl
  · exact hx
  · exact hx
theorem Ext.len {h1 : Heap} (hx : Ext h h1) : h.length ≤ h1.length := by
  rcases Nat.lt_or_ge h1.length h.length with hlt | hge
  · have := hx h1.length hlt
    rw [List.getElem?_eq_none (Nat.le_refl _), List.getElem?_eq_getElem hlt] at this
    cases this
  · exact hge
theorem Ext.trans {h1 h2 : Heap} (a : Ext h h1) (b : Ext h1 h2) : Ext h h2 := fun i hi => (b i (Nat.lt_of_lt_of_le hi a.len)).trans (a i hi)
def Gh.below (G : Gh) (m : Nat) : Gh := { blk := fun i => if i < m then G.blk i else none, tip := fun i => if i < m then G.tip i else none, lim := G.lim }
theorem QB {m i : Nat} {p : Nat × Nat} : (G.below m).blk i = some p ↔ i < m ∧ G.blk i = some p := by
  simp only [Gh.below]
  by_cases hi : i < m
  · rw [if_pos hi]; exact ⟨fun h => ⟨hi, h⟩, fun h => h.2⟩
  · rw [if_neg hi]; exact ⟨(fun h => by cases h), (fun h => absurd h.1 hi)⟩
theorem QR {m i : Nat} {p : Tip} : (G.below m).tip i = some p ↔ i < m ∧ G.tip i = some p := by
  simp only [Gh.below]
  by_cases hi : i < m
  · rw [if_pos hi]; exact ⟨fun h => ⟨hi, h⟩, fun h => h.2⟩
  · rw [if_neg hi]; exact ⟨(fun h => by cases h), (fun h => absurd h.1 hi)⟩
theorem QBK {G' : Gh} {w' : World} {m m' : Nat} (hm : m ≤ m') (hl : Le B (G.below m') w G' w') : Le B (G.below m) w G' w' :=
  ⟨fun i p e => hl.blk i p (QB.2 ⟨Nat.lt_of_lt_of_le (QB.1 e).1 hm, (QB.1 e).2⟩), fun i t e => hl.tip i t (QR.2 ⟨Nat.lt_of_lt_of_le (QR.1 e).1 hm, (QR.1 e).2⟩), hl.stab⟩
theorem QpX {m m' : Nat} (hm : m ≤ m') : Le B (G.below m) w (G.below m') w :=
  QBK hm (.refl _ _ _)
def At (G : Gh) (id b : Nat) : Prop := (∃ n, G.blk id = some (b, n)) ∨ ∃ t, G.tip id = some t ∧ t.blk = b
theorem Qg5 {b : Nat} : Mapped G b ↔ ∃ id, At G id b := by
  constructor
  · rintro (⟨id, p, e, rfl⟩ | ⟨id, t, e, rfl⟩)
    · exact ⟨id, .inl ⟨p.2, e⟩⟩
    · exact ⟨id, .inr ⟨t, e, rfl⟩⟩
  · rintro ⟨id, ⟨n, e⟩ | ⟨t, e, rfl⟩⟩
    · exact .inl ⟨id, _, e, rfl⟩
    · exact .inr ⟨id, t, e, rfl⟩
structure Inv (P : Program) (B n N : Nat) (l : List OpC) (hs : Nat → Heap) (vs : Nat → V) (e : Env) (G0 : Gh) (w00 : World) (ds : List Deferred) (D : Nat → Prop) (a : Act) (w : World) (G : Gh) : Prop where
  wf : Wf B G (hs N) w
  evo : Evo B G0 (hs 0) w00 G (hs N) w
  dom : ∀ id b, At G id b → id < (hs 0).length ∨ ∃ i, i < N ∧ D i ∧ (hs i).length ≤ id ∧ id < (hs (i + 1)).length
  old : ∀ id o, id < (hs 0).length → (hs N)[id]? = some o → QaE B (G.below (hs 0).length) w id o
  new : ∀ i id o, i < N → D i → (hs i).length ≤ id → id < (hs (i + 1)).length → (hs N)[id]? = some o → QaE B (G.below (hs (i + 1)).length) w id o
  size : a.tmps.size = n
  val : ∀ i oc d, l[i]? = some oc → D i → oc.dst = some d → d < n → Rv B (G.below (hs (i + 1)).length) w (vs i) (a.tmps.getD d undef)
  keep : ∀ t, t < n → (∀ i oc, l[i]? = some oc → D i → oc.dst ≠ some t) → Rv B (G.below (hs 0).length) w (e t) (a.tmps.getD t undef)
  sep : ∀ id id' b m, m ≤ N → At G id b → At G id' b → (id < (hs m).length ↔ id' < (hs m).length)
  defers : a.defers = ds
theorem Rv.few {G2 : Gh} {w2 : World} {m : Nat} {x : V} {u u2 : Value} (h1 : Rv B (G.below m) w x u) (h2 : Rv B G2 w2 x u2) : Rv B (G2.below m) w2 x u2 := by
  induction h1 generalizing u2 with
  | bool b => cases h2; exact .bool b
  | int k n => cases h2; exact .int k n
  | str s => cases h2; exact .str s
  | nilp => cases h2; exact .nilp
  | ptr h => cases h2 with | ptr h' => exact .ptr (QB.2 ⟨(QB.1 h).1, h'⟩)
  | iptr vs hc h1 hr ih =>
    cases h2 with
    | iptr vs' hc' h1' hr' => exact .iptr vs' hc' h1' fun k x hx => ih k x hx (hr' k x hx)
  | nsl => cases h2; exact .nsl
  | sl vs hsz hsp hcap hc h1 hr hfull htip ih =>
    cases h2 with
    | sl vs' hsz' hsp' hcap' hc' h1' hr' hfull' htip' =>
      refine .sl vs' hsz' hsp' hcap' hc' h1' (fun k x hx => ih k x hx (hr' k x hx)) hfull' fun id e => ?_
      obtain ⟨t, ht, _⟩ := htip id e
      obtain ⟨t', ht', h3⟩ := htip' id e
      exact ⟨t', QR.2 ⟨(QR.1 ht).1, ht'⟩, h3⟩
  | hsl h hl hn => cases h2 with | hsl h' hl' hn' => exact .hsl (QB.2 ⟨(QB.1 h).1, h'⟩) hl' hn'
  | nmap => cases h2; exact .nmap
  | map h => cases h2 with | map h' => exact .map (QB.2 ⟨(QB.1 h).1, h'⟩)
  | nfn => cases h2; exact .nfn
  | fn hl hr ih =>
    rename_i f caps vs
    cases h2 with
    | fn hl' hr' =>
      refine .fn hl' fun k x v hx hv => ?_
      have hk : k < vs.length := by rw [hl]; exact (List.getElem?_eq_some_iff.1 hx).1
      exact ih k x _ hx (List.getElem?_eq_getElem hk) (hr' k x v hx hv)
  | agg hl h1 hr ih =>
    rename_i cs vs
    cases h2 with
    | agg hl' h1' hr' =>
      refine .agg hl' h1' fun k x v hx hv => ?_
      have hk : k < vs.length := by rw [hl]; exact (List.getElem?_eq_some_iff.1 hx).1
      exact ih k x _ hx (List.getElem?_eq_getElem hk) (hr' k x v hx hv)
  | tup hl hr ih =>
    rename_i cs vs
    cases h2 with
    | tup hl' hr' =>
      refine .tup hl' fun k x v hx hv => ?_
      have hk : k < vs.length := by rw [hl]; exact (List.getElem?_eq_some_iff.1 hx).1
      exact ih k x _ hx (List.getElem?_eq_getElem hk) (hr' k x v hx hv)
theorem QaE.few {G2 : Gh} {w2 : World} {m id : Nat} {ob : O} (h1 : QaE B (G.below m) w id ob) (h2 : QaE B G2 w2 id ob) (hid : ∀ p, (G2.below m).blk id = some p → (G.below m).blk id = some p) : QaE B (G2.below m) w2 id ob := by
  cases ob with
  | box cs =>
    intro b k e
    have e0 := hid _ e
    obtain ⟨arr, T, fz, a1, a2, a3, a4, a5, a6⟩ := (h2 b k (QB.1 e).2).out
    obtain ⟨arr', T', fz', _, _, _, _, _, b6⟩ := (h1 b k e0).out
    refine ⟨arr, T, fz, a1, a2, a3, a4, a5, fun j x hx => ?_⟩
    obtain ⟨u, hu, hru⟩ := a6 j x hx
    obtain ⟨u', _, hru'⟩ := b6 j x hx
    exact ⟨u, hu, hru'.few hru⟩
  | map es =>
    intro b k e
    have e0 := hid _ e
    obtain ⟨l, c, a1, a2⟩ := h2 b k (QB.1 e).2
    obtain ⟨l', c', _, b2⟩ := h1 b k e0
    refine ⟨l, c, a1, a2.1, fun j x y hx hy => ?_⟩
    have hj : j < l'.toList.length := by rw [b2.1]; exact (List.getElem?_eq_some_iff.1 hx).1
    have c1 := b2.2 j x _ hx (List.getElem?_eq_getElem hj)
    have c2 := a2.2 j x y hx hy
    exact ⟨c1.1.few c2.1, c1.2.few c2.2⟩
  | tip k =>
    intro t e
    exact h2 t (QR.1 e).2
  | dead => trivial
theorem Qvv {hs : Nat → Heap} {N : Nat} (hx : ∀ j, j < N → Ext (hs j) (hs (j + 1))) : ∀ (d i : Nat), i + d ≤ N → Ext (hs i) (hs (i + d))
  | 0, i, _ => fun _ _ => rfl
  | d + 1, i, hle => (Qvv hx d i (by omega)).trans (hx (i + d) (by omega))
theorem Qcy {hs : Nat → Heap} {N : Nat} (hx : ∀ j, j < N → Ext (hs j) (hs (j + 1))) {i j : Nat} (hij : i ≤ j) (hj : j ≤ N) : Ext (hs i) (hs j) := by
  have := Qvv hx (j - i) i (by omega)
  rwa [show i + (j - i) = j by omega] at this
theorem Ext.alive {h1 : Heap} (hx : Ext h h1) {i : Nat} (hi : i < h.length) : alive h1 i ↔ alive h i := by
  simp only [Go.Vm.alive, hx i hi]
def Gh.merge (G G1 : Gh) (m : Nat) : Gh := { blk := fun i => if i < m then G1.blk i else G.blk i, tip := fun i => if i < m then G1.tip i else G.tip i, lim := G1.lim }
theorem Qdb {G1 : Gh} {m i : Nat} : (G.merge G1 m).blk i = if i < m then G1.blk i else G.blk i := rfl
theorem QcP {G1 : Gh} {m i : Nat} : (G.merge G1 m).tip i = if i < m then G1.tip i else G.tip i := rfl
variable {N : Nat} {l : List OpC} {hs : Nat → Heap} {vs : Nat → V} {G0 : Gh} {w00 : World} {ds : List Deferred} {D : Nat → Prop}
theorem Inv.next {i : Nat} {oc : OpC} {G1 : Gh} {w1 : World} {val : Value} (hI : Inv P B n N l hs vs e G0 w00 ds D a w G) (hi : i < N) (hl : l[i]? = some oc) (hnD : ¬ D i) (hx : ∀ j, j < N → Ext (hs j) (hs (j + 1))) (hlN : l.length = N)
    (hdst : ∀ (j k : Nat) (oj ok : OpC) (d : Tmp), j ≠ k → l[j]? = some oj → l[k]? = some ok → oj.dst = some d → ok.dst ≠ some d) (hdn : QdF n oc.dst = true)
    (hrel : Rel B G1 (hs (i + 1)) w1) (hevo : Evo B (G.below (hs i).length) (hs i) w G1 (hs (i + 1)) w1) (hv : Rv B G1 w1 (vs i) val) :
    Inv P B n N l hs vs e G0 w00 ds (fun j => D j ∨ j = i) (a.put oc.dst val) w1 (G.merge G1 (hs (i + 1)).length) := by
  have hw := hI.wf
  have hw1 := hrel.wf
  have len01 : (hs i).length ≤ (hs (i + 1)).length := (hx i hi).len
  have lenle : ∀ {j k}, j ≤ k → k ≤ N → (hs j).length ≤ (hs k).length := fun hjk hk => (Qcy hx hjk hk).len
  -- numbers of the operation i are its own
  have range_none : ∀ id b, (hs i).length ≤ id → id < (hs (i + 1)).length → ¬ At G id b := by
    intro id b h1 h2 hat
    rcases hI.dom id b hat with h3 | ⟨k, hk, hDk, h3, h4⟩
    · have := lenle (Nat.zero_le i) (Nat.le_of_lt hi); omega
    · rcases Nat.lt_trichotomy k i with hlt | rfl | hgt
      · have := lenle (show k + 1 ≤ i from hlt) (Nat.le_of_lt hi); omega
      · exact hnD hDk
      · have := lenle (show i + 1 ≤ k from hgt) (Nat.le_of_lt hk); omega
  have blk_old : ∀ id p, id < (hs i).length → (G1.blk id = some p ↔ G.blk id = some p) := by
    intro id p hid
    constructor
    · intro e1; exact (QB.1 (hevo.oldb id p hid e1)).2
    · intro e1; exact hevo.le.blk id p (QB.2 ⟨hid, e1⟩)
  have tip_old : ∀ id t, id < (hs i).length → (G1.tip id = some t ↔ G.tip id = some t) := by
    intro id t hid
    have same : ∀ t t', G.tip id = some t → G1.tip id = some t' → t' = t := by
      intro t t' e1 e2
      obtain ⟨t'', e3, h1, h2⟩ := hevo.le.tip id t (QR.2 ⟨hid, e1⟩)
      have : t'' = t' := Option.some.inj (e3.symm.trans e2)
      subst this
      have a1 := hw.tipo id t e1
      have a2 := hw1.tipo id t'' e2
      rw [Qcy hx (show i + 1 ≤ N from hi) (Nat.le_refl _) id (by omega)] at a1
      rw [a1] at a2
      injection a2 with a2
      injection a2 with a2
      exact h2 a2
    constructor
    · intro e1
      obtain ⟨t0, e0, _⟩ := hevo.oldt id t hid e1
      have e0' := (QR.1 e0).2
      rw [same t0 t e0' e1]; exact e0'
    · intro e1
      obtain ⟨t'', e3, h1, h2⟩ := hevo.le.tip id t (QR.2 ⟨hid, e1⟩)
      rw [same t t'' e1 e3] at e3; exact e3
  have at_old : ∀ id b, id < (hs i).length → (At G1 id b ↔ At G id b) := by
    intro id b hid
    unfold At
    constructor
    · rintro (⟨k, e1⟩ | ⟨t, e1, h1⟩)
      · exact .inl ⟨k, (blk_old id _ hid).1 e1⟩
      · exact .inr ⟨t, (tip_old id t hid).1 e1, h1⟩
    · rintro (⟨k, e1⟩ | ⟨t, e1, h1⟩)
      · exact .inl ⟨k, (blk_old id _ hid).2 e1⟩
      · exact .inr ⟨t, (tip_old id t hid).2 e1, h1⟩
  have at_merge : ∀ id b, At (G.merge G1 (hs (i + 1)).length) id b ↔ if id < (hs (i + 1)).length then At G1 id b else At G id b := by
    intro id b
    unfold At
    simp only [Qdb, QcP]
    by_cases hid : id < (hs (i + 1)).length
    · simp only [if_pos hid]
    · simp only [if_neg hid]
  have at_lt : ∀ id b, At G id b → b < w.heap.size := by
    rintro id b (⟨k, e1⟩ | ⟨t, e1, rfl⟩)
    · exact (hw.blk id _ e1).2.1
    · exact (hw.tip id t e1).2.1
  have new_ge : ∀ id b, (hs i).length ≤ id → At G1 id b → w.heap.size ≤ b := by
    rintro id b hid (⟨k, e1⟩ | ⟨t, e1, rfl⟩)
    · rcases hevo.newb id _ hid e1 with h1 | ⟨y, q, hy, hq, _, hal, hn⟩
      · exact h1
      · exact absurd (((hx i hi).alive hy).2 hal) hn
    · exact hevo.newt id t hid e1
  have at_id : ∀ id b, At G id b → id < (hs N).length := by
    rintro id b (⟨k, e1⟩ | ⟨t, e1, rfl⟩)
    · exact (hw.blk id _ e1).2.2.2
    · exact (hw.tip id t e1).2.2.2
  -- a block of a later operation is not met
  have later : ∀ id b, (hs i).length ≤ id → At G id b → ¬ Mapped (G.below (hs i).length) b := by
    intro id b hid hat hm
    obtain ⟨id', hat'⟩ := Qg5.1 hm
    have h1 : id' < (hs i).length ∧ At G id' b := by
      rcases hat' with ⟨k, e1⟩ | ⟨t, e1, h2⟩
      · exact ⟨(QB.1 e1).1, .inl ⟨k, (QB.1 e1).2⟩⟩
      · exact ⟨(QR.1 e1).1, .inr ⟨t, (QR.1 e1).2, h2⟩⟩
    have := (hI.sep id id' b i (Nat.le_of_lt hi) hat h1.2).2 h1.1
    omega
  have mapped_below : ∀ b, Mapped (G.below (hs i).length) b → Mapped G b := by
    intro b hm
    obtain ⟨id', hat'⟩ := Qg5.1 hm
    refine Qg5.2 ⟨id', ?_⟩
    rcases hat' with ⟨k, e1⟩ | ⟨t, e1, h2⟩
    · exact .inl ⟨k, (QB.1 e1).2⟩
    · exact .inr ⟨t, (QR.1 e1).2, h2⟩
  -- what is known goes on
  have hle : Le B G w (G.merge G1 (hs (i + 1)).length) w1 := by
    refine ⟨fun id p e1 => ?_, fun id t e1 => ?_, fun b k hsn => ?_⟩
    · rw [Qdb]
      split <;> rename_i hid
      · rcases Nat.lt_or_ge id (hs i).length with h1 | h1
        · exact (blk_old id p h1).2 e1
        · exact absurd (.inl ⟨p.2, e1⟩) (range_none id p.1 h1 hid)
      · exact e1
    · refine ⟨t, ?_, Nat.le_refl _, fun _ => rfl⟩
      rw [QcP]
      split <;> rename_i hid
      · rcases Nat.lt_or_ge id (hs i).length with h1 | h1
        · exact (tip_old id t h1).2 e1
        · exact absurd (.inr ⟨t, e1, rfl⟩) (range_none id t.blk h1 hid)
      · exact e1
    · exact hevo.le.stab b k hsn
  have hle1 : Le B G1 w1 ((G.merge G1 (hs (i + 1)).length).below (hs (i + 1)).length) w1 := by
    refine ⟨fun id p e1 => QB.2 ⟨(hw1.blk id p e1).2.2.2, by rw [Qdb, if_pos (hw1.blk id p e1).2.2.2]; exact e1⟩, fun id t e1 => ⟨t, QR.2 ⟨(hw1.tip id t e1).2.2.2, by rw [QcP, if_pos (hw1.tip id t e1).2.2.2]; exact e1⟩, Nat.le_refl _, fun _ => rfl⟩, fun b k hsn => ⟨hsn, rfl⟩⟩
  have hleb : ∀ m, Le B (G.below m) w ((G.merge G1 (hs (i + 1)).length).below m) w1 := fun m =>
    ⟨fun id p e1 => QB.2 ⟨(QB.1 e1).1, hle.blk id p (QB.1 e1).2⟩, fun id t e1 => by
      obtain ⟨t', e2, h1, h2⟩ := hle.tip id t (QR.1 e1).2
      exact ⟨t', QR.2 ⟨(QR.1 e1).1, e2⟩, h1, h2⟩, hle.stab⟩
  have lenN : (hs (i + 1)).length ≤ (hs N).length := lenle hi (Nat.le_refl _)
  have hsz : w.heap.size ≤ w1.heap.size := hevo.size
  -- objects
  have obj_old : ∀ m id ob, m ≤ (hs i).length → id < (hs i).length → (hs N)[id]? = some ob → QaE B (G.below m) w id ob → QaE B ((G.merge G1 (hs (i + 1)).length).below m) w1 id ob := by
    intro m id ob hm hid hob h1
    have e1 : (hs (i + 1))[id]? = some ob := by rw [← hob]; exact (Qcy hx (show i + 1 ≤ N from hi) (Nat.le_refl _) id (by omega)).symm
    have h2 := hrel.obj id ob e1
    have h3 : QaE B (G1.below m) w1 id ob := h1.few h2 fun p ep => QB.2 ⟨(QB.1 ep).1, (blk_old id p hid).1 (QB.1 ep).2⟩
    have hl3 : Le B (G1.below m) w1 ((G.merge G1 (hs (i + 1)).length).below m) w1 := by
      refine ⟨fun id p e1 => QB.2 ⟨(QB.1 e1).1, ?_⟩, fun id t e1 => ⟨t, QR.2 ⟨(QR.1 e1).1, ?_⟩, Nat.le_refl _, fun _ => rfl⟩, fun b k hsn => ⟨hsn, rfl⟩⟩
      · rw [Qdb, if_pos (hw1.blk id p (QB.1 e1).2).2.2.2]; exact (QB.1 e1).2
      · rw [QcP, if_pos (hw1.tip id t (QR.1 e1).2).2.2.2]; exact (QR.1 e1).2
    refine h3.mono hl3 (fun _ p ep => ⟨QB.2 ⟨(QB.1 ep).1, ?_⟩, rfl⟩) (fun _ t et => ⟨QR.2 ⟨(QR.1 et).1, ?_⟩, rfl⟩)
    · have := (QB.1 ep).2; rw [Qdb, if_pos (by omega)] at this; exact this
    · have := (QR.1 et).2; rw [QcP, if_pos (by omega)] at this; exact this
  have obj_late : ∀ m id ob, (hs (i + 1)).length ≤ id → QaE B (G.below m) w id ob → QaE B ((G.merge G1 (hs (i + 1)).length).below m) w1 id ob := by
    intro m id ob hid h1
    refine h1.mono (hleb m) (fun _ p ep => ?_) (fun _ t et => ?_)
    · have e1 := (QB.1 ep).2
      rw [Qdb, if_neg (by omega)] at e1
      exact ⟨QB.2 ⟨(QB.1 ep).1, e1⟩, hevo.frame _ (hw.blk id p e1).2.1 (later id p.1 (by omega) (.inl ⟨p.2, e1⟩))⟩
    · have e1 := (QR.1 et).2
      rw [QcP, if_neg (by omega)] at e1
      exact ⟨QR.2 ⟨(QR.1 et).1, e1⟩, hevo.frame _ (hw.tip id t e1).2.1 (later id t.blk (by omega) (.inr ⟨t, e1, rfl⟩))⟩
  have len0i : (hs 0).length ≤ (hs i).length := lenle (Nat.zero_le i) (Nat.le_of_lt hi)
  -- two numbers of one block
  have sep1 : ∀ id id' b, id < (hs (i + 1)).length → (hs (i + 1)).length ≤ id' → At G1 id b → At G id' b → False := by
    intro id id' b h1 h2 ha ha'
    rcases Nat.lt_or_ge id (hs i).length with h3 | h3
    · have := (hI.sep id id' b i (Nat.le_of_lt hi) ((at_old id b h3).1 ha) ha').1 h3; omega
    · have := new_ge id b h3 ha; have := at_lt id' b ha'; omega
  refine ⟨?_, ?_, ?_, ?_, ?_, ?_, ?_, ?_, ?_, ?_⟩
  · -- Wf
    refine ⟨Nat.le_trans hw.base hsz, ?_, ?_, ?_, ?_, ?_, ?_⟩
    · intro id p ep
      rw [Qdb] at ep
      split at ep
      · obtain ⟨c1, c2, c3, c4⟩ := hw1.blk id p ep
        exact ⟨c1, c2, c3, by omega⟩
      · rename_i hid
        obtain ⟨c1, c2, c3, c4⟩ := hw.blk id p ep
        exact ⟨c1, by omega, (hevo.limk p.1 c2 (later id p.1 (by omega) (.inl ⟨p.2, ep⟩))).trans c3, c4⟩
    · intro id t et
      rw [QcP] at et
      split at et
      · obtain ⟨c1, c2, c3, c4⟩ := hw1.tip id t et
        exact ⟨c1, c2, c3, by omega⟩
      · rename_i hid
        obtain ⟨c1, c2, c3, c4⟩ := hw.tip id t et
        exact ⟨c1, by omega, (hevo.limk t.blk c2 (later id t.blk (by omega) (.inr ⟨t, et, rfl⟩))).trans c3, c4⟩
    · exact hw1.lim
    · intro x y p q ex ey hpq ax ay
      rw [Qdb] at ex ey
      split at ex <;> rename_i hxl <;> split at ey <;> rename_i hyl
      · exact hw1.inj x y p q ex ey hpq (((Qcy hx (show i + 1 ≤ N from hi) (Nat.le_refl _)).alive hxl).1 ax) (((Qcy hx (show i + 1 ≤ N from hi) (Nat.le_refl _)).alive hyl).1 ay)
      · exact (sep1 x y p.1 hxl (by omega) (.inl ⟨p.2, ex⟩) (.inl ⟨q.2, by rw [hpq]; exact ey⟩)).elim
      · exact (sep1 y x p.1 hyl (by omega) (.inl ⟨q.2, by rw [hpq]; exact ey⟩) (.inl ⟨p.2, ex⟩)).elim
      · exact hw.inj x y p q ex ey hpq ax ay
    · intro x y p q ex ey hpq
      rw [QcP] at ex ey
      split at ex <;> rename_i hxl <;> split at ey <;> rename_i hyl
      · exact hw1.tinj x y p q ex ey hpq
      · exact (sep1 x y p.blk hxl (by omega) (.inr ⟨p, ex, rfl⟩) (.inr ⟨q, ey, hpq.symm⟩)).elim
      · exact (sep1 y x p.blk hyl (by omega) (.inr ⟨q, ey, hpq.symm⟩) (.inr ⟨p, ex, rfl⟩)).elim
      · exact hw.tinj x y p q ex ey hpq
    · intro id t et
      rw [QcP] at et
      split at et
      · rename_i hid
        rw [Qcy hx (show i + 1 ≤ N from hi) (Nat.le_refl _) id hid]
        exact hw1.tipo id t et
      · exact hw.tipo id t et
  · -- Evo
    have ev := hI.evo
    exact {
      le := ev.le.trans hle, os := hevo.os.trans ev.os, tape := hevo.tape.trans ev.tape, output := hevo.output.trans ev.output, size := Nat.le_trans ev.size hsz, len := ev.len
      frame := fun b hb hm => (hevo.frame b (Nat.lt_of_lt_of_le hb ev.size) fun m => hm (ev.fresh b hb (mapped_below b m))).trans (ev.frame b hb hm)
      fresh := by
        intro b hb hm
        obtain ⟨id, hat⟩ := Qg5.1 hm
        rw [at_merge] at hat
        split at hat
        · have := hevo.fresh b (Nat.lt_of_lt_of_le hb ev.size) (Qg5.2 ⟨id, hat⟩)
          exact ev.fresh b hb (mapped_below b this)
        · exact ev.fresh b hb (Qg5.2 ⟨id, hat⟩)
      limk := fun b hb hm => (hevo.limk b (Nat.lt_of_lt_of_le hb ev.size) fun m => hm (ev.fresh b hb (mapped_below b m))).trans (ev.limk b hb hm)
      nores := ev.nores
      oldb := by
        intro x p hxl ep
        rw [Qdb, if_pos (by omega)] at ep
        exact ev.oldb x p hxl ((blk_old x p (by omega)).1 ep)
      oldt := by
        intro x t hxl et
        rw [QcP, if_pos (by omega)] at et
        exact ev.oldt x t hxl ((tip_old x t (by omega)).1 et)
      newb := by
        intro x p hxl ep
        rw [Qdb] at ep
        split at ep
        · rcases Nat.lt_or_ge x (hs i).length with h1 | h1
          · exact ev.newb x p hxl ((blk_old x p h1).1 ep)
          · exact .inl (Nat.le_trans ev.size (new_ge x p.1 h1 (.inl ⟨p.2, ep⟩)))
        · exact ev.newb x p hxl ep
      newt := by
        intro x t hxl et
        rw [QcP] at et
        split at et
        · rcases Nat.lt_or_ge x (hs i).length with h1 | h1
          · exact ev.newt x t hxl ((tip_old x t h1).1 et)
          · exact Nat.le_trans ev.size (new_ge x t.blk h1 (.inr ⟨t, et, rfl⟩))
        · exact ev.newt x t hxl et }
  · -- dom
    intro id b hat
    rw [at_merge] at hat
    split at hat
    · rename_i hid
      rcases Nat.lt_or_ge id (hs i).length with h1 | h1
      · rcases hI.dom id b ((at_old id b h1).1 hat) with h2 | ⟨k, hk, hDk, h2⟩
        · exact .inl h2
        · exact .inr ⟨k, hk, .inl hDk, h2⟩
      · exact .inr ⟨i, hi, .inr rfl, h1, hid⟩
    · rcases hI.dom id b hat with h2 | ⟨k, hk, hDk, h2⟩
      · exact .inl h2
      · exact .inr ⟨k, hk, .inl hDk, h2⟩
  · -- old
    intro id ob hid hob
    exact obj_old _ id ob len0i (by omega) hob (hI.old id ob hid hob)
  · -- new
    intro k id ob hk hDk h1 h2 hob
    rcases Nat.lt_trichotomy k i with hlt | rfl | hgt
    · have hDk' : D k := hDk.resolve_right (by omega)
      have := lenle (show k + 1 ≤ i from hlt) (Nat.le_of_lt hi)
      exact obj_old _ id ob this (by omega) hob (hI.new k id ob hk hDk' h1 h2 hob)
    · have e1 : (hs (k + 1))[id]? = some ob := by rw [← hob]; exact (Qcy hx (show k + 1 ≤ N from hi) (Nat.le_refl _) id h2).symm
      refine (hrel.obj id ob e1).mono hle1 (fun _ p ep => ⟨?_, rfl⟩) (fun _ t et => ⟨?_, rfl⟩)
      · have := (QB.1 ep).2; rw [Qdb, if_pos h2] at this; exact this
      · have := (QR.1 et).2; rw [QcP, if_pos h2] at this; exact this
    · have hDk' : D k := hDk.resolve_right (by omega)
      have := lenle (show i + 1 ≤ k from hgt) (Nat.le_of_lt hk)
      exact obj_late _ id ob (by omega) (hI.new k id ob hk hDk' h1 h2 hob)
  · cases oc with | mk dst g ins => cases dst <;> simp [Act.put, hI.size]
  · -- val
    intro k ock d hlk hDk hd hdlt
    by_cases hki : k = i
    · subst hki
      have : ock = oc := Option.some.inj (hlk.symm.trans hl)
      subst this
      have hget : (a.put ock.dst val).tmps.getD d undef = val := by simp [Act.put, hd, hI.size, hdlt]
      rw [hget]
      exact hv.mono hle1
    · have hDk' : D k := hDk.resolve_right hki
      have hne := hdst k i ock oc d hki hlk hl hd
      have hget : (a.put oc.dst val).tmps.getD d undef = a.tmps.getD d undef := by
        cases hdd : oc.dst with
        | none => rfl
        | some d' =>
          have : d' ≠ d := fun hh => hne (by rw [hdd, hh])
          simp [Act.put, Array.getElem?_setIfInBounds_ne this]
      rw [hget]
      exact (hI.val k ock d hlk hDk' hd hdlt).mono (hleb _)
  · -- keep
    intro t ht hno
    have hne : oc.dst ≠ some t := hno i oc hl (.inr rfl)
    have hget : (a.put oc.dst val).tmps.getD t undef = a.tmps.getD t undef := by
      cases hdd : oc.dst with
      | none => rfl
      | some d' =>
        have : d' ≠ t := fun hh => hne (by rw [hdd, hh])
        simp [Act.put, Array.getElem?_setIfInBounds_ne this]
    rw [hget]
    exact (hI.keep t ht fun k ock hlk hDk => hno k ock hlk (.inl hDk)).mono (hleb _)
  · -- sep
    intro id id' b m hm ha ha'
    rw [at_merge] at ha ha'
    have rng : ∀ x, (hs i).length ≤ x → x < (hs (i + 1)).length → (x < (hs m).length ↔ i + 1 ≤ m) := by
      intro x h1 h2
      constructor
      · intro h3
        rcases Nat.lt_or_ge m (i + 1) with h4 | h4
        · have := lenle (show m ≤ i by omega) (Nat.le_of_lt hi); omega
        · exact h4
      · intro h3
        have := lenle h3 hm; omega
    split at ha <;> rename_i h1 <;> split at ha' <;> rename_i h2
    · rcases Nat.lt_or_ge id (hs i).length with h3 | h3 <;> rcases Nat.lt_or_ge id' (hs i).length with h4 | h4
      · exact hI.sep id id' b m hm ((at_old id b h3).1 ha) ((at_old id' b h4).1 ha')
      · have := new_ge id' b h4 ha'; have := at_lt id b ((at_old id b h3).1 ha); omega
      · have := new_ge id b h3 ha; have := at_lt id' b ((at_old id' b h4).1 ha'); omega
      · rw [rng id h3 h1, rng id' h4 h2]
    · exact (sep1 id id' b h1 (by omega) ha ha').elim
    · exact (sep1 id' id b h2 (by omega) ha' ha).elim
    · exact hI.sep id id' b m hm ha ha'
  · rw [Qis]; exact hI.defers
/-! ### What the compiler saw of a region -/
structure Seen (P : Program) (n : Nat) (ops : Array Oper) (l : List OpC) : Prop where
  len : l.length ≤ ops.size
  at_ : ∀ (j : Nat) (oc : OpC), l[j]? = some oc → ∃ oj g i, ops[j]? = some oj ∧ Qgp ops n oj.guard = some g ∧ Ql P n oj = some i ∧ QdF n oj.dst = true ∧ oc = (OpC.mk oj.dst g i)
theorem QiY {ops : Array Oper} : ∀ {os : List Oper} {l : List OpC}, Qbt P ops n os = some l → l.length = os.length ∧
    ∀ (j : Nat) (oc : OpC), l[j]? = some oc → ∃ oj g i, os[j]? = some oj ∧ Qgp ops n oj.guard = some g ∧ Ql P n oj = some i ∧ QdF n oj.dst = true ∧ oc = (OpC.mk oj.dst g i)
  | [], l, hc => by simp [Qbt] at hc; subst hc; exact ⟨rfl, fun j oc hj => by simp at hj⟩
  | o :: os, l, hc => by
    cases l with
    | nil =>
      simp only [Qbt] at hc
      split at hc <;> cases hc
    | cons x l =>
      obtain ⟨o', r, g, i, he, h1, h2, h3, h4, rfl⟩ := Qir hc
      injection he with e1 e2; subst e1; subst e2
      obtain ⟨h5, h6⟩ := QiY h1
      refine ⟨by simp [h5], fun j oc hj => ?_⟩
      cases j with
      | zero => simp at hj; subst hj; exact ⟨o, g, i, by simp, h2, h3, h4, rfl⟩
      | succ j => simp at hj; simpa using h6 j oc hj
theorem Qii {ops : Array Oper} (hok : Qjg ops l = true) {j : Nat} {oj : Oper} {cj : OpC} (hj : ops[j]? = some oj) (hcj : l[j]? = some cj) :
    (∀ cs b, oj.op ≠ .select cs b) ∧ (∀ ed ∈ oj.after, Region.binds .any ed = true → ed.on < j) ∧
    ∀ i oi ci, i < j → ops[i]? = some oi → l[i]? = some ci → (∀ d, oi.dst = some d → oj.dst ≠ some d) ∧
      (waits oj i = true ∨ ((∀ d, oi.dst = some d → QgO ops oj d = false ∧ cj.looks d = false) ∧ (∀ d, oj.dst = some d → QgO ops oi d = false ∧ ci.looks d = false))) := by
  have hjlt : j < l.length := (List.getElem?_eq_some_iff.1 hcj).1
  have h1 := List.all_eq_true.1 hok j (List.mem_range.2 hjlt)
  simp only [hj, hcj, Bool.and_eq_true] at h1
  obtain ⟨⟨h2, h3⟩, h4⟩ := h1
  refine ⟨?_, ?_, ?_⟩
  · intro cs b hsel
    rw [hsel] at h2
    cases h2
  · intro ed hed hb
    have := Array.all_eq_true'.1 h3 ed hed
    simpa [hb] using this
  · intro i oi ci hij hoi hci
    have h5 := List.all_eq_true.1 h4 i (List.mem_range.2 hij)
    simp only [hoi, hci, Bool.and_eq_true, Bool.or_eq_true] at h5
    obtain ⟨h6, h7⟩ := h5
    refine ⟨fun d hd => ?_, h7.imp id fun h8 => ⟨fun d hd => ?_, fun d hd => ?_⟩⟩
    · simp only [hd] at h6
      simpa using h6
    · have := h8.1
      simp only [hd, Bool.and_eq_true, Bool.not_eq_true'] at this
      exact this
    · have := h8.2
      simp only [hd, Bool.and_eq_true, Bool.not_eq_true'] at this
      exact this
theorem QmQ {ci : OpC} {t : Nat} (hl : ci.looks t = false) : Arg.t t ∉ ci.ins.args ∧ ∀ b, ci.guard ≠ some (t, b) := by
  unfold OpC.looks at hl
  rw [Bool.or_eq_false_iff] at hl
  refine ⟨fun hm => ?_, fun b hg => ?_⟩
  · have := List.any_eq_false.1 hl.1 _ hm
    simp at this
  · rw [hg] at hl
    simp at hl
theorem QHC {ops : Array Oper} (hS : Seen P n ops l) (hN : l.length = N) (hok : Qjg ops l = true) {es : Nat → Env} (hes0 : es 0 = e) (hrun : ∀ j oc, l[j]? = some oc → es (j + 1) = put (es j) oc.dst (vs j) ∧ QfC P w0 oc (es j) (hs j) (vs j) (hs (j + 1)))
    (hI : Inv P B n N l hs vs e G0 w00 ds D a w G) (hcl : ∀ k ok, D k → ops[k]? = some ok → ∀ j, waits ok j = true → D j) {i : Nat} (hi : i < N) (hnD : ¬ D i) {oi : Oper} {ci : OpC} (hoi : ops[i]? = some oi) (hci : l[i]? = some ci) (hready : ∀ j, waits oi j = true → D j) (hb : Base w0 B w)
    {K : Act → World → Prop} {Q : Exit → Act → World → Prop} (hK : ∀ a' w' G', Inv P B n N l hs vs e G0 w00 ds (fun j => D j ∨ j = i) a' w' G' → Base w0 B w' → K a' w') : wpOp P ops Q i K a w := by
  have hlN : l.length = N := hN
  have hx : ∀ j, j < N → Ext (hs j) (hs (j + 1)) := fun j hj => (hrun j l[j] (List.getElem?_eq_getElem (by omega))).2.ext
  obtain ⟨oi', g, ins, hoi', hg, hins, hdst, hcie⟩ := hS.at_ i ci hci
  have : oi' = oi := Option.some.inj (hoi'.symm.trans hoi)
  subst this
  have hspec := Qii hok hoi hci
  have hdist : ∀ (j k : Nat) (oj ok : OpC) (d : Tmp), j ≠ k → l[j]? = some oj → l[k]? = some ok → oj.dst = some d → ok.dst ≠ some d := by
    intro j k oj ok d hjk hj hk hd hd2
    obtain ⟨pj, gj, ij, h1, _, _, _, rfl⟩ := hS.at_ j oj hj
    obtain ⟨pk, gk, ik, h2, _, _, _, rfl⟩ := hS.at_ k ok hk
    rcases Nat.lt_or_ge j k with hlt | hge
    · exact ((Qii hok h2 hk).2.2 j pj _ hlt h1 hj).1 d hd hd2
    · exact ((Qii hok h1 hj).2.2 k pk _ (by omega) h2 hk).1 d hd2 hd
  -- temporaries out of step
  let Bad : Nat → Prop := fun t => ∃ k ok, l[k]? = some ok ∧ ok.dst = some t ∧ ((k < i ∧ ¬ D k) ∨ (i < k ∧ D k))
  have bad_free : ∀ t, Bad t → QgO ops oi' t = false ∧ ci.looks t = false := by
    rintro t ⟨k, ok, hk, hd, hkk⟩
    obtain ⟨pk, gk, ik, h2, _, _, _, rfl⟩ := hS.at_ k ok hk
    rcases hkk with ⟨hlt, hnk⟩ | ⟨hlt, hDk⟩
    · rcases (hspec.2.2 k pk _ hlt h2 hk).2 with hw | hw
      · exact absurd (hready k hw) hnk
      · exact hw.1 t hd
    · rcases ((Qii hok h2 hk).2.2 i oi' ci hlt hoi hci).2 with hw | hw
      · exact absurd (hcl k pk hDk h2 i hw) hnD
      · exact hw.2 t hd
  -- the text's own values
  have es_no : ∀ m, m ≤ N → ∀ t, (∀ k ok, k < m → l[k]? = some ok → ok.dst ≠ some t) → es m t = e t := by
    intro m
    induction m with
    | zero => intro _ t _; rw [hes0]
    | succ m ih =>
      intro hm t hno
      have hlm : l[m]? = some l[m] := List.getElem?_eq_getElem (by omega)
      rw [(hrun m _ hlm).1]
      have := hno m _ (by omega) hlm
      have e1 : put (es m) l[m].dst (vs m) t = es m t := by
        cases hd : l[m].dst with
        | none => rfl
        | some d => simp only [put, upd]; rw [if_neg (fun hh => this (by rw [hd, hh]))]
      rw [e1]
      exact ih (by omega) t fun k ok hk => hno k ok (by omega)
  have es_yes : ∀ m, m ≤ N → ∀ t k ok, k < m → l[k]? = some ok → ok.dst = some t → es m t = vs k := by
    intro m
    induction m with
    | zero => intro _ t k ok hk; omega
    | succ m ih =>
      intro hm t k ok hk hlk hd
      have hlm : l[m]? = some l[m] := List.getElem?_eq_getElem (by omega)
      rw [(hrun m _ hlm).1]
      by_cases hkm : k = m
      · subst hkm
        have : ok = l[k] := Option.some.inj (hlk.symm.trans hlm)
        rw [← this, hd]
        simp [put, upd]
      · have hne := hdist k m ok l[m] t hkm hlk hlm hd
        have e1 : put (es m) l[m].dst (vs m) t = es m t := by
          cases hdd : l[m].dst with
          | none => rfl
          | some d => simp only [put, upd]; rw [if_neg (fun hh => hne (by rw [hdd, hh]))]
        rw [e1]
        exact ih (by omega) t k ok (by omega) hlk hd
  classical
  let eI : Env := fun t => if Bad t then .tup [] else es i t
  let aI : Act := { tmps := Array.ofFn (n := n) fun t => if Bad t.1 then undef else a.tmps.getD t.1 undef, defers := a.defers }
  have aI_get : ∀ t, t < n → aI.tmps.getD t undef = if Bad t then undef else a.tmps.getD t undef := by
    intro t ht
    simp [aI, ht]
  have lenle : ∀ {j k}, j ≤ k → k ≤ N → (hs j).length ≤ (hs k).length := fun hjk hk => (Qcy hx hjk hk).len
  have hen : Qv B (G.below (hs i).length) w n eI aI.tmps := by
    refine ⟨by simp [aI], fun t ht => ?_⟩
    rw [aI_get t ht]
    simp only [eI]
    by_cases hb : Bad t
    · rw [if_pos hb, if_pos hb]; exact QdB
    · rw [if_neg hb, if_neg hb]
      by_cases hk : ∃ k ok, k < i ∧ l[k]? = some ok ∧ ok.dst = some t
      · obtain ⟨k, ok, hki, hlk, hd⟩ := hk
        have hDk : D k := Classical.byContradiction fun hn => hb ⟨k, ok, hlk, hd, .inl ⟨hki, hn⟩⟩
        rw [es_yes i (Nat.le_of_lt hi) t k ok hki hlk hd]
        exact (hI.val k ok t hlk hDk hd ht).mono (QpX (lenle (show k + 1 ≤ i from hki) (Nat.le_of_lt hi)))
      · rw [es_no i (Nat.le_of_lt hi) t fun k ok hki hlk hd => hk ⟨k, ok, hki, hlk, hd⟩]
        refine (hI.keep t ht fun k ok hlk hDk hd => ?_).mono (QpX (lenle (Nat.zero_le i) (Nat.le_of_lt hi)))
        rcases Nat.lt_trichotomy k i with h1 | rfl | h1
        · exact hk ⟨k, ok, h1, hlk, hd⟩
        · exact hnD hDk
        · exact hb ⟨k, ok, hlk, hd, .inr ⟨h1, hDk⟩⟩
  have hrel : Rel B (G.below (hs i).length) (hs i) w := by
    have hw := hI.wf
    have alv : ∀ x, x < (hs i).length → alive (hs i) x → alive (hs N) x := fun x hxl ha => ((Qcy hx (Nat.le_of_lt hi) (Nat.le_refl _)).alive hxl).2 ha
    refine ⟨⟨hw.base, fun id p ep => ?_, fun id t et => ?_, hw.lim, fun x y p q ex ey hpq ax ay => ?_, fun x y p q ex ey hpq => hw.tinj x y p q (QR.1 ex).2 (QR.1 ey).2 hpq, fun id t et => ?_⟩, fun id o ho => ?_⟩
    · obtain ⟨c1, c2, c3, c4⟩ := hw.blk id p (QB.1 ep).2
      exact ⟨c1, c2, c3, (QB.1 ep).1⟩
    · obtain ⟨c1, c2, c3, c4⟩ := hw.tip id t (QR.1 et).2
      exact ⟨c1, c2, c3, (QR.1 et).1⟩
    · exact hw.inj x y p q (QB.1 ex).2 (QB.1 ey).2 hpq (alv x (QB.1 ex).1 ax) (alv y (QB.1 ey).1 ay)
    · rw [← Qcy hx (Nat.le_of_lt hi) (Nat.le_refl _) id (QR.1 et).1]
      exact hw.tipo id t (QR.1 et).2
    · have hid : id < (hs i).length := (List.getElem?_eq_some_iff.1 ho).1
      have hoN : (hs N)[id]? = some o := by rw [Qcy hx (Nat.le_of_lt hi) (Nat.le_refl _) id hid]; exact ho
      have up : ∀ m, m ≤ (hs i).length → id < m → QaE B (G.below m) w id o → QaE B (G.below (hs i).length) w id o := fun m hm hidm h1 =>
        h1.mono (QpX hm) (fun _ p ep => ⟨QB.2 ⟨hidm, (QB.1 ep).2⟩, rfl⟩) (fun _ t et => ⟨QR.2 ⟨hidm, (QR.1 et).2⟩, rfl⟩)
      rcases Nat.lt_or_ge id (hs 0).length with h0 | h0
      · exact up _ (lenle (Nat.zero_le i) (Nat.le_of_lt hi)) h0 (hI.old id o h0 hoN)
      · by_cases hat : ∃ b, At G id b
        · obtain ⟨b, hat⟩ := hat
          rcases hI.dom id b hat with h1 | ⟨k, hk, hDk, h1, h2⟩
          · omega
          · have hki : k < i := by
              rcases Nat.lt_or_ge k i with h3 | h3
              · exact h3
              · have := lenle h3 (Nat.le_of_lt hk); omega
            exact up _ (lenle (show k + 1 ≤ i from hki) (Nat.le_of_lt hi)) h2 (hI.new k id o hk hDk h1 h2 hoN)
        · have nb : ∀ p, (G.below (hs i).length).blk id ≠ some p := fun p ep => hat ⟨p.1, .inl ⟨p.2, (QB.1 ep).2⟩⟩
          have nt : ∀ p, (G.below (hs i).length).tip id ≠ some p := fun p ep => hat ⟨p.blk, .inr ⟨p, (QR.1 ep).2, rfl⟩⟩
          cases o with
          | box cs => exact fun b m e1 => absurd e1 (nb _)
          | map es => exact fun b m e1 => absurd e1 (nb _)
          | tip m => exact fun t e1 => absurd e1 (nt _)
          | dead => trivial
  -- what the operation looks at is in step
  have hagree : Qcu (es i) eI ci.ins.args := by
    intro t ht
    have : ¬ Bad t := fun hbd => (QmQ (bad_free t hbd).2).1 ht
    simp only [eI]; rw [if_neg this]
  have hwantE : OpC.wanted ci eI = OpC.wanted ci (es i) := by
    unfold OpC.wanted
    cases hgd : ci.guard with
    | none => rfl
    | some tb =>
      obtain ⟨t, b⟩ := tb
      have : ¬ Bad t := fun hbd => (QmQ (bad_free t hbd).2).2 b hgd
      simp only [eI]; rw [if_neg this]
  have hevalE : ∀ x ∈ oi'.op.operands, a.eval x = aI.eval x := by
    intro x hxo
    cases x with
    | tmp t =>
      by_cases ht : t < n
      · have : ¬ Bad t := by
          intro hbd
          have := (bad_free t hbd).1
          have hmem : t ∈ oi'.looksAt ops := List.mem_append_left _ (List.mem_filterMap.2 ⟨.tmp t, by simpa using hxo, rfl⟩)
          simp only [QgO] at this
          rw [List.contains_iff_mem.2 hmem] at this
          cases this
        show a.tmps.getD t undef = aI.tmps.getD t undef
        rw [aI_get t ht, if_neg this]
      · show a.tmps.getD t undef = aI.tmps.getD t undef
        have h1 : ¬ t < a.tmps.size := by rw [hI.size]; exact ht
        have h2 : ¬ t < aI.tmps.size := by simp only [aI, Array.size_ofFn]; exact ht
        simp [h1, h2]
    | const c => rfl
    | global c => rfl
    | func c => rfl
  have hexec : execOp a.eval oi' = execOp aI.eval oi' := execOp_congr oi' hspec.1 hevalE
  have hwantR : Region.wanted oi' (yielded ops a.tmps) = OpC.wanted ci (es i) := by
    have h1 : Region.wanted oi' (yielded ops aI.tmps) = OpC.wanted ci eI := by rw [hcie]; exact Qjf hg hen
    rw [← hwantE, ← h1]
    unfold Region.wanted
    cases hgd : oi'.guard with
    | none => rfl
    | some jb =>
      obtain ⟨j, b⟩ := jb
      simp only [hgd, Qgp] at hg
      split at hg <;> first | (cases hg; done) | skip
      rename_i t ht
      split at hg <;> first | (cases hg; done) | skip
      rename_i htn
      injection hg with hg
      have hnb : ¬ Bad t := by
        intro hbd
        refine (QmQ (bad_free t hbd).2).2 b ?_
        rw [hcie, ← hg]
      have e1 : yielded ops aI.tmps j = yielded ops a.tmps j := by
        have s1 : a.tmps[t]? = some (a.tmps.getD t undef) := by
          have : t < a.tmps.size := by rw [hI.size]; exact htn
          simp [this]
        have s2 : aI.tmps[t]? = some (aI.tmps.getD t undef) := by
          have : t < aI.tmps.size := by simp [aI]; exact htn
          simp [this]
        simp only [yielded, ht, Option.bind_some, s1, s2]
        rw [aI_get t htn, if_neg hnb]
      simp only [e1]
  have hcd : ci.dst = oi'.dst := by rw [hcie]
  have hcin : ci.ins = ins := by rw [hcie]
  have fin : ∀ {G1 : Gh} {w1 : World} {val : Value}, Rel B G1 (hs (i + 1)) w1 → Evo B (G.below (hs i).length) (hs i) w G1 (hs (i + 1)) w1 → Rv B G1 w1 (vs i) val → K (a.put oi'.dst val) w1 := by
    intro G1 w1 val h1 h2 h3
    have := hI.next hi hci hnD hx hlN hdist (by rw [hcd]; exact hdst) h1 h2 h3
    rw [hcd] at this
    exact hK _ _ _ this (hb.evo hrel h2)
  unfold wpOp
  simp only [hoi]
  rcases (hrun i ci hci).2 with ⟨hwn, hv, hh⟩ | ⟨hwn, hst, _⟩ | ⟨hwn, f, args, hst, hf, _, hg'⟩
  · rw [hwantR, hwn, if_neg (by simp)]
    refine fin (G1 := G.below (hs i).length) ?_ ?_ ?_
    · rw [hh]; exact hrel
    · rw [hh]; exact .refl hrel.wf
    · rw [hv]; exact QdB
  · rw [hwantR, hwn, if_pos rfl]
    have hst' : Qg ins eI (hs i) = some (vs i, hs (i + 1)) := by rw [← hcin, ← QIg hagree]; exact hst
    obtain ⟨nx, w', G', val, hr, hnx, hv, hrel', hevo'⟩ := Qt5 (a := aI) hins hst' hen hrel
    refine .inl ?_
    unfold Oper.wp
    rw [hexec, hr]
    rcases hnx with rfl | ⟨rfl, rfl⟩
    · exact fin hrel' hevo' hv
    · exact fin hrel' hevo' hv
  · rw [hwantR, hwn, if_pos rfl]
    have hst' : QH ins eI = some (f, args) := by rw [← hcin, ← QwU hagree]; exact hst
    obtain ⟨us, hr, hvs⟩ := Qrg (a := aI) hins hst' hf hen
    refine .inl ?_
    unfold Oper.wp
    rw [hexec, hr]
    refine (hg' B _ w us hrel hb hvs).mono fun en w' hpost => ?_
    obtain ⟨G', val, rfl, hv, hrel', hevo'⟩ := hpost
    exact fin hrel' hevo' hv
theorem Qrt {p q : Nat → Bool} : ∀ {xs : List Nat} {i : Nat}, (∀ j, q j = true → p j = true) → i ∈ xs → p i = true → q i = false → xs.countP q < xs.countP p
  | [], i, _, hi, _, _ => by simp at hi
  | x :: xs, i, hqp, hi, h1, h2 => by
    have mono : xs.countP q ≤ xs.countP p := List.countP_mono_left fun j _ hj => hqp j hj
    simp only [List.countP_cons]
    rcases List.mem_cons.1 hi with rfl | hi
    · rw [h1, h2]; simp; omega
    · have := Qrt (xs := xs) hqp hi h1 h2
      by_cases hq : q x = true
      · rw [hq, hqp x hq]; simp; exact this
      · simp only [hq, if_false, Bool.false_eq_true]
        split <;> omega
theorem Qvy (ms : List Nat) : ∀ N, Qdr ms N ≤ N
  | 0 => Nat.le_refl _
  | j + 1 => by
    unfold Qdr
    split
    · exact Nat.le_trans (Qvy ms j) (Nat.le_succ j)
    · exact Nat.le_refl _
theorem Qtt {ms : List Nat} : ∀ {N j : Nat}, Qdr ms N ≤ j → j < N → ms.getD j 0 = 2 ^ j - 1
  | 0, j, _, h => by omega
  | N + 1, j, h1, h2 => by
    unfold Qdr at h1
    split at h1
    · rename_i hh
      by_cases hj : j = N
      · rw [hj]; exact hh
      · exact Qtt h1 (by omega)
    · omega
theorem QtS {ops : Array Oper} : ∀ {os : List Oper} {l t : List OpC}, Qbt P ops n os = some (l ++ t) → Qbt P ops n (os.drop l.length) = some t ∧ (os.drop l.length).length = t.length
  | os, [], t, hc => ⟨by simpa using hc, by simpa using (QiY hc).1.symm⟩
  | os, x :: l, t, hc => by
    obtain ⟨o', r, g, i, rfl, h1, _⟩ := Qir hc
    simpa using QtS h1
theorem QtG {ms : List Nat} {i : Nat} : ∀ {l : List Edge} {m : Nat}, (l.foldl (fun m e => if Region.binds .any e then m ||| (1 <<< e.on) ||| ms.getD e.on 0 else m) m).testBit i = true →
    m.testBit i = true ∨ ∃ e ∈ l, Region.binds .any e = true ∧ (i = e.on ∨ (ms.getD e.on 0).testBit i = true)
  | [], m, h => .inl h
  | e :: l, m, h => by
    rw [List.foldl_cons] at h
    rcases QtG h with h1 | ⟨e', h1, h2⟩
    · split at h1
      · rename_i hb
        rw [Nat.testBit_or, Nat.testBit_or, Bool.or_eq_true, Bool.or_eq_true] at h1
        rcases h1 with (h1 | h1) | h1
        · exact .inl h1
        · refine .inr ⟨e, by simp, hb, .inl ?_⟩
          rw [Nat.testBit_shiftLeft] at h1
          simp only [Bool.and_eq_true, decide_eq_true_eq] at h1
          obtain ⟨h2, h3⟩ := h1
          have h4 : i - e.on = 0 := by
            rcases Nat.eq_zero_or_pos (i - e.on) with h5 | h5
            · exact h5
            · obtain ⟨k, hk⟩ : ∃ k, i - e.on = k + 1 := ⟨i - e.on - 1, by omega⟩
              rw [hk] at h3
              simp [Nat.testBit_succ] at h3
          omega
        · exact .inr ⟨e, by simp, hb, .inr h1⟩
      · exact .inl h1
    · exact .inr ⟨e', by simp [h1], h2⟩
theorem Qt4 {ops : Array Oper} {D : Nat → Prop} (hD : ∀ k ok, D k → ops[k]? = some ok → ∀ j, waits ok j = true → D j) : ∀ {r : List Oper} {ms : List Nat}, (∀ j, r[j]? = ops[ms.length + j]?) →
    (∀ k, D k → ∀ i, (ms.getD k 0).testBit i = true → D i) → ∀ k, D k → ∀ i, ((masks r ms).getD k 0).testBit i = true → D i
  | [], ms, _, hms => hms
  | o :: r, ms, hr, hms => by
    refine Qt4 hD (r := r) (ms := ms ++ [Qh1 ms o]) (fun j => ?_) fun k hk i hi => ?_
    · have := hr (j + 1)
      simp only [List.getElem?_cons_succ] at this
      rw [this, List.length_append, List.length_singleton]
      congr 1
      omega
    · rcases Nat.lt_trichotomy k ms.length with h1 | h1 | h1
      · rw [List.getD_eq_getElem?_getD, List.getElem?_append_left h1, ← List.getD_eq_getElem?_getD] at hi
        exact hms k hk i hi
      · subst h1
        rw [List.getD_eq_getElem?_getD, List.getElem?_append_right (Nat.le_refl _)] at hi
        simp only [Nat.sub_self, List.getElem?_cons_zero, Option.getD_some, Qh1] at hi
        have ho : ops[ms.length]? = some o := by rw [← Nat.add_zero ms.length, ← hr 0]; rfl
        rcases QtG hi with h2 | ⟨e, h2, h3, h4⟩
        · simp at h2
        · have hw : D e.on := hD _ o hk ho e.on (by
            unfold waits
            rw [Array.any_eq_true']
            exact ⟨e, by simpa using h2, by simp [h3]⟩)
          rcases h4 with rfl | h4
          · exact hw
          · exact hms _ hw i h4
      · rw [List.getD_eq_getElem?_getD, List.getElem?_eq_none (by simp; omega)] at hi
        simp at hi
theorem Qsf {ops : Array Oper} {D : Nat → Prop} (hD : ∀ k ok, D k → ops[k]? = some ok → ∀ j, waits ok j = true → D j) {j i : Nat} (hj : (masks ops.toList []).getD j 0 = 2 ^ j - 1) (h1 : D j) (h2 : i < j) : D i :=
  Qt4 hD (r := ops.toList) (ms := []) (fun k => by simp) (fun k _ i hi => by simp at hi) j h1 i (by rw [hj, Nat.testBit_two_pow_sub_one]; simpa using h2)
theorem QkT {ops : Array Oper} {listed : Array Bool} {i : Nat} (hsz : listed.size = ops.size) (hi : i ∈ Region.ready .any ops listed) : i < ops.size ∧ listed.getD i true = false ∧ ∀ oi, ops[i]? = some oi → ∀ j, waits oi j = true → listed.getD j true = true ∧ j < ops.size := by
  obtain ⟨h1, oi, hoi, hall⟩ := mem_ready.1 hi
  refine ⟨(Array.getElem?_eq_some_iff.1 hoi).1, h1, fun oi' hoi' j hw => ?_⟩
  have : oi' = oi := Option.some.inj (hoi'.symm.trans hoi)
  subst this
  obtain ⟨ed, hed, hbd⟩ := Array.any_eq_true'.1 hw
  simp only [Bool.and_eq_true, beq_iff_eq] at hbd
  obtain ⟨hb1, rfl⟩ := hbd
  have h2 := hall ed hed hb1
  rw [Array.getD_eq_getD_getElem?] at h2 ⊢
  by_cases h3 : ed.on < listed.size
  · rw [Array.getElem?_eq_getElem h3] at h2 ⊢
    exact ⟨h2, by omega⟩
  · rw [Array.getElem?_eq_none (by omega)] at h2
    cases h2
theorem Qux {ms : List Nat} {i : Nat} : ∀ {l : List Edge} {m : Nat}, m.testBit i = true → (l.foldl (fun m e => if Region.binds .any e then m ||| (1 <<< e.on) ||| ms.getD e.on 0 else m) m).testBit i = true
  | [], m, h => h
  | e :: l, m, h => by
    rw [List.foldl_cons]
    refine Qux ?_
    split
    · rw [Nat.testBit_or, Nat.testBit_or, h]; rfl
    · exact h
theorem Qty {ms : List Nat} {e : Edge} : ∀ {l : List Edge} {m : Nat}, e ∈ l → Region.binds .any e = true → (l.foldl (fun m e => if Region.binds .any e then m ||| (1 <<< e.on) ||| ms.getD e.on 0 else m) m).testBit e.on = true
  | x :: l, m, he, hb => by
    rw [List.foldl_cons]
    rcases List.mem_cons.1 he with rfl | he
    · refine Qux ?_
      rw [if_pos hb, Nat.testBit_or, Nat.testBit_or, Nat.testBit_shiftLeft]
      simp
    · exact Qty he hb
theorem Qsh {ops : Array Oper} : ∀ {r : List Oper} {ms : List Nat}, (∀ j, r[j]? = ops[ms.length + j]?) →
    (∀ k ok, k < ms.length → ops[k]? = some ok → ∀ i, waits ok i = true → (ms.getD k 0).testBit i = true) → ∀ k ok, ops[k]? = some ok → ∀ i, waits ok i = true → ((masks r ms).getD k 0).testBit i = true
  | [], ms, hr, hms => fun k ok hk i hw => by
    refine hms k ok ?_ hk i hw
    rcases Nat.lt_or_ge k ms.length with h1 | h1
    · exact h1
    · have := hr (k - ms.length)
      rw [show ms.length + (k - ms.length) = k by omega, hk] at this
      simp at this
  | o :: r, ms, hr, hms => by
    refine Qsh (r := r) (ms := ms ++ [Qh1 ms o]) (fun j => ?_) fun k ok hk hok i hw => ?_
    · have := hr (j + 1)
      simp only [List.getElem?_cons_succ] at this
      rw [this, List.length_append, List.length_singleton]
      congr 1
      omega
    · rw [List.length_append, List.length_singleton] at hk
      by_cases h1 : k < ms.length
      · rw [List.getD_eq_getElem?_getD, List.getElem?_append_left h1, ← List.getD_eq_getElem?_getD]
        exact hms k ok h1 hok i hw
      · obtain rfl : k = ms.length := by omega
        rw [List.getD_eq_getElem?_getD, List.getElem?_append_right (Nat.le_refl _)]
        simp only [Nat.sub_self, List.getElem?_cons_zero, Option.getD_some, Qh1]
        have ho : ops[ms.length]? = some o := by rw [← Nat.add_zero ms.length, ← hr 0]; rfl
        obtain rfl : ok = o := Option.some.inj (hok.symm.trans ho)
        obtain ⟨ed, hed, hbd⟩ := Array.any_eq_true'.1 hw
        simp only [Bool.and_eq_true, beq_iff_eq] at hbd
        obtain ⟨hb1, rfl⟩ := hbd
        exact Qty (by simpa using hed) hb1
theorem QGr {ops : Array Oper} {j i : Nat} (hj : (masks ops.toList []).getD j 0 = 2 ^ j - 1) {oj : Oper} (hoj : ops[j]? = some oj) (hw : waits oj i = true) : i < j := by
  have := Qsh (ops := ops) (r := ops.toList) (ms := []) (fun k => by simp) (fun k ok hk => by simp at hk) j oj hoj i hw
  rw [hj, Nat.testBit_two_pow_sub_one] at this
  simpa using this
theorem QGK {ops : Array Oper} {Q : Exit → Act → World → Prop} (hback : ∀ k ok, ops[k]? = some ok → ∀ j, waits ok j = true → j < k) : ∀ (d m fuel : Nat) (listed : Array Bool) (a : Act) (w : World), m + d = ops.size → d ≤ fuel → listed.size = ops.size → (∀ j, j < ops.size → (listed.getD j true = true ↔ j < m)) →
    (∀ j, m ≤ j → j < ops.size → (masks ops.toList []).getD j 0 = 2 ^ j - 1) → wpOps P ops Q (List.range' m d) a w → wpAny P .any ops Q fuel listed a w := by
  intro d
  induction d with
  | zero =>
    intro m fuel listed a w hm hf hsz hli hseq hq
    have hnil : Region.ready .any ops listed = [] := by
      cases hrr : Region.ready .any ops listed with
      | nil => rfl
      | cons j r =>
        exfalso
        obtain ⟨h1, h2, _⟩ := QkT hsz (i := j) (by rw [hrr]; simp)
        rw [(hli j h1).2 (by omega)] at h2
        cases h2
    have hq' : Q .normal a w := by simpa [wpOps] using hq
    cases fuel with
    | zero => exact ⟨hnil, hq'⟩
    | succ f => exact ⟨fun _ => hq', fun i hi => by rw [hnil] at hi; cases hi⟩
  | succ d ih =>
    intro m fuel listed a w hm hf hsz hli hseq hq
    obtain ⟨f, rfl⟩ : ∃ f, fuel = f + 1 := ⟨fuel - 1, by omega⟩
    have hml : m < ops.size := by omega
    have hom : ops[m]? = some ops[m] := Array.getElem?_eq_getElem hml
    have hcl : ∀ i, i ∈ Region.ready .any ops listed → i = m := by
      intro i hi
      obtain ⟨h1, h2, h3⟩ := QkT hsz hi
      have him : m ≤ i := by
        rcases Nat.lt_or_ge i m with h4 | h4
        · rw [(hli i h1).2 h4] at h2; cases h2
        · exact h4
      rcases Nat.lt_or_ge m i with h4 | h4
      · exfalso
        have := Qsf (ops := ops) (D := fun k => k < m ∨ k = i) ?_ (hseq i him h1) (.inr rfl) h4
        · omega
        · rintro k ok (hk | rfl) hok j hw
          · exact .inl (Nat.lt_trans (hback k ok hok j hw) hk)
          · exact .inl ((hli j (h3 ok hok j hw).2).1 (h3 ok hok j hw).1)
      · omega
    have hmem : m ∈ Region.ready .any ops listed := by
      refine mem_ready.2 ⟨?_, ops[m], hom, fun ed hed hbd => ?_⟩
      · cases hc : listed.getD m true with
        | false => rfl
        | true => have := (hli m hml).1 hc; omega
      · have h1 : ed.on < m := hback m _ hom ed.on (by
          unfold waits
          rw [Array.any_eq_true']
          exact ⟨ed, hed, by simp [hbd]⟩)
        have h2 := (hli ed.on (by omega)).2 h1
        rw [Array.getD_eq_getD_getElem?] at h2 ⊢
        have h3 : ed.on < listed.size := by omega
        rw [Array.getElem?_eq_getElem h3] at h2 ⊢
        exact h2
    refine ⟨fun hnil => ?_, fun i hi => ?_⟩
    · rw [hnil] at hmem; cases hmem
    · obtain rfl := hcl i hi
      rw [List.range'_succ, wpOps_cons] at hq
      refine wpOp_mono (fun a' w' hq' => ih (i + 1) f _ a' w' (by omega) (by omega) (by simpa using hsz) (fun j hj => ?_) (fun j h1 h2 => hseq j (by omega) h2) hq') hq
      by_cases hji : j = i
      · subst hji
        rw [Array.getD_eq_getD_getElem?]
        simp [show j < listed.size by omega]
      · rw [getD_set_ne true (fun hh => hji hh.symm), hli j hj]
        omega
theorem Qse {p : Nat → Bool} {N : Nat} : ∀ {M : Nat}, (∀ j, N ≤ j → j < M → p j = true) → M - N ≤ (List.range M).countP p
  | 0, _ => by simp
  | M + 1, h => by
    have ih := Qse (p := p) (N := N) (M := M) fun j h1 h2 => h j h1 (by omega)
    rw [List.range_succ, List.countP_append, List.countP_singleton]
    by_cases hN : N ≤ M
    · rw [h M hN (by omega)]
      simp only [if_true]
      omega
    · omega
theorem QCr {id : Nat} {ops : Array Oper} {l t : List OpC} {Q : Exit → Act → World → Prop} (hm : P.follows .mixedOrders = true) (hl : Qbt P ops n ops.toList = some (l ++ t)) (hok : Qjg ops l = true)
    (hcut : ∀ j, l.length ≤ j → j < ops.size → (masks ops.toList []).getD j 0 = 2 ^ j - 1) (hd : DGood P w0 l e h e' h')
    (hr : Rel B G h w) (hb : Base w0 B w) (he : Qv B G w n e a.tmps) (hp : Post B G h w a.defers n e' h' (wpOps P ops Q (List.range' l.length (ops.size - l.length)))) : (Code.region id ops true).wp P Q a w := by
  obtain ⟨es, hs, vs, hes0, hhs0, hesN, hhsN, hrun⟩ := Qrm hd
  obtain ⟨hlen, hat⟩ := QiY hl
  obtain ⟨N, hlN⟩ : ∃ N, l.length = N := ⟨_, rfl⟩
  have hNs : N ≤ ops.size := by
    have := hlen
    simp only [List.length_append, Array.length_toList] at this; omega
  have hS : Seen P n ops l := ⟨by omega, fun j oc hj => by
    have hjl := (List.getElem?_eq_some_iff.1 hj).1
    simpa using hat j oc (by rw [List.getElem?_append_left hjl]; exact hj)⟩
  have hx : ∀ j, j < N → Ext (hs j) (hs (j + 1)) := fun j hj => (hrun j l[j] (List.getElem?_eq_getElem (by omega))).2.ext
  have hback : ∀ k ok, ops[k]? = some ok → ∀ j, waits ok j = true → j < k := by
    intro k ok hk j hw
    have hkl := (Array.getElem?_eq_some_iff.1 hk).1
    rcases Nat.lt_or_ge k N with h1 | h1
    · obtain ⟨ed, hed, hbd⟩ := Array.any_eq_true'.1 hw
      simp only [Bool.and_eq_true, beq_iff_eq] at hbd
      obtain ⟨hb1, rfl⟩ := hbd
      exact (Qii hok hk (List.getElem?_eq_getElem (show k < l.length by omega))).2.1 ed hed hb1
    · exact QGr (hcut k (by omega) hkl) hk hw
  refine wp_region_any hm ?_
  -- the start
  have hdr := hr.heap (w' := { w with drawn := w.drawn + 1 }) ⟨rfl, rfl, rfl⟩ rfl
  have hrel0 := hdr.1
  have hwf0 : Wf B G (hs 0) { w with drawn := w.drawn + 1 } := by rw [hhs0]; exact hrel0.wf
  have hext0 : Ext (hs 0) (hs N) := Qcy hx (Nat.zero_le _) (Nat.le_refl _)
  have belowG : ∀ {w' : World}, Le B G w' (G.below (hs 0).length) w' := fun {w'} =>
    ⟨fun i p e1 => QB.2 ⟨(hwf0.blk i p e1).2.2.2, e1⟩, fun i t e1 => ⟨t, QR.2 ⟨(hwf0.tip i t e1).2.2.2, e1⟩, Nat.le_refl _, fun _ => rfl⟩, fun _ _ hsn => ⟨hsn, rfl⟩⟩
  have hw1 : Rv B G w = Rv B G w := rfl
  have hI0 : Inv P B n N l hs vs e G w a.defers (fun _ => False) a { w with drawn := w.drawn + 1 } G := by
    refine ⟨⟨hwf0.base, fun i p ep => ?_, fun i t et => ?_, hwf0.lim, fun x y p q ex ey hpq ax ay => ?_, hwf0.tinj, fun i t et => ?_⟩, ?_, ?_, ?_, ?_, he.1, ?_, ?_, ?_, rfl⟩
    · obtain ⟨c1, c2, c3, c4⟩ := hwf0.blk i p ep
      exact ⟨c1, c2, c3, Nat.lt_of_lt_of_le c4 hext0.len⟩
    · obtain ⟨c1, c2, c3, c4⟩ := hwf0.tip i t et
      exact ⟨c1, c2, c3, Nat.lt_of_lt_of_le c4 hext0.len⟩
    · exact hwf0.inj x y p q ex ey hpq ((hext0.alive (hwf0.blk x p ex).2.2.2).1 ax) ((hext0.alive (hwf0.blk y q ey).2.2.2).1 ay)
    · rw [hext0 i (hwf0.tip i t et).2.2.2]; exact hwf0.tipo i t et
    · exact {
        le := hdr.2.le, os := rfl, tape := rfl, output := rfl, size := Nat.le_refl _, len := hext0.len
        frame := fun _ _ _ => rfl
        fresh := fun _ _ m => m
        limk := fun _ _ _ => rfl
        nores := fun x hxl ha => (hext0.alive hxl).1 ha
        oldb := fun _ _ _ e1 => e1
        oldt := fun _ t _ e1 => ⟨t, e1, .inl rfl⟩
        newb := fun x p hxl e1 => absurd (hwf0.blk x p e1).2.2.2 (by omega)
        newt := fun x t hxl e1 => absurd (hwf0.tip x t e1).2.2.2 (by omega) }
    · rintro i b (⟨k, e1⟩ | ⟨t, e1, _⟩)
      · exact .inl (hwf0.blk i _ e1).2.2.2
      · exact .inl (hwf0.tip i t e1).2.2.2
    · intro i o hi ho
      rw [hext0 i hi, hhs0] at ho
      exact (hrel0.obj i o ho).mono belowG (fun _ p ep => ⟨(QB.1 ep).2, rfl⟩) (fun _ t et => ⟨(QR.1 et).2, rfl⟩)
    · intro i o ob _ hD; exact hD.elim
    · intro i oc d _ hD; exact hD.elim
    · intro t ht _
      exact ((he.2 t ht).mono hdr.2.le).mono belowG
    · intro i i' b m hm' ha ha'
      have lt0 : ∀ i, At G i b → i < (hs 0).length := by
        rintro i (⟨k, e1⟩ | ⟨t, e1, _⟩)
        · exact (hwf0.blk i _ e1).2.2.2
        · exact (hwf0.tip i t e1).2.2.2
      have h0m := (Qcy hx (Nat.zero_le m) hm').len
      exact ⟨fun _ => Nat.lt_of_lt_of_le (lt0 i' ha') h0m, fun _ => Nat.lt_of_lt_of_le (lt0 i ha) h0m⟩
  -- all orders
  have key : ∀ (fuel : Nat) (listed : Array Bool) (a1 : Act) (w1 : World) (G1 : Gh), listed.size = ops.size → (List.range ops.size).countP (fun j => !listed.getD j true) ≤ fuel →
      (∀ j, j < ops.size → listed.getD j true = true → j < N) →
      (∀ k ok, listed.getD k true = true ∧ k < N → ops[k]? = some ok → ∀ j, waits ok j = true → listed.getD j true = true ∧ j < N) →
      Inv P B n N l hs vs e G w a.defers (fun j => listed.getD j true = true ∧ j < N) a1 w1 G1 → Base w0 B w1 → wpAny P .any ops Q fuel listed a1 w1 := by
    have done : ∀ (listed : Array Bool) (a1 : Act) (w1 : World) (G1 : Gh), (∀ j, j < N → listed.getD j true = true) →
        Inv P B n N l hs vs e G w a.defers (fun j => listed.getD j true = true ∧ j < N) a1 w1 G1 → wpOps P ops Q (List.range' l.length (ops.size - l.length)) a1 w1 := by
      intro listed a1 w1 G1 hall hI
      refine hp G1 a1 w1 ?_ ?_ ?_ hI.defers
      · rw [← hhsN, hlN]
        refine ⟨hI.wf, fun i o ho => ?_⟩
        have up : ∀ m, QaE B (G1.below m) w1 i o → i < m → QaE B G1 w1 i o := fun m h1 him =>
          h1.mono ⟨fun j p e1 => (QB.1 e1).2, fun j t e1 => ⟨t, (QR.1 e1).2, Nat.le_refl _, fun _ => rfl⟩, fun _ _ hsn => ⟨hsn, rfl⟩⟩ (fun _ p ep => ⟨QB.2 ⟨him, ep⟩, rfl⟩) (fun _ t et => ⟨QR.2 ⟨him, et⟩, rfl⟩)
        have hiN : i < (hs N).length := (List.getElem?_eq_some_iff.1 ho).1
        rcases Nat.lt_or_ge i (hs 0).length with h0 | h0
        · exact up _ (hI.old i o h0 ho) h0
        · obtain ⟨k, hk, h1, h2⟩ : ∃ k, k < N ∧ (hs k).length ≤ i ∧ i < (hs (k + 1)).length := by
            have find : ∀ m, m ≤ N → i < (hs m).length → ∃ k, k < m ∧ (hs k).length ≤ i ∧ i < (hs (k + 1)).length := by
              intro m
              induction m with
              | zero => intro _ h3; omega
              | succ m ih =>
                intro hm' h3
                rcases Nat.lt_or_ge i (hs m).length with h4 | h4
                · obtain ⟨k, hk, h5⟩ := ih (by omega) h4
                  exact ⟨k, by omega, h5⟩
                · exact ⟨m, by omega, h4, h3⟩
            exact find N (Nat.le_refl _) hiN
          exact up _ (hI.new k i o hk ⟨hall k hk, hk⟩ h1 h2 ho) h2
      · have := hI.evo
        rw [hhs0] at this
        rw [← hhsN, hlN]
        exact this
      · refine ⟨hI.size, fun t ht => ?_⟩
        have up : ∀ {m x u}, Rv B (G1.below m) w1 x u → Rv B G1 w1 x u := fun h1 =>
          h1.mono ⟨fun j p e1 => (QB.1 e1).2, fun j t e1 => ⟨t, (QR.1 e1).2, Nat.le_refl _, fun _ => rfl⟩, fun _ _ hsn => ⟨hsn, rfl⟩⟩
        have hes : ∀ m, m ≤ N → ((∃ k ok, k < m ∧ l[k]? = some ok ∧ ok.dst = some t ∧ es m t = vs k) ∨ (es m t = e t ∧ ∀ k ok, k < m → l[k]? = some ok → ok.dst ≠ some t)) := by
          intro m
          induction m with
          | zero => intro _; exact .inr ⟨by rw [hes0], fun k ok hk => by omega⟩
          | succ m ih =>
            intro hm'
            have hlm : l[m]? = some l[m] := List.getElem?_eq_getElem (by omega)
            rw [(hrun m _ hlm).1]
            by_cases hdm : l[m].dst = some t
            · exact .inl ⟨m, l[m], by omega, hlm, hdm, by rw [hdm]; simp [put, upd]⟩
            · have e1 : put (es m) l[m].dst (vs m) t = es m t := by
                cases hdd : l[m].dst with
                | none => rfl
                | some d => simp only [put, upd]; rw [if_neg (fun hh => hdm (by rw [hdd, hh]))]
              rw [e1]
              rcases ih (by omega) with ⟨k, ok, hk, h1, h2, h3⟩ | ⟨h1, h2⟩
              · exact .inl ⟨k, ok, by omega, h1, h2, h3⟩
              · refine .inr ⟨h1, fun k ok hk hlk => ?_⟩
                by_cases hkm : k = m
                · subst hkm
                  have : ok = l[k] := Option.some.inj (hlk.symm.trans hlm)
                  rw [this]; exact hdm
                · exact h2 k ok (by omega) hlk
        rw [← hesN, hlN]
        rcases hes N (Nat.le_refl _) with ⟨k, ok, hk, h1, h2, h3⟩ | ⟨h1, h2⟩
        · rw [h3]; exact up (hI.val k ok t h1 ⟨hall k hk, hk⟩ h2 ht)
        · rw [h1]
          refine up (hI.keep t ht fun k ok hlk hD => h2 k ok (by have := (List.getElem?_eq_some_iff.1 hlk).1; omega) hlk)
    have whole : ∀ (fuel : Nat) (listed : Array Bool) (a1 : Act) (w1 : World) (G1 : Gh), listed.size = ops.size → (List.range ops.size).countP (fun j => !listed.getD j true) ≤ fuel →
        (∀ j, j < ops.size → listed.getD j true = true → j < N) → (∀ j, j < N → listed.getD j true = true) →
        Inv P B n N l hs vs e G w a.defers (fun j => listed.getD j true = true ∧ j < N) a1 w1 G1 → wpAny P .any ops Q fuel listed a1 w1 := by
      intro fuel listed a1 w1 G1 hsz hcnt hpre hall hI
      have hd := done listed a1 w1 G1 hall hI
      rw [hlN] at hd
      refine QGK hback (ops.size - N) N fuel listed a1 w1 (by omega) ?_ hsz (fun j hj => ⟨hpre j hj, hall j⟩) (fun j h1 h2 => hcut j (by omega) h2) hd
      refine Nat.le_trans (Nat.le_trans (Nat.le_of_eq ?_) (Qse (p := fun j => !listed.getD j true) (N := N) (M := ops.size) fun j h1 h2 => ?_)) hcnt
      · rfl
      · cases hc : listed.getD j true with
        | false => rfl
        | true => have := hpre j h2 hc; omega
    intro fuel
    induction fuel with
    | zero =>
      intro listed a1 w1 G1 hsz hcnt hpre hcl hI hb1
      refine whole 0 listed a1 w1 G1 hsz hcnt hpre (fun j hj => ?_) hI
      cases hc : listed.getD j true with
      | true => rfl
      | false =>
        have : 0 < (List.range ops.size).countP (fun j => !listed.getD j true) := List.countP_pos_iff.2 ⟨j, List.mem_range.2 (by omega), by rw [hc]; rfl⟩
        omega
    | succ fuel ih =>
      intro listed a1 w1 G1 hsz hcnt hpre hcl hI hb1
      by_cases hall : ∀ j, j < N → listed.getD j true = true
      · exact whole _ listed a1 w1 G1 hsz hcnt hpre hall hI
      -- the first that has not been run
      obtain ⟨j0, hj0, hl0, hbelow⟩ : ∃ j0, j0 < N ∧ listed.getD j0 true = false ∧ ∀ j, j < j0 → listed.getD j true = true := by
        have find : ∀ m, (∃ j, j < m ∧ listed.getD j true = false) → ∃ j0, j0 < m ∧ listed.getD j0 true = false ∧ ∀ j, j < j0 → listed.getD j true = true := by
          intro m
          induction m with
          | zero => rintro ⟨j, hj, _⟩; omega
          | succ m ihm =>
            rintro ⟨j, hj, hlj⟩
            by_cases hex : ∃ j, j < m ∧ listed.getD j true = false
            · obtain ⟨j0, h1, h2, h3⟩ := ihm hex
              exact ⟨j0, by omega, h2, h3⟩
            · refine ⟨m, by omega, ?_, fun k hk => ?_⟩
              · have : j = m := Classical.byContradiction fun hne => hex ⟨j, by omega, hlj⟩
                rw [← this]; exact hlj
              · cases hc : listed.getD k true with
                | true => rfl
                | false => exact absurd ⟨k, hk, hc⟩ hex
        refine find N (Classical.byContradiction fun hno => hall fun j hj => ?_)
        cases hc : listed.getD j true with
        | true => rfl
        | false => exact absurd ⟨j, hj, hc⟩ hno
      refine ⟨fun hrd => ?_, fun i hi => ?_⟩
      · exfalso
        have hoj : ops[j0]? = some ops[j0] := Array.getElem?_eq_getElem (by omega)
        have hmem : j0 ∈ Region.ready .any ops listed := by
          refine mem_ready.2 ⟨hl0, ops[j0], hoj, fun ed hed hbd => ?_⟩
          have hlt := hback j0 _ hoj ed.on (by
            unfold waits
            rw [Array.any_eq_true']
            exact ⟨ed, hed, by simp [hbd]⟩)
          have h1 := hbelow ed.on hlt
          rw [Array.getD_eq_getD_getElem?] at h1 ⊢
          have h2 : ed.on < listed.size := by omega
          rw [Array.getElem?_eq_getElem h2] at h1 ⊢
          exact h1
        rw [hrd] at hmem
        cases hmem
      obtain ⟨hil, h1, hready0⟩ := QkT hsz hi
      have hiN : i < N := by
        rcases Nat.lt_or_ge i N with h2 | h2
        · exact h2
        · exfalso
          have := Qsf (ops := ops) (D := fun k => (listed.getD k true = true ∧ k < N) ∨ k = i) ?_ (hcut i (by omega) hil) (.inr rfl) (show j0 < i by omega)
          · rcases this with ⟨h3, _⟩ | h3
            · rw [hl0] at h3; cases h3
            · omega
          · rintro k ok (hk | rfl) hok j hw
            · exact .inl (hcl k ok hk hok j hw)
            · have := hready0 ok hok j hw
              exact .inl ⟨this.1, hpre j this.2 this.1⟩
      have hoi : ops[i]? = some ops[i] := Array.getElem?_eq_getElem hil
      generalize ops[i] = oi at hoi
      have hci : l[i]? = some l[i] := List.getElem?_eq_getElem (by omega)
      have hready : ∀ j, waits oi j = true → listed.getD j true = true ∧ j < N := fun j hw => by
        have := hready0 oi hoi j hw
        exact ⟨this.1, hpre j this.2 this.1⟩
      have set_get : ∀ j, (listed.setIfInBounds i true).getD j true = true ↔ (listed.getD j true = true ∨ j = i) := by
        intro j
        by_cases hji : j = i
        · subst hji
          have : (listed.setIfInBounds j true).getD j true = true := by
            rw [Array.getD_eq_getD_getElem?]
            have : j < listed.size := by omega
            simp [this]
          simp [this]
        · rw [getD_set_ne true (fun hh => hji hh.symm)]
          simp [hji]
      refine QHC hS hlN hok hes0 hrun hI (fun k ok hD hok' j hw => hcl k ok hD hok' j hw) hiN (fun hD => by rw [h1] at hD; cases hD.1) hoi hci hready hb1 (K := wpAny P .any ops Q fuel (listed.setIfInBounds i true)) fun a2 w2 G2 hI2 hb2 => ?_
      refine ih (listed.setIfInBounds i true) a2 w2 G2 (by simpa using hsz) ?_ ?_ ?_ ?_ hb2
      · have := Qrt (p := fun j => !listed.getD j true) (q := fun j => !(listed.setIfInBounds i true).getD j true) (xs := List.range ops.size) (i := i) (fun j hj => by
          simp only [Bool.not_eq_true'] at hj ⊢
          cases h3 : listed.getD j true with
          | false => rfl
          | true => rw [(set_get j).2 (.inl h3)] at hj; cases hj) (List.mem_range.2 hil) (by rw [h1]; rfl) (by rw [(set_get i).2 (.inr rfl)]; rfl)
        omega
      · intro j hj hlj
        rcases (set_get j).1 hlj with h3 | rfl
        · exact hpre j hj h3
        · exact hiN
      · rintro k ok ⟨hk1, hk2⟩ hok' j hw
        rcases (set_get k).1 hk1 with h3 | rfl
        · obtain ⟨h4, h5⟩ := hcl k ok ⟨h3, hk2⟩ hok' j hw
          exact ⟨(set_get j).2 (.inl h4), h5⟩
        · have : ok = oi := Option.some.inj (hok'.symm.trans hoi)
          subst this
          obtain ⟨h4, h5⟩ := hready j hw
          exact ⟨(set_get j).2 (.inl h4), h5⟩
      · have e1 : (fun j => (listed.setIfInBounds i true).getD j true = true ∧ j < N) = (fun j => (listed.getD j true = true ∧ j < N) ∨ j = i) := by
          funext j
          rw [set_get j]
          refine propext ⟨fun ⟨h2, h3⟩ => h2.imp (fun h4 => ⟨h4, h3⟩) (fun h4 => h4), fun h2 => ?_⟩
          rcases h2 with ⟨h3, h4⟩ | rfl
          · exact ⟨.inl h3, h4⟩
          · exact ⟨.inr rfl, hiN⟩
        rw [e1]; exact hI2
  refine key ops.size (Array.replicate ops.size false) a { w with drawn := w.drawn + 1 } G (by simp) ?_ ?_ ?_ ?_ (hb.evo hr hdr.2)
  · refine Nat.le_trans List.countP_le_length ?_
    simp
  · intro j hj h1
    rw [Array.getD_eq_getD_getElem?] at h1
    simp [hj] at h1
  · rintro k ok ⟨h1, h2⟩
    have h3 : k < ops.size := by omega
    rw [Array.getD_eq_getD_getElem?] at h1
    simp [h3] at h1
  · have e1 : (fun j => (Array.replicate ops.size false).getD j true = true ∧ j < N) = (fun _ => False) := by
      funext j
      refine propext ⟨fun ⟨h1, h2⟩ => ?_, False.elim⟩
      have h3 : j < ops.size := by omega
      rw [Array.getD_eq_getD_getElem?] at h1
      simp [h3] at h1
    rw [e1]; exact hI0
end
end Go.Vm
end
section
namespace Go.Vm
set_option linter.unusedVariables false
set_option linter.unusedSimpArgs false
section
variable {P : Program} {w0 : World}
theorem QGi {f : FuncId} {fc : FnC} (hc : Qh P f = some fc) :
    ∃ fn c, P.funcs[f]? = some fn ∧ fn.body = some c ∧ QcG P f = true ∧ fc.ntmps = fn.ntmps ∧ QfI P fn.ntmps fn.results.toList = some fc.results ∧ Qay P fn.ntmps c = some fc.body := by
  unfold Qh at hc
  split at hc <;> first | (cases hc; done) | skip
  rename_i fn hfn
  split at hc <;> first | (cases hc; done) | skip
  rename_i hname
  split at hc <;> first | (cases hc; done) | skip
  rename_i c hb
  split at hc <;> first | (cases hc; done) | skip
  rename_i rs b e1 e2
  injection hc with hc; subst hc
  refine ⟨fn, c, hfn, hb, ?_, rfl, e1, e2⟩
  unfold QcG
  simp only [hfn, hb, Option.isSome_some, Bool.true_and]
  simpa using hname
theorem sound {F : FuncId → Option FnC} {L : FuncId → List V → V → Prop} (hm : P.follows .mixedOrders = true) (hF : ∀ f fn, F f = some fn → Qh P f = some fn)
    (hL : ∀ f args v, L f args v → QcG P f = true ∧ ∀ h, Qfx P w0 f args h v h) : ∀ {t : Task}, Ev F L t → Good P w0 t := by
  intro t ht
  induction ht with
  | opsNil e h =>
    intro n B G w a ops os k Q hc hj hr hb he hp
    exact hp G a w hr (.refl hr.wf) he rfl
  | opsSkip hw _ ih =>
    intro n B G w a ops os k Q hc hj hr hb he hp
    obtain ⟨o, r, g, i, rfl, h1, h2, h3, h4, rfl⟩ := Qir hc
    have hk : ops[k]? = some o := by rw [← Nat.add_zero k, ← hj 0]; rfl
    rw [List.length_cons, QoK hk, Qjf h2 he, hw]
    exact ih n B G w _ ops r (k + 1) Q h1 (fun j => by rw [Nat.add_assoc, Nat.add_comm 1 j, ← hj (j + 1)]; rfl) hr hb (Qm1 (ds := a.defers) he h4 QdB) (by rw [Qis]; exact hp)
  | opsIns hw hs _ ih =>
    intro n B G w a ops os k Q hc hj hr hb he hp
    obtain ⟨o, r, g, i, rfl, h1, h2, h3, h4, rfl⟩ := Qir hc
    have hk : ops[k]? = some o := by rw [← Nat.add_zero k, ← hj 0]; rfl
    rw [List.length_cons, QoK hk, Qjf h2 he, hw]
    refine .inl (QBO h3 h4 hs he hr fun G' a' w' hr' hev hen hd => ?_)
    exact ih n B G' w' a' ops r (k + 1) Q h1 (fun j => by rw [Nat.add_assoc, Nat.add_comm 1 j, ← hj (j + 1)]; rfl) hr' (hb.evo hr hev) hen (hp.evo hev hd)
  | opsCall hw hs _ _ ihc ih =>
    intro n B G w a ops os k Q hc hj hr hb he hp
    obtain ⟨o, r, g, i, rfl, h1, h2, h3, h4, rfl⟩ := Qir hc
    have hk : ops[k]? = some o := by rw [← Nat.add_zero k, ← hj 0]; rfl
    rw [List.length_cons, QoK hk, Qjf h2 he, hw]
    refine .inl (QyZ h3 h4 hs ihc.1 ihc.2 he hr hb fun G' a' w' hr' hev hen hd => ?_)
    exact ih n B G' w' a' ops r (k + 1) Q h1 (fun j => by rw [Nat.add_assoc, Nat.add_comm 1 j, ← hj (j + 1)]; rfl) hr' (hb.evo hr hev) hen (hp.evo hev hd)
  | dopsNil e h => exact ⟨rfl, rfl⟩
  | dopsSkip hw _ ih => exact .inl ⟨hw, ih⟩
  | dopsIns hw hs hx _ ih => exact .inr (.inl ⟨hw, _, _, hs, hx, ih⟩)
  | dopsCall hw hs hx _ _ ihc ih => exact .inr (.inr ⟨hw, _, _, _, _, hs, ihc.1, hx, ihc.2, ih⟩)
  | skip e h =>
    intro n B G w a hr hb he
    refine ⟨fun code Q hc hp => ?_, fun cb code Q hc => by cases hc⟩
    have hq := hp G a w hr (.refl hr.wf) he rfl
    cases code <;> simp only [Qay] at hc <;> first | (cases hc; done) | skip
    · exact wp_skip hq
    · split at hc <;> first | (cases hc; done) | skip
      split at hc <;> first | (cases hc; done) | skip
      split at hc <;> first | (cases hc; done) | skip
    · split at hc <;> cases hc
    · split at hc <;> cases hc
    · obtain ⟨_, _, hh⟩ := map_some hc; cases hh
    · obtain ⟨_, _, hh⟩ := map_some hc; cases hh
    · exact wp_label hq
  | region _ ih =>
    intro n B G w a hr hb he
    refine ⟨fun code Q hc hp => ?_, fun cb code Q hc => by cases hc⟩
    cases code <;> simp only [Qay] at hc <;> first | (cases hc; done) | skip
    · rename_i id ops draw
      split at hc <;> first | (cases hc; done) | skip
      rename_i l hl
      cases draw with
      | true =>
        simp only [if_true] at hc
        split at hc <;> cases hc
      | false =>
        simp only [Bool.false_eq_true, if_false] at hc
        injection hc with hc
        injection hc with hc; subst hc
        refine wp_region ?_
        have hll : ∀ {os : List Oper} {l : List OpC}, Qbt P ops n os = some l → l.length = os.length := by
          intro os
          induction os with
          | nil => intro l hl; simp [Qbt] at hl; subst hl; rfl
          | cons o r ih =>
            intro l hl
            simp only [Qbt] at hl
            split at hl <;> first | (cases hl; done) | skip
            rename_i x xs e1 e2
            injection hl with hl; subst hl
            simp [ih e2]
        have hlen := hll hl
        have := ih n B G w a ops ops.toList 0 Q hl (fun j => by simp) hr hb he hp
        rw [hlen, Array.length_toList] at this
        rw [List.range_eq_range']
        exact this
    · split at hc <;> cases hc
    · split at hc <;> cases hc
    · obtain ⟨_, _, hh⟩ := map_some hc; cases hh
    · obtain ⟨_, _, hh⟩ := map_some hc; cases hh
  | @dregion l0 t0 e0 h0 e1 h1 e0' h0' _ _ ih ih2 =>
    intro n B G w a hr hb he
    refine ⟨fun code Q hc hp => ?_, fun cb code Q hc => by cases hc⟩
    cases code <;> simp only [Qay] at hc <;> first | (cases hc; done) | skip
    · rename_i id ops draw
      split at hc <;> first | (cases hc; done) | skip
      rename_i l hl
      cases draw with
      | false => simp at hc
      | true =>
        simp only [if_true] at hc
        split at hc <;> first | (cases hc; done) | skip
        rename_i hok
        injection hc with hc
        injection hc with h1 h2
        have hcl := Qvy (masks ops.toList []) ops.size
        have hlen := (QiY hl).1
        have hll : (l.take (Qdr (masks ops.toList []) ops.size)).length = Qdr (masks ops.toList []) ops.size := by
          rw [List.length_take, hlen, Array.length_toList]; omega
        rw [← List.take_append_drop (Qdr (masks ops.toList []) ops.size) l] at hl
        have hcut : ∀ j, (l.take (Qdr (masks ops.toList []) ops.size)).length ≤ j → j < ops.size → (masks ops.toList []).getD j 0 = 2 ^ j - 1 := by
          rw [hll]; exact fun j h1 h2 => Qtt h1 h2
        rw [h1] at hl hok hcut
        rw [h2] at hl
        refine QCr hm hl hok hcut ih hr hb he fun G' a' w' hr' hev hen hd => ?_
        obtain ⟨h3, h4⟩ := QtS hl
        have := ih2 n B G' w' a' ops (ops.toList.drop l0.length) l0.length Q h3 (fun j => by rw [List.getElem?_drop, Array.getElem?_toList]) hr' (hb.evo hr hev) hen (hp.evo hev hd)
        rw [← h4, List.length_drop, Array.length_toList] at this
        exact this
    · split at hc <;> cases hc
    · split at hc <;> cases hc
    · obtain ⟨_, _, hh⟩ := map_some hc; cases hh
    · obtain ⟨_, _, hh⟩ := map_some hc; cases hh
  | seqN _ _ iha ihb =>
    intro n B G w a hr hb he
    refine ⟨fun code Q hc hp => ?_, fun cb code Q hc => by cases hc⟩
    cases code <;> simp only [Qay] at hc <;> first | (cases hc; done) | skip
    · split at hc <;> first | (cases hc; done) | skip
      split at hc <;> first | (cases hc; done) | skip
      split at hc <;> first | (cases hc; done) | skip
    · rename_i x y
      split at hc <;> first | (cases hc; done) | skip
      rename_i c1 c2 e1 e2
      injection hc with hc
      injection hc with h1 h2; subst h1; subst h2
      refine wp_seq ((iha n B G w a hr hb he).1 x _ e1 fun G' a' w' hr' hev hen hd => ?_)
      exact (ihb n B G' w' a' hr' (hb.evo hr hev) hen).1 y Q e2 (hp.evo hev hd)
    · split at hc <;> cases hc
    · obtain ⟨_, _, hh⟩ := map_some hc; cases hh
    · obtain ⟨_, _, hh⟩ := map_some hc; cases hh
  | @seqX a0 b0 e0 h0 x0 e0' h0' _ hx iha =>
    intro n B G w a hr hb he
    refine ⟨fun code Q hc hp => ?_, fun cb code Q hc => by cases hc⟩
    cases code <;> simp only [Qay] at hc <;> first | (cases hc; done) | skip
    · split at hc <;> first | (cases hc; done) | skip
      split at hc <;> first | (cases hc; done) | skip
      split at hc <;> first | (cases hc; done) | skip
    · rename_i x y
      split at hc <;> first | (cases hc; done) | skip
      rename_i c1 c2 e1 e2
      injection hc with hc
      injection hc with h1 h2; subst h1; subst h2
      refine wp_seq ((iha n B G w a hr hb he).1 x _ e1 fun G' a' w' hr' hev hen hd => ?_)
      have := hp G' a' w' hr' hev hen hd
      cases x0 with
      | norm => exact absurd rfl hx
      | exit id => exact this
      | ret => exact this
    · split at hc <;> cases hc
    · obtain ⟨_, _, hh⟩ := map_some hc; cases hh
    · obtain ⟨_, _, hh⟩ := map_some hc; cases hh
  | @cond g0 a0 b0 e0 h0 t0 x0 e0' h0' hg _ ih =>
    intro n B G w a hr hb he
    refine ⟨fun code Q hc hp => ?_, fun cb code Q hc => by cases hc⟩
    cases code <;> simp only [Qay] at hc <;> first | (cases hc; done) | skip
    · split at hc <;> first | (cases hc; done) | skip
      split at hc <;> first | (cases hc; done) | skip
      split at hc <;> first | (cases hc; done) | skip
    · split at hc <;> cases hc
    · rename_i cc x y
      split at hc <;> first | (cases hc; done) | skip
      rename_i gc c1 c2 e0 e1 e2
      injection hc with hc
      injection hc with h0 h1 h2; subst h0; subst h1; subst h2
      have r := QS he e0
      rw [hg] at r
      have hev : a.eval cc = .bool t0 := by
        generalize a.eval cc = q at r
        cases r; rfl
      refine wp_cond hev ?_
      cases t0
      · exact (ih n B G w a hr hb he).1 y Q e2 hp
      · exact (ih n B G w a hr hb he).1 x Q e1 hp
    · obtain ⟨_, _, hh⟩ := map_some hc; cases hh
    · obtain ⟨_, _, hh⟩ := map_some hc; cases hh
  | @block id0 c0 e0 h0 x0 e0' h0' _ ih =>
    intro n B G w a hr hb he
    refine ⟨fun code Q hc hp => ?_, fun cb code Q hc => by cases hc⟩
    cases code <;> simp only [Qay] at hc <;> first | (cases hc; done) | skip
    · split at hc <;> first | (cases hc; done) | skip
      split at hc <;> first | (cases hc; done) | skip
      split at hc <;> first | (cases hc; done) | skip
    · split at hc <;> cases hc
    · split at hc <;> cases hc
    · rename_i id x
      obtain ⟨c1, e1, hh⟩ := map_some hc
      injection hh with h1 h2; subst h1; subst h2
      refine wp_block ((ih n B G w a hr hb he).1 x _ e1 fun G' a' w' hr' hev hen hd => ?_)
      have := hp G' a' w' hr' hev hen hd
      cases x0 with
      | norm => exact this
      | ret => exact this
      | exit j =>
        simp only [X.out, X.real, Exit.inBlock] at this ⊢
        split <;> rename_i hj
        · rw [if_pos hj] at this; exact this
        · rw [if_neg hj] at this; exact this
    · obtain ⟨_, _, hh⟩ := map_some hc; cases hh
  | @loopN c0 e0 h0 e1 h1 x0 e0' h0' _ _ ihb ihn =>
    intro n B G w a hr hb he
    have main : ∀ cb code Q, C.loop c0 = .loop cb → Qay P n code = some cb → Post B G h0 w a.defers n e0' h0' (Q x0.real) → Qhg P code Q a w := by
      rintro cb code Q hcb hc hp
      injection hcb with hcb; subst hcb
      refine Qti ((ihb n B G w a hr hb he).1 code _ hc fun G' a' w' hr' hev hen hd => ?_)
      exact (ihn n B G' w' a' hr' (hb.evo hr hev) hen).2 _ code Q rfl hc (hp.evo hev hd)
    refine ⟨fun code Q hc hp => ?_, main⟩
    cases code <;> simp only [Qay] at hc <;> first | (cases hc; done) | skip
    · split at hc <;> first | (cases hc; done) | skip
      split at hc <;> first | (cases hc; done) | skip
      split at hc <;> first | (cases hc; done) | skip
    · split at hc <;> cases hc
    · split at hc <;> cases hc
    · obtain ⟨_, _, hh⟩ := map_some hc; cases hh
    · rename_i x
      obtain ⟨c1, e1, hh⟩ := map_some hc
      injection hh with h1; subst h1
      exact QvN (main _ x Q rfl e1 hp)
  | @loopX c0 e0 h0 x0 e0' h0' _ hx ihb =>
    intro n B G w a hr hb he
    have main : ∀ cb code Q, C.loop c0 = .loop cb → Qay P n code = some cb → Post B G h0 w a.defers n e0' h0' (Q x0.real) → Qhg P code Q a w := by
      rintro cb code Q hcb hc hp
      injection hcb with hcb; subst hcb
      refine Qti ((ihb n B G w a hr hb he).1 code _ hc fun G' a' w' hr' hev hen hd => ?_)
      have := hp G' a' w' hr' hev hen hd
      cases x0 with
      | norm => exact absurd rfl hx
      | exit id => exact this
      | ret => exact this
    refine ⟨fun code Q hc hp => ?_, main⟩
    cases code <;> simp only [Qay] at hc <;> first | (cases hc; done) | skip
    · split at hc <;> first | (cases hc; done) | skip
      split at hc <;> first | (cases hc; done) | skip
      split at hc <;> first | (cases hc; done) | skip
    · split at hc <;> cases hc
    · split at hc <;> cases hc
    · obtain ⟨_, _, hh⟩ := map_some hc; cases hh
    · rename_i x
      obtain ⟨c1, e1, hh⟩ := map_some hc
      injection hh with h1; subst h1
      exact QvN (main _ x Q rfl e1 hp)
  | exit id e h =>
    intro n B G w a hr hb he
    refine ⟨fun code Q hc hp => ?_, fun cb code Q hc => by cases hc⟩
    have hq := hp G a w hr (.refl hr.wf) he rfl
    cases code <;> simp only [Qay] at hc <;> first | (cases hc; done) | skip
    · split at hc <;> first | (cases hc; done) | skip
      split at hc <;> first | (cases hc; done) | skip
      split at hc <;> first | (cases hc; done) | skip
    · split at hc <;> cases hc
    · split at hc <;> cases hc
    · obtain ⟨_, _, hh⟩ := map_some hc; cases hh
    · obtain ⟨_, _, hh⟩ := map_some hc; cases hh
    · injection hc with hc
      injection hc with hc; subst hc
      exact wp_exit hq
  | ret e h =>
    intro n B G w a hr hb he
    refine ⟨fun code Q hc hp => ?_, fun cb code Q hc => by cases hc⟩
    have hq := hp G a w hr (.refl hr.wf) he rfl
    cases code <;> simp only [Qay] at hc <;> first | (cases hc; done) | skip
    · split at hc <;> first | (cases hc; done) | skip
      split at hc <;> first | (cases hc; done) | skip
      split at hc <;> first | (cases hc; done) | skip
    · split at hc <;> cases hc
    · split at hc <;> cases hc
    · obtain ⟨_, _, hh⟩ := map_some hc; cases hh
    · obtain ⟨_, _, hh⟩ := map_some hc; cases hh
    · exact wp_ret hq
  | call hf ha _ hx hres ih =>
    obtain ⟨fn, c, h1, h2, h3, h4, h5, h6⟩ := QGi (hF _ _ hf)
    refine ⟨h3, fun B G w vs hr hb hv => ?_⟩
    refine calls_of_wp h1 h2 ?_
    have hen := Qwx (m := fn.ntmps) hv (by rw [← h4]; exact ha)
    refine (ih fn.ntmps B G w { tmps := vs.toArray ++ Array.replicate (fn.ntmps - vs.toArray.size) undef, defers := [] } hr hb hen).1 c _ h6 fun G' a' w' hr' hev hen' hd => ?_
    obtain ⟨u, hu, hru⟩ := Qy3 hen' hr' h5 hres
    rcases hx with rfl | rfl
    · exact ⟨hd, u, hu, G', u, rfl, hru, hr', hev⟩
    · exact ⟨hd, u, hu, G', u, rfl, hru, hr', hev⟩
  | lib hl => exact ⟨(hL _ _ _ hl).1, (hL _ _ _ hl).2 _⟩
end
end Go.Vm
end
section
namespace Go.Vm
set_option linter.unusedVariables false
set_option linter.unusedSimpArgs false
variable {F : FuncId → Option FnC} {L : FuncId → List V → V → Prop}
def Cf (F : FuncId → Option FnC) (L : FuncId → List V → V → Prop) (f : FuncId) (args : List V) (h : Heap) (K : V → Heap → Prop) : Prop :=
  ∃ v h', Ev F L (.call f args h v h') ∧ K v h'
theorem Cf.mono {f : FuncId} {args : List V} {h : Heap} {K K' : V → Heap → Prop} (hw : Cf F L f args h K) (hk : ∀ v h', K v h' → K' v h') : Cf F L f args h K' :=
  let ⟨v, h', he, hv⟩ := hw; ⟨v, h', he, hk v h' hv⟩
def wi (F : FuncId → Option FnC) (L : FuncId → List V → V → Prop) (i : Ins) (e : Env) (h : Heap) (K : V → Heap → Prop) : Prop :=
  match QH i e with
  | some (f, args) => Cf F L f args h K
  | none => match Qg i e h with
    | some (v, h') => K v h'
    | none => False
def E0 : Env := fun _ => .tup []
def wg (x : V) (g : Bool) (i : (V → Heap → Prop) → Prop) (h : Heap) (K : V → Heap → Prop) : Prop :=
  ((match x with | .bool c => c == g | _ => false) = true → i K) ∧ ((match x with | .bool c => c == g | _ => false) = false → K (.tup []) h)
def wgd (x : V) (g : Bool) (i : (V → Heap → Prop) → Prop) (h : Heap) (K : V → Heap → Prop) : Prop :=
  ((match x with | .bool c => c == g | _ => false) = true → i fun v h' => Ext h h' ∧ K v h') ∧ ((match x with | .bool c => c == g | _ => false) = false → K (.tup []) h)
def wb (x : V) (A B : Prop) : Prop := ∃ t, x = .bool t ∧ (t = true → A) ∧ (t = false → B)
def Arg.sub (e : Env) : Arg → Arg
  | .t n => .c (e n)
  | .c v => .c v
def Ins.sub (e : Env) : Ins → Ins
  | .mv a => .mv (a.sub e)
  | .mvs a => .mvs (a.sub e)
  | .pick c a b => .pick (c.sub e) (a.sub e) (b.sub e)
  | .boxz cs => .boxz cs
  | .box a => .box (a.sub e)
  | .build z ps => .build z (ps.map fun p => (p.1, p.2.1, p.2.2.sub e))
  | .bsl n ps => .bsl n (ps.map (·.sub e))
  | .load g s a => .load g s (a.sub e)
  | .store s a x => .store s (a.sub e) (x.sub e)
  | .nilck a => .nilck (a.sub e)
  | .bin o x y => .bin o (x.sub e) (y.sub e)
  | .eq k n x y => .eq k n (x.sub e) (y.sub e)
  | .un o x => .un o (x.sub e)
  | .toInt k x => .toInt k (x.sub e)
  | .toStr x => .toStr (x.sub e)
  | .toBytes x => .toBytes (x.sub e)
  | .mkfn f cs => .mkfn f (cs.map (·.sub e))
  | .mkmap => .mkmap
  | .lookup c z o m k => .lookup c z o (m.sub e) (k.sub e)
  | .mapset c m k v => .mapset c (m.sub e) (k.sub e) (v.sub e)
  | .mksl s b z l c => .mksl s b z (l.sub e) (c.sub e)
  | .slstr x l h => .slstr (x.sub e) (l.map (·.sub e)) (h.map (·.sub e))
  | .slsl s x l h m => .slsl s (x.sub e) (l.map (·.sub e)) (h.map (·.sub e)) (m.map (·.sub e))
  | .faddr o x => .faddr o (x.sub e)
  | .fld o s g x => .fld o s g (x.sub e)
  | .ixaSl s x i => .ixaSl s (x.sub e) (i.sub e)
  | .ixaArr n s x i => .ixaArr n s (x.sub e) (i.sub e)
  | .ixArr n s g x i => .ixArr n s g (x.sub e) (i.sub e)
  | .ixStr x i => .ixStr (x.sub e) (i.sub e)
  | .ext i x => .ext i (x.sub e)
  | .len c x => .len c (x.sub e)
  | .lenArr n => .lenArr n
  | .app s b m x y => .app s b m (x.sub e) (y.sub e)
  | .copy s d x => .copy s (d.sub e) (x.sub e)
  | .mn xs => .mn (xs.map (·.sub e))
  | .mx xs => .mx (xs.map (·.sub e))
  | .clear m => .clear (m.sub e)
  | .call f xs => .call f (xs.map (·.sub e))
  | .callv g xs => .callv (g.sub e) (xs.map (·.sub e))
theorem QgP (e : Env) (a : Arg) : (a.sub e).get E0 = a.get e := by cases a <;> rfl
theorem Qt9 (e : Env) (xs : List Arg) : (xs.map (·.sub e)).map (·.get E0) = xs.map (·.get e) := by
  induction xs with
  | nil => rfl
  | cons x r ih => simp only [List.map_cons, QgP, ih]
theorem QtT (e : Env) : ∀ (ps : List (Nat × Nat × Arg)) (cs : List V), Qu E0 cs (ps.map fun p => (p.1, p.2.1, p.2.2.sub e)) = Qu e cs ps
  | [], cs => rfl
  | (a, b, x) :: r, cs => by
    simp only [List.map_cons, Qu, QgP]
    split
    · exact QtT e r _
    · rfl
theorem QHT (e : Env) (a : Option Arg) : Qi E0 (a.map (·.sub e)) = Qi e a := by
  cases a with
  | none => rfl
  | some a => simp only [Option.map_some, Qi, QgP]
theorem QzV (e : Env) (sz : Nat) (ps : List Arg) : ((ps.map (·.sub e)).all fun p => decide ((cells (p.get E0)).length = sz) && stor (p.get E0)) = (ps.all fun p => decide ((cells (p.get e)).length = sz) && stor (p.get e)) := by
  induction ps with
  | nil => rfl
  | cons x r ih => simp only [List.map_cons, List.all_cons, QgP, ih]
theorem QEW (e : Env) (i : Ins) : QH (i.sub e) E0 = QH i e := by
  cases i <;> simp only [Ins.sub, QH, QgP, Qt9]
theorem QIr (e : Env) (h : Heap) (i : Ins) : Qg (i.sub e) E0 h = Qg i e h := by
  cases i <;> simp only [Ins.sub, Qg, QgP, Qt9, QtT, QHT, QzV]
theorem Qi5 (e : Env) (h : Heap) (i : Ins) (K : V → Heap → Prop) : wi F L (i.sub e) E0 h K = wi F L i e h K := by
  unfold wi
  rw [QEW, QIr]
def wo (F : FuncId → Option FnC) (L : FuncId → List V → V → Prop) : List OpC → (Env → Heap → Prop) → Env → Heap → Prop
  | [], Q, e, h => Q e h
  | ⟨d, none, .mv a⟩ :: l, Q, e, h => wo F L l Q (put e d (a.get e)) h
  | ⟨d, none, i⟩ :: l, Q, e, h => wi F L (i.sub e) E0 h fun v h' => wo F L l Q (put e d v) h'
  | ⟨d, some (t, g), i⟩ :: l, Q, e, h => wg (e t) g (wi F L (i.sub e) E0 h) h fun v h' => wo F L l Q (put e d v) h'
def wd (F : FuncId → Option FnC) (L : FuncId → List V → V → Prop) : List OpC → (Env → Heap → Prop) → Env → Heap → Prop
  | [], Q, e, h => Q e h
  | ⟨d, none, .mv a⟩ :: l, Q, e, h => wd F L l Q (put e d (a.get e)) h
  | ⟨d, none, i⟩ :: l, Q, e, h => wi F L (i.sub e) E0 h fun v h' => Ext h h' ∧ wd F L l Q (put e d v) h'
  | ⟨d, some (t, g), i⟩ :: l, Q, e, h => wgd (e t) g (wi F L (i.sub e) E0 h) h fun v h' => wd F L l Q (put e d v) h'
def Wl (F : FuncId → Option FnC) (L : FuncId → List V → V → Prop) (c : C) (Q : X → Env → Heap → Prop) (e : Env) (h : Heap) : Prop :=
  ∃ x e' h', Ev F L (.code (.loop c) e h x e' h') ∧ Q x e' h'
def seqX (K : Env → Heap → Prop) (Q : X → Env → Heap → Prop) : X → Env → Heap → Prop
  | .norm => K
  | x => Q x
def wc (F : FuncId → Option FnC) (L : FuncId → List V → V → Prop) : C → (X → Env → Heap → Prop) → Env → Heap → Prop
  | .skip, Q, e, h => Q .norm e h
  | .region l, Q, e, h => wo F L l (Q .norm) e h
  | .dregion l t, Q, e, h => wd F L l (wo F L t (Q .norm)) e h
  | .seq a b, Q, e, h => wc F L a (seqX (wc F L b Q) Q) e h
  | .cond g a b, Q, e, h => wb (g.get e) (wc F L a Q e h) (wc F L b Q e h)
  | .block id c, Q, e, h => wc F L c (fun x => Q (x.out id)) e h
  | .loop c, Q, e, h => Wl F L c Q e h
  | .exit id, Q, e, h => Q (.exit id) e h
  | .ret, Q, e, h => Q .ret e h
theorem QCU {o : OpC} {l : List OpC} {Q : Env → Heap → Prop} {e : Env} {h : Heap} (hq : wo F L (o :: l) Q e h) :
    (o.wanted e = true → wi F L o.ins e h fun v h' => wo F L l Q (put e o.dst v) h') ∧ (o.wanted e = false → wo F L l Q (put e o.dst (.tup [])) h) := by
  obtain ⟨d, g, i⟩ := o
  cases g with
  | none =>
    refine ⟨fun _ => ?_, fun hf => by simp [OpC.wanted] at hf⟩
    cases i <;> first | exact hq | (simp only [wo, Qi5] at hq; exact hq)
  | some p =>
    obtain ⟨t, b⟩ := p
    have hq' : wg (e t) b (wi F L (i.sub e) E0 h) h fun v h' => wo F L l Q (put e d v) h' := by cases i <;> exact hq
    unfold wg at hq'
    rw [Qi5] at hq'
    exact hq'
theorem QA3 {o : OpC} {l : List OpC} {Q : Env → Heap → Prop} {e : Env} {h : Heap} (hq : wd F L (o :: l) Q e h) :
    (o.wanted e = true → wi F L o.ins e h fun v h' => Ext h h' ∧ wd F L l Q (put e o.dst v) h') ∧ (o.wanted e = false → wd F L l Q (put e o.dst (.tup [])) h) := by
  obtain ⟨d, g, i⟩ := o
  cases g with
  | none =>
    refine ⟨fun _ => ?_, fun hf => by simp [OpC.wanted] at hf⟩
    cases i <;> first | (simp only [wd, Qi5] at hq; exact hq) | (show Ext h h ∧ _; exact ⟨fun _ _ => rfl, hq⟩)
  | some p =>
    obtain ⟨t, b⟩ := p
    have hq' : wgd (e t) b (wi F L (i.sub e) E0 h) h fun v h' => wd F L l Q (put e d v) h' := by cases i <;> exact hq
    unfold wgd at hq'
    rw [Qi5] at hq'
    exact hq'
theorem Qh5 : ∀ {l : List OpC} {Q : Env → Heap → Prop} {e : Env} {h : Heap}, wo F L l Q e h → ∃ e' h', Ev F L (.ops l e h e' h') ∧ Q e' h'
  | [], Q, e, h, hq => ⟨e, h, .opsNil e h, hq⟩
  | o :: l, Q, e, h, hq => by
    have hq := QCU hq
    cases hw : o.wanted e with
    | false =>
      obtain ⟨e', h', hev, hq'⟩ := Qh5 (hq.2 hw)
      exact ⟨e', h', .opsSkip hw hev, hq'⟩
    | true =>
      have h1 := hq.1 hw
      unfold wi at h1
      split at h1
      · rename_i f args hc
        obtain ⟨v, h2, hcall, hn⟩ := h1
        obtain ⟨e', h', hev, hq'⟩ := Qh5 hn
        exact ⟨e', h', .opsCall hw hc hcall hev, hq'⟩
      · split at h1
        · rename_i v h2 hs
          obtain ⟨e', h', hev, hq'⟩ := Qh5 h1
          exact ⟨e', h', .opsIns hw hs hev, hq'⟩
        · exact h1.elim
theorem Qj3 : ∀ {l : List OpC} {Q : Env → Heap → Prop} {e : Env} {h : Heap}, wd F L l Q e h → ∃ e' h', Ev F L (.dops l e h e' h') ∧ Q e' h'
  | [], Q, e, h, hq => ⟨e, h, .dopsNil e h, hq⟩
  | o :: l, Q, e, h, hq => by
    have hq := QA3 hq
    cases hw : o.wanted e with
    | false =>
      obtain ⟨e', h', hev, hq'⟩ := Qj3 (hq.2 hw)
      exact ⟨e', h', .dopsSkip hw hev, hq'⟩
    | true =>
      have h1 := hq.1 hw
      unfold wi at h1
      split at h1
      · rename_i f args hc
        obtain ⟨v, h2, hcall, hx, hn⟩ := h1
        obtain ⟨e', h', hev, hq'⟩ := Qj3 hn
        exact ⟨e', h', .dopsCall hw hc hx hcall hev, hq'⟩
      · split at h1
        · rename_i v h2 hs
          obtain ⟨e', h', hev, hq'⟩ := Qj3 h1.2
          exact ⟨e', h', .dopsIns hw hs h1.1 hev, hq'⟩
        · exact h1.elim
theorem Qgi : ∀ {c : C} {Q : X → Env → Heap → Prop} {e : Env} {h : Heap}, wc F L c Q e h → ∃ x e' h', Ev F L (.code c e h x e' h') ∧ Q x e' h'
  | .skip, Q, e, h, hq => ⟨.norm, e, h, .skip e h, hq⟩
  | .region l, Q, e, h, hq => let ⟨e', h', hev, hq'⟩ := Qh5 hq; ⟨.norm, e', h', .region hev, hq'⟩
  | .dregion l t, Q, e, h, hq => let ⟨e1, h1, hev, hq'⟩ := Qj3 hq; let ⟨e', h', hev', hq''⟩ := Qh5 hq'; ⟨.norm, e', h', .dregion hev hev', hq''⟩
  | .seq a b, Q, e, h, hq => by
    obtain ⟨x, e1, h1, hev, hq1⟩ := Qgi (c := a) hq
    cases x with
    | norm =>
      obtain ⟨x, e2, h2, hev2, hq2⟩ := Qgi (c := b) hq1
      exact ⟨x, e2, h2, .seqN hev hev2, hq2⟩
    | exit i => exact ⟨_, e1, h1, .seqX hev (fun hh => by cases hh), hq1⟩
    | ret => exact ⟨_, e1, h1, .seqX hev (fun hh => by cases hh), hq1⟩
  | .cond g a b, Q, e, h, hq => by
    obtain ⟨t, hg, ha, hb⟩ := hq
    cases t with
    | true =>
      obtain ⟨x, e', h', hev, hq'⟩ := Qgi (c := a) (ha rfl)
      exact ⟨x, e', h', .cond hg hev, hq'⟩
    | false =>
      obtain ⟨x, e', h', hev, hq'⟩ := Qgi (c := b) (hb rfl)
      exact ⟨x, e', h', .cond hg hev, hq'⟩
  | .block id c, Q, e, h, hq => let ⟨x, e', h', hev, hq'⟩ := Qgi (c := c) hq; ⟨x.out id, e', h', .block hev, hq'⟩
  | .loop c, Q, e, h, hq => hq
  | .exit id, Q, e, h, hq => ⟨.exit id, e, h, .exit id e h, hq⟩
  | .ret, Q, e, h, hq => ⟨.ret, e, h, .ret e h, hq⟩
theorem wloop {c : C} {Q : X → Env → Heap → Prop} (I : Nat → Env → Heap → Prop) (hr : ∀ n e h, I n e h → wc F L c (seqX (fun e' h' => ∃ m, m < n ∧ I m e' h') Q) e h) :
    ∀ {n : Nat} {e : Env} {h : Heap}, I n e h → Wl F L c Q e h := by
  intro n
  induction n using Nat.strongRecOn with
  | _ n ih =>
    intro e h hI
    obtain ⟨x, e1, h1, hev, hq⟩ := Qgi (hr n e h hI)
    cases x with
    | norm =>
      obtain ⟨m, hm, hI'⟩ := hq
      obtain ⟨x, e2, h2, hev2, hq2⟩ := ih m hm hI'
      exact ⟨x, e2, h2, .loopN hev hev2, hq2⟩
    | exit i => exact ⟨_, e1, h1, .loopX hev (fun hh => by cases hh), hq⟩
    | ret => exact ⟨_, e1, h1, .loopX hev (fun hh => by cases hh), hq⟩
def Qy (rs : List Res) (K : V → Heap → Prop) : X → Env → Heap → Prop
  | .exit _, _, _ => False
  | _, e, h => ∃ v, Qa h e rs = some v ∧ K v h
theorem wcall {f : FuncId} {fn : FnC} {args : List V} {h : Heap} {K : V → Heap → Prop} (hf : F f = some fn) (ha : args.length ≤ fn.ntmps) (hw : wc F L fn.body (Qy fn.results K) (Qd args) h) : Cf F L f args h K := by
  obtain ⟨x, e', h', hev, hq⟩ := Qgi hw
  cases x with
  | exit i => exact hq.elim
  | norm => obtain ⟨v, hr, hk⟩ := hq; exact ⟨v, h', .call hf ha hev (.inl rfl) hr, hk⟩
  | ret => obtain ⟨v, hr, hk⟩ := hq; exact ⟨v, h', .call hf ha hev (.inr rfl) hr, hk⟩
theorem wlib {f : FuncId} {args : List V} {h : Heap} {v : V} {K : V → Heap → Prop} (hl : L f args v) (hk : K v h) : Cf F L f args h K := ⟨v, h, .lib hl, hk⟩
section
variable {e : Env} {h : Heap} {K : V → Heap → Prop} {Q : Env → Heap → Prop} {d : Option Nat} {l : List OpC} {a b c x y : Arg}
def ws (i : Ins) (e : Env) (h : Heap) (K : V → Heap → Prop) : Prop :=
  match Qg i e h with
  | some (v, h') => K v h'
  | none => False
theorem QHh {f : FuncId} {xs : List Arg} : wi F L (.call f xs) e h K = Cf F L f (xs.map (·.get e)) h K := rfl
theorem Qx7 {g : Arg} {xs : List Arg} : wi F L (.callv g xs) e h K = (match g.get e with | .fn f caps => Cf F L f (xs.map (·.get e) ++ caps) h K | _ => False) := by
  unfold wi
  simp only [QH, Qg]
  cases g.get e <;> rfl
theorem QD3 : wi F L (.mv a) e h K = K (a.get e) h := rfl
theorem QEG : wi F L (.mvs a) e h K = (match a.get e with | .str s => K (.str s) h | _ => False) := by
  simp only [wi, QH, Qg]; cases a.get e <;> rfl
theorem QFe : wi F L (.pick c a b) e h K = (match c.get e with | .bool t => K (if t then a.get e else b.get e) h | _ => False) := by
  simp only [wi, QH, Qg]; cases c.get e <;> rfl
theorem QJJ {cs : List V} : wi F L (.boxz cs) e h K = K (.ptr h.length 0) (h ++ [.box cs]) := rfl
theorem QzO : wi F L (.box a) e h K = (stor (a.get e) = true ∧ K (.ptr h.length 0) (h ++ [.box (cells (a.get e))])) := by
  simp only [wi, QH, Qg]; cases stor (a.get e) <;> simp
theorem QoM {z : List V} {ps : List (Nat × Nat × Arg)} : wi F L (.build z ps) e h K = (match Qu e z ps with | some cs => K (.agg cs) h | none => False) := by
  simp only [wi, QH, Qg]; cases Qu e z ps <;> simp
theorem QGe {sz : Nat} {ps : List Arg} : wi F L (.bsl sz ps) e h K = ((ps.all fun p => decide ((cells (p.get e)).length = sz) && stor (p.get e)) = true ∧ K (.sl sz .full (ps.map (·.get e))) h) := by
  simp only [wi, QH, Qg]
  generalize (ps.all fun p => decide ((cells (p.get e)).length = sz) && stor (p.get e)) = q
  cases q <;> simp
def Qb (cs : List V) (off sz : Nat) (g : Bool) (K : V → Prop) : Prop := off + sz ≤ cs.length ∧ (if g then K (.agg ((cs.drop off).take sz)) else sz = 1 ∧ K (cs.getD off (.tup [])))
theorem QmP {cs : List V} {off sz : Nat} {g : Bool} {K : V → Prop} : (match part cs off sz g with | some v => K v | none => False) = Qb cs off sz g K := by
  unfold part Qb
  by_cases hl : off + sz ≤ cs.length
  · cases g with
    | true => simp [hl]
    | false =>
      by_cases hs : sz = 1
      · subst hs
        have : off < cs.length := by omega
        simp [hl, List.getD_eq_getElem?_getD, this]
      · simp [hl, hs]
  · simp [hl]
theorem Qw0 {g : Bool} {s : Nat} : wi F L (.load g s a) e h K = (match a.get e with
    | .ptr id off => (match h[id]? with | some (.box cs) => Qb cs off s g (K · h) | _ => False)
    | .iptr cs => Qb cs 0 s g (K · h)
    | _ => False) := by
  simp only [wi, QH, Qg, QA, ← QmP]
  cases a.get e <;> try rfl
  · rename_i id off
    show (match (match h[id]? with | some (.box cs) => part cs off s g | _ => none).map (fun v => (v, h)) with | some (v, h') => K v h' | none => False) = (match h[id]? with | some (.box cs) => (match part cs off s g with | some v => K v h | none => False) | _ => False)
    cases h[id]? with
    | none => rfl
    | some o =>
      cases o <;> try rfl
      rename_i cs
      cases hq : part cs off s g <;> simp [hq]
  · rename_i cs
    show (match (part cs 0 s g).map (fun v => (v, h)) with | some (v, h') => K v h' | none => False) = (match part cs 0 s g with | some v => K v h | none => False)
    cases part cs 0 s g <;> rfl
theorem QGE {s : Nat} : wi F L (.store s a x) e h K = (match a.get e with
    | .ptr id off => (match h[id]? with | some (.box cs) => (cells (x.get e)).length = s ∧ off + s ≤ cs.length ∧ stor (x.get e) = true ∧ K (.tup []) (h.set id (.box (splice cs off (cells (x.get e))))) | _ => False)
    | _ => False) := by
  simp only [wi, QH, Qg, Qmz]
  cases a.get e <;> try rfl
  rename_i id off
  show (match (match h[id]? with | some (.box cs) => if (cells (x.get e)).length = s ∧ off + s ≤ cs.length ∧ stor (x.get e) = true then some (V.tup [], h.set id (.box (splice cs off (cells (x.get e))))) else none | _ => none) with | some (v, h') => K v h' | none => False) = (match h[id]? with | some (.box cs) => (cells (x.get e)).length = s ∧ off + s ≤ cs.length ∧ stor (x.get e) = true ∧ K (.tup []) (h.set id (.box (splice cs off (cells (x.get e))))) | _ => False)
  cases h[id]? with
  | none => rfl
  | some o =>
    cases o <;> try rfl
    rename_i cs
    by_cases hc : (cells (x.get e)).length = s ∧ off + s ≤ cs.length ∧ stor (x.get e) = true
    · simp only [if_pos hc]
      simp [hc]
    · simp only [if_neg hc]
      refine propext ⟨False.elim, fun hh => hc ⟨hh.1, hh.2.1, hh.2.2.1⟩⟩
theorem QyV : wi F L (.nilck a) e h K = (match a.get e with | .ptr id o => K (.ptr id o) h | .iptr cs => K (.iptr cs) h | .fn f caps => K (.fn f caps) h | _ => False) := by
  simp only [wi, QH, Qg]; cases a.get e <;> rfl
theorem QCc {o : BinOp} : wi F L (.bin o x y) e h K = (match Qx o (x.get e) (y.get e) with | some v => K v h | none => False) := by
  simp only [wi, QH, Qg]; cases Qx o (x.get e) (y.get e) <;> rfl
section
variable {k k' : IntKind} {p q : Int} {s t : List UInt8}
theorem QDg : Qx .add (.int k p) (.int k q) = some (.int k (k.wrap (p + q))) := by simp [Qx, QaY]
theorem QyM : Qx .sub (.int k p) (.int k q) = some (.int k (k.wrap (p - q))) := by simp [Qx, QaY]
theorem QJ8 : Qx .mul (.int k p) (.int k q) = some (.int k (k.wrap (p * q))) := by simp [Qx, QaY]
theorem Qjd (hq : q ≠ 0) : Qx .quo (.int k p) (.int k q) = some (.int k (k.wrap (p.tdiv q))) := by simp [Qx, QaY, hq]
theorem QcI (hq : q ≠ 0) : Qx .rem (.int k p) (.int k q) = some (.int k (p.tmod q)) := by simp [Qx, QaY, hq]
theorem Qzv : Qx .and (.int k p) (.int k q) = some (.int k (Qc3 .and k p q)) := by simp [Qx, QaY]
theorem QHP : Qx .or (.int k p) (.int k q) = some (.int k (Qc3 .or k p q)) := by simp [Qx, QaY]
theorem QCm : Qx .xor (.int k p) (.int k q) = some (.int k (Qc3 .xor k p q)) := by simp [Qx, QaY]
theorem QGC : Qx .eql (.int k p) (.int k q) = some (.bool (decide (p = q))) := by simp [Qx, QaY]
theorem QIP : Qx .neq (.int k p) (.int k q) = some (.bool (!decide (p = q))) := by simp [Qx, QaY]
theorem QwZ : Qx .lss (.int k p) (.int k q) = some (.bool (decide (p < q))) := by simp [Qx, QaY]
theorem QIl : Qx .leq (.int k p) (.int k q) = some (.bool (decide (p ≤ q))) := by simp [Qx, QaY]
theorem QDx : Qx .gtr (.int k p) (.int k q) = some (.bool (decide (p > q))) := by simp [Qx, QaY]
theorem QEv : Qx .geq (.int k p) (.int k q) = some (.bool (decide (p ≥ q))) := by simp [Qx, QaY]
theorem Qer (hl : s.length + t.length ≤ 9223372036854775807) : Qx .add (.str s) (.str t) = some (.str (s ++ t)) := by simp [Qx, Qgh, hl]
theorem Qwu : Qx .eql (.str s) (.str t) = some (.bool (s == t)) := by simp [Qx, Qgh]
theorem Qyv : Qx .neq (.str s) (.str t) = some (.bool (!(s == t))) := by simp [Qx, Qgh]
theorem QEk : Qx .lss (.str s) (.str t) = some (.bool (Go.Op.bytesLess s t)) := by simp [Qx, Qgh]
end
theorem Qz3 {k : EqK} {n : Bool} : wi F L (.eq k n x y) e h K = (match eqV k (x.get e) (y.get e) with | some r => K (.bool (if n then !r else r)) h | none => False) := by
  simp only [wi, QH, Qg]; cases eqV k (x.get e) (y.get e) <;> simp
theorem QJo {o : UnOp} : wi F L (.un o x) e h K = (match unV o (x.get e) with | some v => K v h | none => False) := by
  simp only [wi, QH, Qg]; cases unV o (x.get e) <;> simp
theorem QwF {b : Bool} : unV .not (.bool b) = some (.bool !b) := rfl
theorem Qxd {k : IntKind} {p : Int} : unV .neg (.int k p) = some (.int k (k.wrap (0 - p))) := rfl
theorem QIS {k : IntKind} : wi F L (.toInt k x) e h K = (match x.get e with | .int _ n => K (.int k (k.wrap n)) h | _ => False) := by
  simp only [wi, QH, Qg]; cases x.get e <;> rfl
theorem Qh4 {i : Ins} (hc : QH i e = none) : wi F L i e h K = (match Qg i e h with | some (v, h') => K v h' | none => False) := by
  simp only [wi, hc]
theorem QJQ : wi F L (.toStr x) e h K = (match Qg (.toStr x) e h with | some (v, h') => K v h' | none => False) := Qh4 rfl
theorem QFm : wi F L (.toBytes x) e h K = (match x.get e with | .str s => K (.hsl 1 h.length s.length) (h ++ [.box (s.map Qa5)]) | _ => False) := by
  simp only [wi, QH, Qg]; cases x.get e <;> rfl
theorem QAa {f : FuncId} {cs : List Arg} : wi F L (.mkfn f cs) e h K = K (.fn f (cs.map (·.get e))) h := rfl
theorem QB4 : wi F L .mkmap e h K = K (.map h.length) (h ++ [.map []]) := rfl
theorem QIv {k : LK} {z : V} {ok : Bool} : wi F L (.lookup k z ok x y) e h K = (match Qg (.lookup k z ok x y) e h with | some (v, h') => K v h' | none => False) := Qh4 rfl
theorem Qyr {k : LK} : wi F L (.mapset k a x y) e h K = (match Qg (.mapset k a x y) e h with | some (v, h') => K v h' | none => False) := Qh4 rfl
theorem QAK {lo hi : Option Arg} : wi F L (.slstr x lo hi) e h K = (match x.get e, Qi e lo, Qi e hi with
    | .str s, some l, some r => l.getD 0 ≤ r.getD s.length ∧ r.getD s.length ≤ s.length ∧ K (.str ((s.take (r.getD s.length)).drop (l.getD 0))) h
    | _, _, _ => False) := by
  simp only [wi, QH, Qg]
  cases x.get e <;> try rfl
  cases Qi e lo <;> try rfl
  cases Qi e hi <;> try rfl
  rename_i s l r
  simp only [Option.bind_some]
  by_cases hc : l.getD 0 ≤ r.getD s.length ∧ r.getD s.length ≤ s.length
  · simp [hc]
  · rw [if_neg hc]
    exact propext ⟨False.elim, fun hh => hc ⟨hh.1, hh.2.1⟩⟩
theorem QBJ {s : Nat} {lo hi mx : Option Arg} : wi F L (.slsl s x lo hi mx) e h K = (match Qg (.slsl s x lo hi mx) e h with | some (v, h') => K v h' | none => False) := Qh4 rfl
theorem QDb {o : Nat} : wi F L (.faddr o x) e h K = (match x.get e with | .ptr id k => K (.ptr id (k + o)) h | .iptr cs => K (.iptr (cs.drop o)) h | _ => False) := by
  simp only [wi, QH, Qg]; cases x.get e <;> rfl
theorem QF0 {o s : Nat} {g : Bool} : wi F L (.fld o s g x) e h K = (match x.get e with | .agg cs => Qb cs o s g (K · h) | _ => False) := by
  simp only [wi, QH, Qg, ← QmP]; cases x.get e <;> try rfl
  rename_i cs
  show (match (part cs o s g).map (fun v => (v, h)) with | some (v, h') => K v h' | none => False) = (match part cs o s g with | some v => K v h | none => False)
  cases part cs o s g <;> rfl
theorem Qvt {s : Nat} : wi F L (.ixaSl s x y) e h K = (match x.get e, y.get e with
    | .sl s' _ es, .int _ n => 0 ≤ n ∧ s' = s ∧ n.toNat < es.length ∧ K (.iptr (cells (es.getD n.toNat (.tup [])))) h
    | .hsl s' id len, .int _ n => 0 ≤ n ∧ s' = s ∧ n.toNat < len ∧ K (.ptr id (n.toNat * s)) h
    | _, _ => False) := by
  simp only [wi, QH, Qg]
  cases hy : y.get e <;> try (cases x.get e <;> rfl)
  rename_i k n
  by_cases hn : n < 0
  · have hn' : ¬ 0 ≤ n := by omega
    cases x.get e <;> simp [hn, hn']
  · have hn' : 0 ≤ n := by omega
    cases x.get e <;> try (simp [hn]; done)
    · rename_i s' own es
      by_cases hs : s' = s
      · by_cases hl : n.toNat < es.length
        · simp [hn, hn', hs, hl, List.getD_eq_getElem?_getD]
        · simp [hn, hn', hs, hl]
      · simp [hn, hs]
    · rename_i s' id len
      by_cases hc : s' = s ∧ n.toNat < len
      · simp [hn, hn', hc]
      · simp only [hn, if_false, if_neg hc]
        exact propext ⟨False.elim, fun hh => hc ⟨hh.2.1, hh.2.2.1⟩⟩
theorem QAG {n s : Nat} : wi F L (.ixaArr n s x y) e h K = (match x.get e, y.get e with
    | .ptr id o, .int _ j => 0 ≤ j ∧ j < n ∧ K (.ptr id (o + j.toNat * s)) h
    | .iptr cs, .int _ j => 0 ≤ j ∧ j < n ∧ K (.iptr (cs.drop (j.toNat * s))) h
    | _, _ => False) := by
  simp only [wi, QH, Qg]
  cases hy : y.get e <;> try (cases x.get e <;> rfl)
  rename_i k j
  by_cases hc : 0 ≤ j ∧ j < n
  · cases x.get e <;> simp [hc]
  · cases x.get e <;> simp only [if_neg hc] <;> exact propext ⟨False.elim, fun hh => by first | exact hc ⟨hh.1, hh.2.1⟩ | exact hh⟩
theorem QFW {n s : Nat} {g : Bool} : wi F L (.ixArr n s g x y) e h K = (match x.get e, y.get e with
    | .agg cs, .int _ j => 0 ≤ j ∧ j < n ∧ Qb cs (j.toNat * s) s g (K · h)
    | _, _ => False) := by
  simp only [wi, QH, Qg, ← QmP]
  cases hy : y.get e <;> try (cases x.get e <;> rfl)
  rename_i k j
  by_cases hc : 0 ≤ j ∧ j < n
  · cases x.get e <;> try (simp [hc]; done)
    rename_i cs
    simp only [if_pos hc, hc, true_and]
    show (match (part cs (j.toNat * s) s g).map (fun v => (v, h)) with | some (v, h') => K v h' | none => False) = (match part cs (j.toNat * s) s g with | some v => K v h | none => False)
    cases part cs (j.toNat * s) s g <;> rfl
  · cases x.get e <;> simp only [if_neg hc] <;> exact propext ⟨False.elim, fun hh => by first | exact hc ⟨hh.1, hh.2.1⟩ | exact hh⟩
theorem QA7 : wi F L (.ixStr x y) e h K = (match x.get e, y.get e with | .str s, .int _ n => 0 ≤ n ∧ n.toNat < s.length ∧ K (Qa5 (s.getD n.toNat 0)) h | _, _ => False) := by
  simp only [wi, QH, Qg]
  cases x.get e <;> try rfl
  cases y.get e <;> try rfl
  rename_i s k n
  by_cases hn : n < 0
  · simp [hn]; omega
  · by_cases hl : n.toNat < s.length
    · simp [hn, hl, List.getD_eq_getElem?_getD]; omega
    · simp [hn, hl]
theorem QEl {i : Nat} : wi F L (.ext i x) e h K = (match x.get e with | .tup vs => (match vs[i]? with | some v => K v h | none => False) | _ => False) := by
  simp only [wi, QH, Qg]; cases x.get e <;> try rfl
  rename_i vs
  show (match (vs[i]?).map (fun v => (v, h)) with | some (v, h') => K v h' | none => False) = (match vs[i]? with | some v => K v h | none => False)
  cases vs[i]? <;> rfl
theorem QBk : wi F L (.len 0 x) e h K = (match x.get e with | .str s => K (.int .i64 s.length) h | _ => False) := by
  simp only [wi, QH, Qg]; cases x.get e <;> rfl
theorem Qzq : wi F L (.len 1 x) e h K = (match x.get e with | .nsl => K (.int .i64 0) h | .sl _ _ es => K (.int .i64 es.length) h | .hsl _ _ n => K (.int .i64 n) h | _ => False) := by
  simp only [wi, QH, Qg]; cases x.get e <;> rfl
theorem QIp {k : Nat} : wi F L (.lenArr k) e h K = K (.int .i64 k) h := rfl
theorem QCq {s b : Nat} {m : Bool} : wi F L (.app s b m x y) e h K = (match Qb7 h s b m (x.get e) (y.get e) with | some (v, h') => K v h' | none => False) := Qh4 rfl
theorem QCH {xs : List Arg} : wi F L (.mn xs) e h K = (match mnV (xs.map (·.get e)) with | some v => K v h | none => False) := by
  simp only [wi, QH, Qg]; cases mnV (xs.map (·.get e)) <;> rfl
theorem QGT {xs : List Arg} : wi F L (.mx xs) e h K = (match mxV (xs.map (·.get e)) with | some v => K v h | none => False) := by
  simp only [wi, QH, Qg]; cases mxV (xs.map (·.get e)) <;> rfl
theorem Qd7 (t : Heap) (k : Nat) : (h ++ t)[h.length + k]? = t[k]? := by
  rw [List.getElem?_append_right (by omega)]; congr 1; omega
theorem QlM (t : Heap) : (h ++ t)[h.length]? = t[0]? := Qd7 t 0
theorem Qp {t : Heap} {i : Nat} {o : O} (hi : h[i]? = some o) : (h ++ t)[i]? = some o := by
  rw [List.getElem?_append_left (List.getElem?_eq_some_iff.1 hi).1]; exact hi
theorem Qpu (t : Heap) (k : Nat) (o : O) : (h ++ t).set (h.length + k) o = h ++ t.set k o := by
  rw [List.set_append]; rw [if_neg (by omega)]; congr 2; omega
theorem QzS (t : Heap) (o : O) : (h ++ t).set h.length o = h ++ t.set 0 o := Qpu t 0 o
theorem QFP : Ext h h := fun _ _ => rfl
theorem Qzp (t : Heap) : Ext h (h ++ t) := fun i hi => List.getElem?_append_left hi
end
theorem QES {g : Arg} {c1 c2 : C} {Q : X → Env → Heap → Prop} {e : Env} {h : Heap} (hg : g.get e = .bool true) : wc F L (.cond g c1 c2) Q e h = wc F L c1 Q e h := by
  simp [wc, wb, hg]
theorem QAC {g : Arg} {c1 c2 : C} {Q : X → Env → Heap → Prop} {e : Env} {h : Heap} (hg : g.get e = .bool false) : wc F L (.cond g c1 c2) Q e h = wc F L c2 Q e h := by
  simp [wc, wb, hg]
section
variable {K : Env → Heap → Prop} {Q : X → Env → Heap → Prop} {R : V → Heap → Prop} {rs : List Res} {e : Env} {h : Heap} {i id : Nat} {c c1 c2 : C} {l : List OpC} {g : Arg}
theorem QJb : seqX K Q .norm e h = K e h := rfl
theorem QGX : seqX K Q (.exit i) e h = Q (.exit i) e h := rfl
theorem QDF : seqX K Q .ret e h = Q .ret e h := rfl
theorem QCl : Qy rs R .norm e h = ∃ v, Qa h e rs = some v ∧ R v h := rfl
theorem QCN : Qy rs R .ret e h = ∃ v, Qa h e rs = some v ∧ R v h := rfl
theorem Qye : X.out id .norm = .norm := rfl
theorem QCP : X.out id .ret = .ret := rfl
theorem QxI : X.out id (.exit i) = if i = id then .norm else .exit i := rfl
theorem QwL : wc F L .skip Q e h = Q .norm e h := rfl
theorem QF4 : wc F L (.region l) Q e h = wo F L l (Q .norm) e h := rfl
theorem QJU {t : List OpC} : wc F L (.dregion l t) Q e h = wd F L l (wo F L t (Q .norm)) e h := rfl
theorem QwX : wc F L (.seq c1 c2) Q e h = wc F L c1 (seqX (wc F L c2 Q) Q) e h := rfl
theorem QDM : wc F L (.block id c) Q e h = wc F L c (fun x => Q (x.out id)) e h := rfl
theorem QyN : wc F L (.loop c) Q e h = Wl F L c Q e h := rfl
theorem QE5 : wc F L (.exit id) Q e h = Q (.exit id) e h := rfl
theorem Qxn : wc F L .ret Q e h = Q .ret e h := rfl
theorem Qym (args : List V) (t : Nat) : Qd args t = args.getD t (.tup []) := rfl
end
theorem QGa (e : Env) (d : Nat) (v : V) (t : Nat) : upd e d v t = if t = d then v else e t := rfl
theorem QGI (e : Env) (d : Nat) (v : V) : put e (some d) v = upd e d v := rfl
theorem QDD (e : Env) (v : V) : put e none v = e := rfl
end Go.Vm
end
section
namespace Go.Vm
set_option linter.unusedVariables false
set_option linter.unusedSimpArgs false
section
variable {P : Program} {F : FuncId → Option FnC} {L : FuncId → List V → V → Prop}
def G0 : Gh := ⟨fun _ => none, fun _ => none, fun _ => none⟩
theorem QzE (w : World) : Rel w.heap.size G0 [] w where
  wf := {
    base := Nat.le_refl _
    blk := by intro _ _ h; cases h
    tip := by intro _ _ h; cases h
    lim := by intro _ _ h; cases h
    inj := by intro _ _ _ _ h; cases h
    tinj := by intro _ _ _ _ h; cases h
    tipo := by intro _ _ h; cases h }
  obj id o h := by simp at h
theorem QGc (b : Nat) : ¬ Mapped G0 b := by
  rintro (⟨_, _, h, _⟩ | ⟨_, _, h, _⟩) <;> cases h
variable {B : Nat} {G : Gh} {w : World}
theorem QGk (s : ByteArray) : Rv B G w (.str s.data.toList) (.string s) := by
  have := Rv.str (B := B) (G := G) (w := w) s.data.toList
  simpa using this
theorem Qtr {cs : List V} {vs : List Value} {arr : Array Value} (ha : arr = vs.toArray) (h : Rvs B G w cs vs) (h1 : ∀ c ∈ cs, QO c) : Rv B G w (.agg cs) (.agg arr) := by
  subst ha; exact .agg h.1 h1 h.2
end
end Go.Vm
end
section
namespace Go.Vm
set_option linter.unusedVariables false
set_option linter.unusedSimpArgs false
variable {F : FuncId → Option FnC} {L : FuncId → List V → V → Prop}
def Pu (h : Heap) (x : V) (v : V) (h' : Heap) : Prop := v = x ∧ ∃ t, h' = h ++ t
theorem Cf.pu {f : FuncId} {args : List V} {h : Heap} {x : V} {K : V → Heap → Prop} (hc : Cf F L f args h (Pu h x)) (k : ∀ t, K x (h ++ t)) : Cf F L f args h K :=
  hc.mono fun v h' ⟨e, t, e'⟩ => by subst e; subst e'; exact k t
theorem QCd (h t : Heap) (x y : V) : Pu h x y (h ++ t) = (y = x) := propext ⟨fun hp => hp.1, fun he => ⟨he, t, rfl⟩⟩
theorem QFf (h : Heap) (x y : V) : Pu h x y h = (y = x) := propext ⟨fun hp => hp.1, fun he => ⟨he, [], by simp⟩⟩
theorem Qs8 (h a b : Heap) : Ext (h ++ a) (h ++ b) = Ext a b := by
  refine propext ⟨fun hx i hi => ?_, fun hx i hi => ?_⟩
  · have := hx (h.length + i) (by simp; omega)
    rwa [Qd7, Qd7] at this
  · by_cases hl : i < h.length
    · rw [List.getElem?_append_left hl, List.getElem?_append_left hl]
    · rw [List.getElem?_append_right (by omega), List.getElem?_append_right (by omega)]
      exact hx _ (by simp at hi; omega)
theorem QHS (o : O) (a b : Heap) : Ext (o :: a) (o :: b) = Ext a b := Qs8 [o] a b
theorem QAT (b : Heap) : Ext [] b = True := eq_true fun i hi => absurd hi (by simp)
theorem QFb (h t : Heap) : Ext h (h ++ t) = True := eq_true (Qzp t)
theorem QGy (h : Heap) : Ext h h = True := eq_true QFP
theorem QBD (b : UInt8) : Qa5 b = .int .u8 b.toNat := rfl
theorem QD5 (p : Prop) [Decidable p] : (decide p = true) = p := by simp
theorem QIj (p : Prop) [Decidable p] : (decide p = false) = ¬ p := by simp
theorem Qe {x : Int} (h1 : -9223372036854775808 ≤ x) (h2 : x ≤ 9223372036854775807) : IntKind.i64.wrap x = x := by
  unfold IntKind.wrap
  have e1 : (2 : Int) ^ 64 = 18446744073709551616 := by decide
  have e2 : (2 : Int) ^ (64 - 1) = 9223372036854775808 := by decide
  simp only [IntKind.bits, IntKind.signed, e1, e2, Bool.true_and, decide_eq_true_eq]
  by_cases hc : x % 18446744073709551616 ≥ 9223372036854775808
  · rw [if_pos hc]; omega
  · rw [if_neg hc]; omega
theorem mn2 {k k' : IntKind} {x y : Int} : mnV [.int k x, .int k' y] = some (.int k (min x y)) := by
  simp only [mnV]
  congr 2
  split <;> omega
theorem mx2 {k k' : IntKind} {x y : Int} : mxV [.int k x, .int k' y] = some (.int k (max x y)) := by
  simp only [mxV]
  congr 2
  split <;> omega
def QrX (P : Program) : List (FuncId × FnC) → Prop
  | [] => True
  | p :: r => Qh P p.1 = some p.2 ∧ QrX P r
theorem Quf {P : Program} : ∀ {tab : List (FuncId × FnC)}, QrX P tab → ∀ f fn, tab.lookup f = some fn → Qh P f = some fn
  | [], _, f, fn, h => by simp at h
  | (g, c) :: r, ⟨h1, h2⟩, f, fn, h => by
    rw [List.lookup_cons] at h
    by_cases he : f = g
    · subst he
      simp at h
      subst h
      exact h1
    · have hb : (f == g) = false := by simpa using he
      rw [hb] at h
      exact Quf h2 f fn h
/-! Boxes behind others, by nested sums. -/
theorem cg1 {a : O} {l : Heap} {m k : Nat} : (a :: l)[m + (k + 1)]? = l[m + (k)]? := by
  rw [show m + (k + 1) = (m + (k)) + 1 from by omega]; exact List.getElem?_cons_succ
theorem cs1 {a x : O} {l : Heap} {m k : Nat} : (a :: l).set (m + (k + 1)) x = a :: l.set (m + (k)) x := by
  rw [show m + (k + 1) = (m + (k)) + 1 from by omega]; exact List.set_cons_succ ..
theorem cg2 {a : O} {l : Heap} {m n k : Nat} : (a :: l)[m + (n + (k + 1))]? = l[m + (n + (k))]? := by
  rw [show m + (n + (k + 1)) = (m + (n + (k))) + 1 from by omega]; exact List.getElem?_cons_succ
theorem cs2 {a x : O} {l : Heap} {m n k : Nat} : (a :: l).set (m + (n + (k + 1))) x = a :: l.set (m + (n + (k))) x := by
  rw [show m + (n + (k + 1)) = (m + (n + (k))) + 1 from by omega]; exact List.set_cons_succ ..
theorem cg3 {a : O} {l : Heap} {m n p k : Nat} : (a :: l)[m + (n + (p + (k + 1)))]? = l[m + (n + (p + (k)))]? := by
  rw [show m + (n + (p + (k + 1))) = (m + (n + (p + (k)))) + 1 from by omega]; exact List.getElem?_cons_succ
theorem cs3 {a x : O} {l : Heap} {m n p k : Nat} : (a :: l).set (m + (n + (p + (k + 1)))) x = a :: l.set (m + (n + (p + (k)))) x := by
  rw [show m + (n + (p + (k + 1))) = (m + (n + (p + (k)))) + 1 from by omega]; exact List.set_cons_succ ..
theorem cg4 {a : O} {l : Heap} {m n p q k : Nat} : (a :: l)[m + (n + (p + (q + (k + 1))))]? = l[m + (n + (p + (q + (k))))]? := by
  rw [show m + (n + (p + (q + (k + 1)))) = (m + (n + (p + (q + (k))))) + 1 from by omega]; exact List.getElem?_cons_succ
theorem cs4 {a x : O} {l : Heap} {m n p q k : Nat} : (a :: l).set (m + (n + (p + (q + (k + 1))))) x = a :: l.set (m + (n + (p + (q + (k))))) x := by
  rw [show m + (n + (p + (q + (k + 1)))) = (m + (n + (p + (q + (k))))) + 1 from by omega]; exact List.set_cons_succ ..
theorem cg5 {a : O} {l : Heap} {m n p q r k : Nat} : (a :: l)[m + (n + (p + (q + (r + (k + 1)))))]? = l[m + (n + (p + (q + (r + (k)))))]? := by
  rw [show m + (n + (p + (q + (r + (k + 1))))) = (m + (n + (p + (q + (r + (k)))))) + 1 from by omega]; exact List.getElem?_cons_succ
theorem cs5 {a x : O} {l : Heap} {m n p q r k : Nat} : (a :: l).set (m + (n + (p + (q + (r + (k + 1)))))) x = a :: l.set (m + (n + (p + (q + (r + (k)))))) x := by
  rw [show m + (n + (p + (q + (r + (k + 1))))) = (m + (n + (p + (q + (r + (k)))))) + 1 from by omega]; exact List.set_cons_succ ..
theorem cg6 {a : O} {l : Heap} {m n p q r s k : Nat} : (a :: l)[m + (n + (p + (q + (r + (s + (k + 1))))))]? = l[m + (n + (p + (q + (r + (s + (k))))))]? := by
  rw [show m + (n + (p + (q + (r + (s + (k + 1)))))) = (m + (n + (p + (q + (r + (s + (k))))))) + 1 from by omega]; exact List.getElem?_cons_succ
theorem cs6 {a x : O} {l : Heap} {m n p q r s k : Nat} : (a :: l).set (m + (n + (p + (q + (r + (s + (k + 1))))))) x = a :: l.set (m + (n + (p + (q + (r + (s + (k))))))) x := by
  rw [show m + (n + (p + (q + (r + (s + (k + 1)))))) = (m + (n + (p + (q + (r + (s + (k))))))) + 1 from by omega]; exact List.set_cons_succ ..
end Go.Vm
end
section
namespace Go.Vm
set_option linter.unusedVariables false
set_option linter.unusedSimpArgs false
section
variable {F : FuncId → Option FnC} {L : FuncId → List V → V → Prop} {x : V} {g : Bool} {i : (V → Heap → Prop) → Prop} {h : Heap} {K : V → Heap → Prop} {A B : Prop}
theorem QHy : wg (.bool g) g i h K = i K := by simp [wg]
theorem QAN : wg (.bool false) true i h K = K (.tup []) h := by simp [wg]
theorem QBQ : wg (.bool true) false i h K = K (.tup []) h := by simp [wg]
theorem QzA : wgd (.bool g) g i h K = i fun v h' => Ext h h' ∧ K v h' := by simp [wgd]
theorem QBt : wgd (.bool false) true i h K = K (.tup []) h := by simp [wgd]
theorem QHM : wgd (.bool true) false i h K = K (.tup []) h := by simp [wgd]
theorem QIY : wb (.bool true) A B = A := by simp [wb]
theorem QGm : wb (.bool false) A B = B := by simp [wb]
theorem QI {x' : V} (hx : x = x') : wg x g i h K = wg x' g i h K := by rw [hx]
theorem QE {x' : V} (hx : x = x') : wgd x g i h K = wgd x' g i h K := by rw [hx]
theorem QG {x' : V} (hx : x = x') : wb x A B = wb x' A B := by rw [hx]
theorem QF {n n' : Ins} {e : Env} {h' : Heap} (hn : n = n') (hh : h = h') : wi F L n e h K = wi F L n' e h' K := by rw [hn, hh]
theorem Qao {p : Prop} {_ : Decidable p} (h1 : p → wg (.bool (decide p)) g i h K) (h2 : ¬ p → wg (.bool (decide p)) g i h K) : wg (.bool (decide p)) g i h K := by
  by_cases hp : p
  · exact h1 hp
  · exact h2 hp
theorem Qaj {p : Prop} {_ : Decidable p} (h1 : p → wg (.bool (!decide p)) g i h K) (h2 : ¬ p → wg (.bool (!decide p)) g i h K) : wg (.bool (!decide p)) g i h K := by
  by_cases hp : p
  · exact h1 hp
  · exact h2 hp
theorem Qar {b : Bool} (h1 : b = true → wg (.bool b) g i h K) (h2 : b = false → wg (.bool b) g i h K) : wg (.bool b) g i h K := by
  cases b
  · exact h2 rfl
  · exact h1 rfl
theorem Qal {p : Prop} {_ : Decidable p} (h1 : p → wgd (.bool (decide p)) g i h K) (h2 : ¬ p → wgd (.bool (decide p)) g i h K) : wgd (.bool (decide p)) g i h K := by
  by_cases hp : p
  · exact h1 hp
  · exact h2 hp
theorem Qaq {p : Prop} {_ : Decidable p} (h1 : p → wgd (.bool (!decide p)) g i h K) (h2 : ¬ p → wgd (.bool (!decide p)) g i h K) : wgd (.bool (!decide p)) g i h K := by
  by_cases hp : p
  · exact h1 hp
  · exact h2 hp
theorem Qan {b : Bool} (h1 : b = true → wgd (.bool b) g i h K) (h2 : b = false → wgd (.bool b) g i h K) : wgd (.bool b) g i h K := by
  cases b
  · exact h2 rfl
  · exact h1 rfl
theorem Qap {p : Prop} {_ : Decidable p} (h1 : p → wb (.bool (decide p)) A B) (h2 : ¬ p → wb (.bool (decide p)) A B) : wb (.bool (decide p)) A B := by
  by_cases hp : p
  · exact h1 hp
  · exact h2 hp
theorem Qak {p : Prop} {_ : Decidable p} (h1 : p → wb (.bool (!decide p)) A B) (h2 : ¬ p → wb (.bool (!decide p)) A B) : wb (.bool (!decide p)) A B := by
  by_cases hp : p
  · exact h1 hp
  · exact h2 hp
theorem Qas {b : Bool} (h1 : b = true → wb (.bool b) A B) (h2 : b = false → wb (.bool b) A B) : wb (.bool b) A B := by
  cases b
  · exact h2 rfl
  · exact h1 rfl
theorem Qw7 : wg (.tup []) g i h K = K (.tup []) h := by simp [wg]
theorem QxX : wgd (.tup []) g i h K = K (.tup []) h := by simp [wgd]
theorem QD {c : C} {Q : X → Env → Heap → Prop} {e e' : Env} {h' : Heap} (he : e = e') (hh : h = h') : Wl F L c Q e h = Wl F L c Q e' h' := by rw [he, hh]
theorem QJ {f : FuncId} {xs ys : List V} {h' : Heap} (hx : xs = ys) (hh : h = h') : Cf F L f xs h K = Cf F L f ys h' K := by rw [hx, hh]
theorem wcallp {f : FuncId} {fn : FnC} {args : List V} {p : Prop} (hf : F f = some fn) (ha : args.length ≤ fn.ntmps) (he : wc F L fn.body (Qy fn.results K) (Qd args) h = p) (hp : p) : Cf F L f args h K :=
  wcall hf ha (he ▸ hp)
theorem wloopp {c : C} {Q : X → Env → Heap → Prop} {b : (Env → Heap → Prop) → Env → Heap → Prop} (I : Nat → Env → Heap → Prop) (hb : ∀ N e h, wc F L c (seqX N Q) e h = b N e h)
    (hr : ∀ n e h, I n e h → b (fun e' h' => ∃ m, m < n ∧ I m e' h') e h) {n : Nat} {e : Env} {h : Heap} (hi : I n e h) : Wl F L c Q e h :=
  wloop I (fun n e h hi => by rw [hb]; exact hr n e h hi) hi
theorem QFs {k : LK} {a x y : Arg} {e : Env} : wi F L (.mapset k a x y) e h K = (stor (y.get e) = true ∧ match a.get e with
    | .map id => (match h[id]? with
      | some (.map es) => (match Qfh k (x.get e) (y.get e) es with | some es' => K (.tup []) (h.set id (.map es')) | none => False)
      | _ => False)
    | _ => False) := by
  rw [Qyr]
  simp only [Qg]
  cases hs : stor (y.get e)
  · simp
  · simp only [Bool.not_true, Bool.false_eq_true, if_false, true_and]
    cases a.get e <;> try rfl
    rename_i id
    show (match (match h[id]? with | some (O.map es) => (Qfh k (x.get e) (y.get e) es).map fun es' => (V.tup [], h.set id (O.map es')) | _ => none) with | some (v, h') => K v h' | none => False) = _
    split <;> rename_i ho <;> split at ho <;> simp_all
    · obtain ⟨es', h1, h2, h3⟩ := ho
      simp [h1, ← h2, ← h3]
theorem Qxm {k : LK} {z : V} {ok : Bool} {x y : Arg} {e : Env} : wi F L (.lookup k z ok x y) e h K = (match x.get e with
    | .nmap => K (if ok then .tup [z, .bool false] else z) h
    | .map id => (match h[id]? with
      | some (.map es) => (match QbE k (y.get e) es 0 with
        | some (some (_, v)) => K (if ok then .tup [v, .bool true] else v) h
        | some none => K (if ok then .tup [z, .bool false] else z) h
        | none => False)
      | _ => False)
    | _ => False) := by
  rw [QIv]
  simp only [Qg]
  cases x.get e <;> try rfl
  rename_i id
  simp only
  cases h[id]? <;> try rfl
  rename_i o
  cases o <;> try rfl
  rename_i es
  simp only
  cases QbE k (y.get e) es 0 <;> try rfl
  rename_i r
  cases r <;> rfl
theorem QAB {s : Nat} {x : Arg} {lo hi mx : Option Arg} {e : Env} : wi F L (.slsl s x lo hi mx) e h K = (match Qi e lo, Qi e hi, Qi e mx with
    | some l, some r, some m => (match QfP s (x.get e) (l.getD 0) r m with | some v => K v h | none => False)
    | _, _, _ => False) := by
  rw [QBJ]
  simp only [Qg]
  cases Qi e lo <;> try rfl
  cases Qi e hi <;> try rfl
  cases Qi e mx <;> try rfl
  rename_i l r m
  simp only [Option.bind_some]
  cases QfP s (x.get e) (l.getD 0) r m <;> rfl
theorem ti1 {n : Nat} : ((n : Int) + 1).toNat = n + 1 := by omega
theorem ti2 {n : Nat} : (0 ≤ (n : Int) + 1) = True := eq_true (by omega)
theorem ti3 {n : Nat} : ((n : Int) + 2).toNat = n + 2 := by omega
theorem ti4 {n : Nat} : (0 ≤ (n : Int) + 2) = True := eq_true (by omega)
theorem Qz5 {a b : Bool} : eqV .bool (.bool a) (.bool b) = some (a == b) := rfl
theorem QwA : eqV (.nil 0) .nsl .nsl = some true := rfl
theorem QCv {s : Nat} {o : Own} {es : List V} : eqV (.nil 0) .nsl (.sl s o es) = some false := rfl
theorem QAo {s i l : Nat} : eqV (.nil 0) .nsl (.hsl s i l) = some false := rfl
theorem QEx {s : Nat} {o : Own} {es : List V} : eqV (.nil 0) (.sl s o es) .nsl = some false := rfl
theorem Qzi {s i l : Nat} : eqV (.nil 0) (.hsl s i l) .nsl = some false := rfl
theorem QxW : eqV (.nil 2) .nfn .nfn = some true := rfl
theorem QBy {f : FuncId} {c : List V} : eqV (.nil 2) (.fn f c) .nfn = some false := rfl
theorem QHf : eqV (.nil 3) .nilp .nilp = some true := rfl
theorem QAk {i o : Nat} : eqV (.nil 3) (.ptr i o) .nilp = some false := rfl
theorem QyF {e : Env} : List.mapM (Qc h e) [] = some [] := rfl
theorem QJE {e : Env} {r : Res} {rs : List Res} : List.mapM (Qc h e) (r :: rs) = (match Qc h e r with | some x => (match List.mapM (Qc h e) rs with | some xs => some (x :: xs) | none => none) | none => none) := by
  rw [List.mapM_cons]
  cases Qc h e r <;> try rfl
  cases List.mapM (Qc h e) rs <;> rfl
end
end Go.Vm
end
section
namespace Go.Vm
set_option linter.defProp false
def vm := (And.intro (And.intro (And.intro (And.intro (And.intro (And.intro (And.intro @cg1 @cg2) (And.intro @cg3 @cg4)) (And.intro (And.intro @cg5 @cg6) (And.intro @cs1 @cs2))) (And.intro (And.intro (And.intro @cs3 @cs4) (And.intro @cs5 @cs6)) (And.intro (And.intro @Qw7 @QxX) (And.intro @QHy @QAN)))) (And.intro (And.intro (And.intro (And.intro @QBQ @QzA) (And.intro @QBt @QHM)) (And.intro (And.intro @QIY @QGm) (And.intro @QwL @QF4))) (And.intro (And.intro (And.intro @QJU @QwX) (And.intro @QES @QAC)) (And.intro (And.intro @QDM @QyN) (And.intro @QE5 @Qxn))))) (And.intro (And.intro (And.intro (And.intro (And.intro @QJb @QGX) (And.intro @QDF @QCl)) (And.intro (And.intro @QCN @Qye) (And.intro @QCP @QxI))) (And.intro (And.intro (And.intro @QGI @QDD) (And.intro @QGa @Qym)) (And.intro (And.intro @QHh @Qx7) (And.intro @QD3 @QEG)))) (And.intro (And.intro (And.intro (And.intro @QFe @QJJ) (And.intro @QzO @QoM)) (And.intro (And.intro @QGe @Qw0) (And.intro @QGE @QyV))) (And.intro (And.intro (And.intro @QCc @Qz3) (And.intro @QJo @QIS)) (And.intro (And.intro @QJQ @QFm) (And.intro @QAa (And.intro @QAK @QDb))))))) (And.intro (And.intro (And.intro (And.intro (And.intro (And.intro @QF0 @Qvt) (And.intro @QAG @QFW)) (And.intro (And.intro @QA7 @QEl) (And.intro @QBk @Qzq))) (And.intro (And.intro (And.intro @QIp @QCH) (And.intro @QGT @QDg)) (And.intro (And.intro @QyM @QJ8) (And.intro @Qzv @QHP)))) (And.intro (And.intro (And.intro (And.intro @QCm @QGC) (And.intro @QIP @QwZ)) (And.intro (And.intro @QIl @QDx) (And.intro @QEv @Qwu))) (And.intro (And.intro (And.intro @Qyv @QEk) (And.intro @QlM @QzS)) (And.intro (And.intro @Qd7 @Qpu) (And.intro @QCd @QFf))))) (And.intro (And.intro (And.intro (And.intro (And.intro @Qs8 @QHS) (And.intro @QAT @QFb)) (And.intro (And.intro @QGy @QwF) (And.intro @Qxd @mn2))) (And.intro (And.intro (And.intro @mx2 @QD5) (And.intro @QIj @QBD)) (And.intro (And.intro @QyF @QJE) (And.intro @Qz5 @QwA)))) (And.intro (And.intro (And.intro (And.intro @QCv @QAo) (And.intro @QEx @Qzi)) (And.intro (And.intro @QxW @QBy) (And.intro @QHf @QAk))) (And.intro (And.intro (And.intro @QCq @QB4) (And.intro @QFs @Qxm)) (And.intro (And.intro @QAB @ti1) (And.intro @ti2 (And.intro @ti3 @ti4))))))))
def vl := (And.intro (And.intro (And.intro (And.intro (And.intro @Nat.add_zero (And.intro @Nat.add_assoc @Int.cast_ofNat_Int)) (And.intro @List.map_cons.{0,0} (And.intro @List.map_nil.{0,0} @List.getD_cons_zero.{0}))) (And.intro (And.intro @List.getD_cons_succ.{0} (And.intro @List.getD_nil.{0} @Option.map_some.{0,0})) (And.intro (And.intro @Option.map_none.{0,0} @Option.bind_some.{0,0}) (And.intro @Option.getD_some.{0} @Option.getD_none.{0})))) (And.intro (And.intro (And.intro @List.getElem?_cons_succ.{0} (And.intro @List.getElem?_cons_zero.{0} @List.getElem?_nil.{0})) (And.intro (And.intro @exists_eq_left.{1} @exists_eq_left'.{1}) (And.intro @Option.some.injEq.{0} @V.bool.injEq))) (And.intro (And.intro @true_and (And.intro @and_true @true_implies)) (And.intro (And.intro @false_implies @implies_true.{1}) (And.intro @List.length_append.{0} @List.length_map.{0,0}))))) (And.intro (And.intro (And.intro (And.intro @List.length_cons.{0} (And.intro @List.length_nil.{0} @Int.toNat_natCast)) (And.intro (And.intro @Nat.mul_one @Nat.zero_add) (And.intro @Int.natCast_nonneg @List.length_set.{0}))) (And.intro (And.intro @decide_true (And.intro @decide_false @List.set_cons_zero.{0})) (And.intro (And.intro @List.set_cons_succ.{0} @List.append_assoc.{0}) (And.intro @List.cons_append.{0} @List.nil_append.{0})))) (And.intro (And.intro (And.intro @List.all_cons.{0} (And.intro @List.all_nil.{0} @Bool.and_true)) (And.intro (And.intro @Bool.true_and @decide_eq_true_eq) (And.intro @List.drop_succ_cons.{0} @List.drop_zero.{0}))) (And.intro (And.intro @List.take_succ_cons.{0} (And.intro @List.take_zero.{0} @and_self)) (And.intro (And.intro @Nat.le_refl @Bool.not_true) (And.intro @Bool.not_false @Bool.false_eq_true))))))
end Go.Vm
end
