/- The small machine is sound for the model: a run of it is a run of the program. -/
import Derived.Test.YtfihnnebffkbfaaDoorVmInsI
namespace Go.Vm
set_option linter.unusedVariables false
set_option linter.unusedSimpArgs false

section
variable {P : Program} {B : Nat} {G : Gh} {h h' : Heap} {w w0 : World} {n : Nat} {e : Env} {a : Act} {o : Oper} {v : V}

/-- An instruction that calls nothing. -/
theorem ins_sound {i : Ins} (hc : insC P n o = some i) (hs : stepI i e h = some (v, h')) (he : EnvRel B G w n e a.tmps) (hr : Rel B G h w) : Outc P B G h w o a v h' := by
  cases hop : o.op with
  | move x => exact o_move (.inl hop) hc hs he hr
  | assign x => exact o_move (.inr hop) hc hs he hr
  | pick c x y => exact o_pick hop hc hs he hr
  | alloc t => exact o_alloc hop hc hs he hr
  | box t x => exact o_box hop hc hs he hr
  | build t ps => exact o_build hop hc hs he hr
  | buildSlice t l ps => exact o_buildSlice hop hc hs he hr
  | insert t m k x => exact o_mapset (.inr hop) hc hs he hr
  | load t x => exact o_load hop hc hs he hr
  | store t x y => exact o_store hop hc hs he hr
  | nilCheck x => exact o_nilck hop hc hs he hr
  | binOp op t x y yt => exact o_binOp hop hc hs he hr
  | unOp op t x => exact o_unOp hop hc hs he hr
  | convert t u x =>
    by_cases h1 : ∃ g, i = .toStr g
    · obtain ⟨g, rfl⟩ := h1; exact o_toStr hop hc hs he hr
    · by_cases h2 : ∃ g, i = .toBytes g
      · obtain ⟨g, rfl⟩ := h2; exact o_toBytes hop hc hs he hr
      · by_cases h3 : ∃ g, i = .mark g
        · obtain ⟨g, rfl⟩ := h3; exact o_mark hop hc hs he hr
        · exact o_convert hop hc hs he hr (fun g hg => h1 ⟨g, hg⟩) (fun g hg => h2 ⟨g, hg⟩) (fun g hg => h3 ⟨g, hg⟩)
  | makeFunc fn fs cs => exact o_makeFunc hop hc hs he hr
  | makeMap t r => exact o_makeMap hop hc hs he hr
  | makeSlice t l c => exact o_makeSlice hop hc hs he hr
  | slice t x lo hi mx => exact o_slice hop hc hs he hr
  | fieldAddr t x f => exact o_fieldAddr hop hc hs he hr
  | field t x f => exact o_field hop hc hs he hr
  | indexAddr t x j => exact o_indexAddr hop hc hs he hr
  | index t x j => exact o_index hop hc hs he hr
  | lookup t m k ok => exact o_lookup hop hc hs he hr
  | mapUpdate t m k x => exact o_mapset (.inl hop) hc hs he hr
  | extract x k => exact o_extract hop hc hs he hr
  | call c =>
    cases hcal : c.callee with
    | value f =>
      exfalso
      cases f <;> simp [insC, hop, callC, hcal] at hc
      · obtain ⟨_, gs, _, rfl⟩ := hc; simp [stepI] at hs
      · obtain ⟨_, gs, _, rfl⟩ := hc; simp [stepI] at hs
    | invoke r m => simp [insC, hop, callC, hcal] at hc
    | builtin b =>
      cases b with
      | append => exact o_append hop hcal hc hs he hr
      | len => exact o_len hop hcal hc hs he hr
      | copy => exact o_copy hop hcal hc hs he hr
      | min => exact o_min hop hcal hc hs he hr
      | max => exact o_max hop hcal hc hs he hr
      | clear => exact o_clear hop hcal hc hs he hr
      | _ => simp [insC, hop, callC, hcal] at hc
  | _ => simp [insC, hop] at hc

theorem isFn_run {f : FuncId} (hf : isFn P f = true) (vs : Array Value) : (callFunc f vs).run P w = .ok (.enter f vs) w := by
  unfold isFn at hf
  split at hf <;> first | (cases hf; done) | skip
  rename_i fn hfn
  simp only [Bool.and_eq_true, bne_iff_ne, ne_eq] at hf
  obtain ⟨hb, hn⟩ := hf
  have hb' : fn.body.isNone = false := by cases hbb : fn.body <;> simp_all
  have hb2 : fn.body ≠ none := by intro hh; rw [hh] at hb; cases hb
  simp [callFunc, hfn, hn, hb2]

theorem ins_call {i : Ins} (hc : insC P n o = some i) (hi : (∃ f xs, i = .call f xs) ∨ ∃ g xs, i = .callv g xs) : ∃ c, o.op = .call c := by
  cases hop : o.op <;> first | exact ⟨_, rfl⟩ | skip
  all_goals (exfalso; simp only [insC, hop] at hc)
  all_goals (repeat' (first | (cases hc; done) | contradiction | (obtain ⟨_, _, rfl⟩ := map_some hc; rcases hi with ⟨_, _, hh⟩ | ⟨_, _, hh⟩ <;> cases hh; done) | (injection hc with hc; subst hc; rcases hi with ⟨_, _, hh⟩ | ⟨_, _, hh⟩ <;> cases hh; done) | split at hc))

/-- A call. -/
theorem call_sound {i : Ins} {f : FuncId} {args : List V} (hc : insC P n o = some i) (hs : callI i e = some (f, args)) (hf : isFn P f = true) (he : EnvRel B G w n e a.tmps) :
    ∃ vs, (execOp a.eval o).run P w = .ok (.enter f vs.toArray) w ∧ Rvs B G w args vs := by
  obtain ⟨c, hop⟩ : ∃ c, o.op = .call c := ins_call hc (by
    cases i <;> simp [callI] at hs
    · exact .inl ⟨_, _, rfl⟩
    · exact .inr ⟨_, _, rfl⟩)
  cases hcal : c.callee with
  | value g =>
    cases g with
    | func f' =>
      simp only [insC, hop, callC, hcal] at hc
      split at hc <;> first | (cases hc; done) | skip
      obtain ⟨gs, hg, rfl⟩ := map_some hc
      simp [callI] at hs
      obtain ⟨rfl, rfl⟩ := hs
      refine ⟨c.args.toList.map a.eval, ?_, argsC_rv he hg⟩
      have h1 : (Array.map a.eval c.args) = (c.args.toList.map a.eval).toArray := by apply Array.ext'; simp
      simp [execOp, hop, resolve, hcal, Act.eval, Deferred.ofValue, invoke, isFn_run hf, h1]
    | tmp t =>
      simp only [insC, hop, callC, hcal] at hc
      split at hc <;> first | (cases hc; done) | skip
      rename_i ht
      obtain ⟨gs, hg, rfl⟩ := map_some hc
      simp only [callI] at hs
      split at hs <;> first | (cases hs; done) | skip
      rename_i f' caps hfe
      injection hs with hs
      injection hs with h1 h2; subst h1; subst h2
      have r := he.2 t ht
      simp only [Arg.get] at hfe
      rw [hfe] at r
      have hev : a.eval (.tmp t) = a.tmps.getD t undef := rfl
      generalize a.tmps.getD t undef = q at r hev
      cases r with
      | fn hl hrr =>
        rename_i cvs
        refine ⟨c.args.toList.map a.eval ++ cvs, ?_, rvs_append (argsC_rv he hg) ⟨hl, hrr⟩⟩
        have h1 : (Array.map a.eval c.args) ++ cvs.toArray = (c.args.toList.map a.eval ++ cvs).toArray := by apply Array.ext'; simp
        simp [execOp, hop, resolve, hcal, hev, Deferred.ofValue, invoke, isFn_run hf, h1]
    | const v => simp [insC, hop, callC, hcal] at hc
    | global g => simp [insC, hop, callC, hcal] at hc
  | invoke r m => simp [insC, hop, callC, hcal] at hc
  | builtin b =>
    exfalso
    have nc : ∀ i, callC P n c = some i → (∀ f xs, i ≠ .call f xs) ∧ ∀ g xs, i ≠ .callv g xs := by
      intro i hi
      simp only [callC, hcal] at hi
      split at hi
      all_goals (first | (cases hi; done) | skip)
      all_goals (repeat' (first | (cases hi; done) | (obtain ⟨_, _, rfl⟩ := map_some hi; exact ⟨(fun _ _ hh => by cases hh), (fun _ _ hh => by cases hh)⟩) | (injection hi with hi; subst hi; exact ⟨(fun _ _ hh => by cases hh), (fun _ _ hh => by cases hh)⟩) | split at hi))
    have := nc i (by simpa [insC, hop] using hc)
    cases i <;> simp [callI] at hs
    · exact this.1 _ _ rfl
    · exact this.2 _ _ rfl

/-! ### Runs -/

def Base (w0 : World) (B : Nat) (w : World) : Prop := w0.heap.size ≤ B ∧ RowKit.Below B w0 w

theorem Base.evo {G' : Gh} {w' : World} (hb : Base w0 B w) (hr : Rel B G h w) (he : Evo B G h w G' h' w') : Base w0 B w' := by
  obtain ⟨h0, hb⟩ := hb
  refine ⟨h0, he.os.trans hb.os, he.tape.trans hb.tape, he.output.trans hb.output, Nat.le_trans hb.size he.size, fun k hk => ?_⟩
  have hlt : k < w.heap.size := Nat.lt_of_lt_of_le hk hr.wf.base
  refine (he.frame k hlt ?_).trans (hb.block k hk)
  rintro (⟨id, p, e, rfl⟩ | ⟨id, t, e, rfl⟩)
  · have := (hr.wf.blk id p e).1; omega
  · have := (hr.wf.tip id t e).1; omega

/-- What a call comes to. -/
def CallGood (P : Program) (w0 : World) (f : FuncId) (args : List V) (h : Heap) (v : V) (h' : Heap) : Prop :=
  ∀ B G w vs, Rel B G h w → Base w0 B w → Rvs B G w args vs → Calls P f vs.toArray w fun en w' => ∃ G' val, en = .returned val ∧ Rv B G' w' v val ∧ Rel B G' h' w' ∧ Evo B G h w G' h' w'

/-- A function of the library that sorts the texts of a box. -/
def SortGood (P : Program) (w0 : World) (f : FuncId) : Prop :=
  ∀ (id : Nat) (ss : List (List UInt8)) (h : Heap), h[id]? = some (.box (strsV ss)) → ss.length < 4611686018427387904 → CallGood P w0 f [.hsl 1 id ss.length] h (.tup []) (h.set id (.box (strsV (sortS ss))))
def SortAt (P : Program) (w0 : World) (L : FuncId → List V → V → Prop) : Prop := ∀ f, L f sortTag (.tup []) → isFn P f = true ∧ SortGood P w0 f
theorem rv_put {d : Option Tmp} {tmps : Array Value} {x : V} {u : Value} {ds : List Deferred} (he : EnvRel B G w n e tmps) (hd : dstOk n d = true) (hx : Rv B G w x u) :
    EnvRel B G w n (put e d x) ((({ tmps := tmps, defers := ds } : Act).put d u).tmps) := by
  cases d with
  | none => exact he
  | some d =>
    simp only [dstOk, decide_eq_true_eq] at hd
    refine ⟨by simp [Act.put]; exact he.1, fun t ht => ?_⟩
    simp only [put, upd, Act.put]
    by_cases htd : t = d
    · subst htd
      rw [if_pos rfl]
      have : (tmps.setIfInBounds t u).getD t undef = u := by simp [he.1, hd]
      rw [this]; exact hx
    · rw [if_neg htd]
      have : (tmps.setIfInBounds d u).getD t undef = tmps.getD t undef := by
        simp [Array.getElem?_setIfInBounds_ne (Ne.symm htd)]
      rw [this]; exact he.2 t ht

theorem EnvRel.mono {G' : Gh} {w' : World} {tmps : Array Value} (hle : Le B G w G' w') (he : EnvRel B G w n e tmps) : EnvRel B G' w' n e tmps :=
  ⟨he.1, fun t ht => (he.2 t ht).mono hle⟩

theorem put_defers (a : Act) (d : Option Tmp) (u : Value) : (a.put d u).defers = a.defers := by cases d <;> rfl

/-- Is the operation wanted, as the machine has it? -/
theorem wanted_eq {ops : Array Oper} {g : Option (Nat × Bool)} (hg : guardC ops n o.guard = some g) (he : EnvRel B G w n e a.tmps) {d : Option Nat} {i : Ins} :
    Region.wanted o (yielded ops a.tmps) = OpC.wanted { dst := d, guard := g, ins := i } e := by
  unfold guardC at hg
  unfold Region.wanted OpC.wanted
  cases hog : o.guard with
  | none => simp [hog] at hg; subst hg; rfl
  | some jb =>
    obtain ⟨j, b⟩ := jb
    simp only [hog] at hg
    split at hg <;> first | (cases hg; done) | skip
    rename_i t ht
    split at hg <;> first | (cases hg; done) | skip
    rename_i hlt
    injection hg with hg; subst hg
    have r := he.2 t hlt
    have hget : a.tmps[t]? = some (a.tmps.getD t undef) := by
      have : t < a.tmps.size := by rw [he.1]; exact hlt
      simp [this]
    have hy : yielded ops a.tmps j = match a.tmps.getD t undef with | .bool b => some b | _ => none := by
      simp only [yielded, ht, Option.bind_some, hget]
      cases a.tmps.getD t undef <;> rfl
    simp only [hy]
    generalize a.tmps.getD t undef = q at r
    generalize e t = x at r
    cases r <;> simp

/-- The runs of an operation that draws its order, step by step. -/
def DGood (P : Program) (w0 : World) : List OpC → Env → Heap → Env → Heap → Prop
  | [], e, h, e', h' => e' = e ∧ h' = h
  | o :: l, e, h, e', h' =>
    (o.wanted e = false ∧ DGood P w0 l (put e o.dst (.tup [])) h e' h') ∨
    (o.wanted e = true ∧ ∃ v h1, stepI o.ins e h = some (v, h1) ∧ Ext h h1 ∧ DGood P w0 l (put e o.dst v) h1 e' h') ∨
    (o.wanted e = true ∧ ∃ f args v h1, callI o.ins e = some (f, args) ∧ isFn P f = true ∧ Ext h h1 ∧ CallGood P w0 f args h v h1 ∧ DGood P w0 l (put e o.dst v) h1 e' h')

def MGood (P : Program) (w0 : World) (fl : List (Nat × Bool × Nat × Arg)) : List OpC → Env → Heap → Env → Heap → Prop
  | [], e, h, e', h' => e' = e ∧ h' = h
  | o :: l, e, h, e', h' =>
    (o.wanted e = true ∧ ∃ v h1, stepI o.ins e h = some (v, h1) ∧ (quiet o.ins = true ∨ flC fl (put e o.dst v) h1) ∧ MGood P w0 fl l (put e o.dst v) h1 e' h') ∨
    (o.wanted e = true ∧ ∃ f args v h1, callI o.ins e = some (f, args) ∧ isFn P f = true ∧ flC fl (put e o.dst v) h1 ∧ CallGood P w0 f args h v h1 ∧ MGood P w0 fl l (put e o.dst v) h1 e' h')

def X.real : X → Exit
  | .norm => .normal
  | .exit i => .exit i
  | .ret => .ret

/-- What is asked of what stands behind. -/
def Post (B : Nat) (G : Gh) (h : Heap) (w : World) (ds : List Deferred) (n : Nat) (e' : Env) (h' : Heap) (K : Act → World → Prop) : Prop :=
  ∀ G' a' w', Rel B G' h' w' → Evo B G h w G' h' w' → EnvRel B G' w' n e' a'.tmps → a'.defers = ds → K a' w'

/-- A loop's rounds from here on. -/
def LoopWp (P : Program) (c : Code) (Q : Exit → Act → World → Prop) (a : Act) (w : World) : Prop :=
  ∀ (b : Frame) (k : List Item) (cs : List Frame), ∃ e a' w', Q e a' w' ∧ Arrives P (lone (b.at a (.code c :: .inLoop c :: k)) cs w) b k cs e a' w'

theorem loop_of {c : Code} {Q : Exit → Act → World → Prop} (hl : LoopWp P c Q a w) : (Code.loop c).wp P Q a w :=
  fun b k cs => let ⟨e, a', w', hq, harr⟩ := hl b k cs; ⟨e, a', w', hq, .of_steps (.one step_loop) harr⟩

theorem loop_round {c : Code} {Q : Exit → Act → World → Prop} (hb : c.wp P (Exit.then (LoopWp P c Q) Q) a w) : LoopWp P c Q a w := by
  intro b k cs
  obtain ⟨e, a₁, w₁, hq, harr⟩ := hb b (.inLoop c :: k) cs
  cases e with
  | normal =>
    obtain ⟨e₂, a₂, w₂, hq₂, harr₂⟩ := hq b k cs
    exact ⟨e₂, a₂, w₂, hq₂, .of_steps (Steps.trans harr (.one step_inLoop)) harr₂⟩
  | exit id => exact ⟨_, a₁, w₁, hq, .pass (x := .inLoop c) rfl (fun _ _ => .inl (by simp)) harr⟩
  | goto l => exact ⟨_, a₁, w₁, hq, .pass (x := .inLoop c) rfl (fun _ _ => .inl (by simp)) harr⟩
  | ret => exact ⟨_, a₁, w₁, hq, .pass (x := .inLoop c) rfl (fun _ _ => .inl (by simp)) harr⟩
  | panic ch => exact ⟨_, a₁, w₁, hq, .pass (x := .inLoop c) rfl (fun _ _ => .inl (by simp)) harr⟩
  | outgrown => exact ⟨_, a₁, w₁, hq, .pass (x := .inLoop c) rfl (fun _ _ => .inl (by simp)) harr⟩

def CodeGood (P : Program) (w0 : World) (c : C) (e : Env) (h : Heap) (x : X) (e' : Env) (h' : Heap) : Prop :=
  ∀ n B G w a, Rel B G h w → Base w0 B w → EnvRel B G w n e a.tmps →
    (∀ code Q, codeC P n code = some c → Post B G h w a.defers n e' h' (Q x.real) → code.wp P Q a w) ∧
    (∀ cb code Q, c = .loop cb → codeC P n code = some cb → Post B G h w a.defers n e' h' (Q x.real) → LoopWp P code Q a w)

def Good (P : Program) (w0 : World) : Task → Prop
  | .ops l e h e' h' => ∀ n B G w a (ops : Array Oper) (os : List Oper) (k : Nat) Q, opsC P ops n os = some l → (∀ j, os[j]? = ops[k + j]?) → Rel B G h w → Base w0 B w → EnvRel B G w n e a.tmps →
      Post B G h w a.defers n e' h' (Q .normal) → wpOps P ops Q (List.range' k l.length) a w
  | .dops l e h e' h' => DGood P w0 l e h e' h'
  | .mops fl l e h e' h' => MGood P w0 fl l e h e' h'
  | .code c e h x e' h' => CodeGood P w0 c e h x e' h'
  | .call f args h v h' => isFn P f = true ∧ CallGood P w0 f args h v h'

theorem Post.evo {h1 : Heap} {G1 : Gh} {w1 : World} {ds ds' : List Deferred} {e' : Env} {K : Act → World → Prop} (hp : Post B G h w ds n e' h' K) (he : Evo B G h w G1 h1 w1) (hd : ds' = ds) : Post B G1 h1 w1 ds' n e' h' K :=
  fun G' a' w' hr hev hen hdd => hp G' a' w' hr (he.trans hev) hen (hdd.trans hd)

theorem opsC_cons {ops : Array Oper} {os : List Oper} {oc : OpC} {l : List OpC} (hc : opsC P ops n os = some (oc :: l)) :
    ∃ o r g i, os = o :: r ∧ opsC P ops n r = some l ∧ guardC ops n o.guard = some g ∧ insC P n o = some i ∧ dstOk n o.dst = true ∧ oc = { dst := o.dst, guard := g, ins := i } := by
  cases os with
  | nil => simp [opsC] at hc
  | cons o r =>
    simp only [opsC] at hc
    split at hc <;> first | (cases hc; done) | skip
    rename_i x xs e1 e2
    injection hc with hc
    injection hc with h1 h2; subst h1; subst h2
    simp only [opC] at e1
    split at e1 <;> first | (cases e1; done) | skip
    rename_i g i e3 e4
    split at e1 <;> first | (cases e1; done) | skip
    rename_i hd
    injection e1 with e1
    exact ⟨o, r, g, i, rfl, e2, e3, e4, hd, e1.symm⟩

theorem wp_one {ops : Array Oper} {Q : Exit → Act → World → Prop} {k m : Nat} {oo : Oper} (hk : ops[k]? = some oo) (a : Act) (w : World) :
    wpOps P ops Q (List.range' k (m + 1)) a w = if Region.wanted oo (yielded ops a.tmps) then oo.wp P a w (wpOps P ops Q (List.range' (k + 1) m)) Q ∨ (oo.asks P a w ∧ LetsOut Q) else wpOps P ops Q (List.range' (k + 1) m) (a.put oo.dst undef) w := by
  simp [List.range'_succ, wpOps, hk]

/-- One instruction, then what follows. -/
theorem wp_ins {i : Ins} {next : Act → World → Prop} {Q : Exit → Act → World → Prop} (hi : insC P n o = some i) (hd : dstOk n o.dst = true) (hs : stepI i e h = some (v, h')) (he : EnvRel B G w n e a.tmps) (hr : Rel B G h w)
    (hn : ∀ G' a' w', Rel B G' h' w' → Evo B G h w G' h' w' → EnvRel B G' w' n (put e o.dst v) a'.tmps → a'.defers = a.defers → next a' w') : o.wp P a w next Q := by
  obtain ⟨nx, w', G', val, hrun, hnx, hv, hrel, hevo⟩ := ins_sound hi hs he hr
  have hen := rv_put (ds := a.defers) (he.mono hevo.le) hd hv
  unfold Oper.wp
  rw [hrun]
  rcases hnx with rfl | ⟨rfl, rfl⟩
  · exact hn G' _ w' hrel hevo hen (put_defers _ _ _)
  · exact hn G' _ w' hrel hevo hen (put_defers _ _ _)

theorem wp_call {i : Ins} {f : FuncId} {args : List V} {next : Act → World → Prop} {Q : Exit → Act → World → Prop} (hi : insC P n o = some i) (hd : dstOk n o.dst = true) (hs : callI i e = some (f, args)) (hf : isFn P f = true) (hg : CallGood P w0 f args h v h')
    (he : EnvRel B G w n e a.tmps) (hr : Rel B G h w) (hb : Base w0 B w)
    (hn : ∀ G' a' w', Rel B G' h' w' → Evo B G h w G' h' w' → EnvRel B G' w' n (put e o.dst v) a'.tmps → a'.defers = a.defers → next a' w') : o.wp P a w next Q := by
  obtain ⟨vs, hrun, hvs⟩ := call_sound hi hs hf he
  unfold Oper.wp
  rw [hrun]
  refine (hg B G w vs hr hb hvs).mono fun en w' hpost => ?_
  obtain ⟨G', val, rfl, hv, hrel, hevo⟩ := hpost
  exact hn G' _ w' hrel hevo (rv_put (ds := a.defers) (he.mono hevo.le) hd hv) (put_defers _ _ _)

theorem enter_rel {args : List V} {vs : List Value} {m : Nat} (hv : Rvs B G w args vs) (hl : args.length ≤ m) : EnvRel B G w m (enterE args) (vs.toArray ++ Array.replicate (m - vs.toArray.size) undef) := by
  refine ⟨by simp [hv.1]; omega, fun t ht => ?_⟩
  simp only [enterE]
  by_cases htl : t < args.length
  · have h2 : t < vs.length := by rw [hv.1]; exact htl
    have := hv.2 t args[t] vs[t] (List.getElem?_eq_getElem htl) (List.getElem?_eq_getElem h2)
    rw [List.getD_eq_getElem?_getD, List.getElem?_eq_getElem htl]
    have h3 : (vs.toArray ++ Array.replicate (m - vs.toArray.size) undef).getD t undef = vs[t] := by
      rw [Array.getD_eq_getD_getElem?, Array.getElem?_append_left (by simpa using h2)]
      simp [h2]
    rw [h3]; exact this
  · rw [List.getD_eq_getElem?_getD, List.getElem?_eq_none (by omega)]
    have h3 : (vs.toArray ++ Array.replicate (m - vs.toArray.size) undef).getD t undef = undef := by
      rw [Array.getD_eq_getD_getElem?, Array.getElem?_append_right (by simp [hv.1]; omega)]
      cases hq : (Array.replicate (m - vs.toArray.size) undef)[t - vs.toArray.size]? with
      | none => rfl
      | some q =>
        have := Array.getElem?_eq_some_iff.1 hq
        obtain ⟨h4, h5⟩ := this
        simp at h5; simp [h5]
    rw [h3]; exact rv_undef

def resRun (tmps : Array Value) : ResultVar → Sem Value
  | .tmp t => pure (tmps.getD t undef)
  | .cell a t => do loadVar t (← asAddr (tmps.getD a undef))

theorem results_eq (fn : Func) (tmps : Array Value) : results fn tmps = (fn.results.mapM (resRun tmps) >>= fun vs => pure (if h : vs.size = 1 then vs[0] else .tuple vs)) := by
  unfold results
  refine congrArg (fun f : ResultVar → Sem Value => (fn.results.mapM f >>= fun vs => pure (if h : vs.size = 1 then vs[0] else .tuple vs))) (funext fun r => ?_)
  cases r <;> rfl

theorem res_run {r : ResultVar} {rc : Res} {x : V} {tmps : Array Value} (hc : resC P n r = some rc) (hx : resV h e rc = some x) (he : EnvRel B G w n e tmps) (hr : Rel B G h w) :
    ∃ u, (resRun tmps r).run P w = .ok u w ∧ Rv B G w x u := by
  cases r with
  | tmp t =>
    simp only [resC] at hc
    split at hc <;> first | (cases hc; done) | skip
    rename_i ht
    injection hc with hc; subst hc
    simp [resV] at hx; subst hx
    exact ⟨_, rfl, he.2 t ht⟩
  | cell t ty =>
    simp only [resC] at hc
    split at hc <;> first | (cases hc; done) | skip
    rename_i g s e1 e2
    split at hc <;> first | (cases hc; done) | skip
    rename_i ht
    injection hc with hc; subst hc
    simp only [resV] at hx
    obtain ⟨ad, z, h1, h2, h3⟩ := loadV_run e1 e2 hr hx (he.2 t ht)
    exact ⟨z, by simp only [resRun, Sem.run_bind]; rw [h1]; simp [asAddr, h2], h3⟩

theorem ress_run {tmps : Array Value} (he : EnvRel B G w n e tmps) (hr : Rel B G h w) : ∀ {rs : List ResultVar} {rcs : List Res} {xs : List V}, ressC P n rs = some rcs → rcs.mapM (resV h e) = some xs →
    rcs.length = rs.length ∧ xs.length = rcs.length ∧ ∃ us, (rs.mapM (resRun tmps)).run P w = .ok us w ∧ Rvs B G w xs us
  | [], rcs, xs, hc, hx => by
    simp [ressC] at hc; subst hc
    simp at hx; subst hx
    exact ⟨rfl, rfl, [], by simp, rvs_nil⟩
  | r :: rs, rcs, xs, hc, hx => by
    simp only [ressC] at hc
    split at hc <;> first | (cases hc; done) | skip
    rename_i rc rcs' e1 e2
    injection hc with hc; subst hc
    simp only [List.mapM_cons] at hx
    cases ex : resV h e rc with
    | none => simp [ex] at hx
    | some x =>
      cases ey : rcs'.mapM (resV h e) with
      | none => simp [ex, ey] at hx
      | some ys =>
        simp [ex, ey] at hx
        subst hx
        obtain ⟨u, hu, hru⟩ := res_run e1 ex he hr
        obtain ⟨h1, h2, us, hus, hrs⟩ := ress_run he hr e2 ey
        refine ⟨by simp [h1], by simp [h2], u :: us, ?_, rvs_cons hru hrs⟩
        simp only [List.mapM_cons, Sem.run_bind, hu, hus, Result.andThen_ok, Sem.run_pure]

theorem results_run {fn : Func} {rcs : List Res} {x : V} {tmps : Array Value} (he : EnvRel B G w n e tmps) (hr : Rel B G h w) (hc : ressC P n fn.results.toList = some rcs) (hx : resultsV h e rcs = some x) :
    ∃ u, (results fn tmps).run P w = .ok u w ∧ Rv B G w x u := by
  have hm : ∀ {us : List Value}, (fn.results.toList.mapM (resRun tmps)).run P w = .ok us w →
      (results fn tmps).run P w = .ok (if h : us.toArray.size = 1 then us.toArray[0] else .tuple us.toArray) w := by
    intro us hus
    rw [results_eq, Array.mapM_eq_mapM_toList]
    simp only [Sem.run_bind, Sem.run_map, hus, Result.andThen_ok, Sem.run_pure]
  unfold resultsV at hx
  split at hx
  · rename_i r
    obtain ⟨_, _, us, hus, hrs⟩ := ress_run (xs := [x]) he hr hc (by simp [List.mapM_cons, hx])
    obtain ⟨u, rfl⟩ := List.length_eq_one_iff.1 (show us.length = 1 by simpa using hrs.1)
    exact ⟨u, by rw [hm hus]; simp, hrs.2 0 x u rfl rfl⟩
  · rename_i hne
    obtain ⟨xs, hxs, rfl⟩ := map_some hx
    obtain ⟨_, hlen2, us, hus, hrs⟩ := ress_run he hr hc hxs
    refine ⟨.tuple us.toArray, ?_, .tup hrs.1 hrs.2⟩
    rw [hm hus]
    have hlen : us.length = rcs.length := by rw [hrs.1, hlen2]
    have h1 : ¬ us.toArray.size = 1 := by
      simp only [List.size_toArray, hlen]
      intro h1
      obtain ⟨r, rfl⟩ := List.length_eq_one_iff.1 h1
      exact hne r rfl
    rw [dif_neg h1]

end
end Go.Vm
