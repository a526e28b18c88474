/- Running the small machine by hand: what must hold for a run to end as wanted. -/
import Derived.Test.YtfihnnebffkbfaaDoorVmMain
namespace Go.Vm
set_option linter.unusedVariables false
set_option linter.unusedSimpArgs false

variable {F : FuncId → Option FnC} {L : FuncId → List V → V → Prop}

/-- A call comes to what K says. -/
def Cf (F : FuncId → Option FnC) (L : FuncId → List V → V → Prop) (f : FuncId) (args : List V) (h : Heap) (K : V → Heap → Prop) : Prop :=
  ∃ v h', Ev F L (.call f args h v h') ∧ K v h'

theorem Cf.mono {f : FuncId} {args : List V} {h : Heap} {K K' : V → Heap → Prop} (hw : Cf F L f args h K) (hk : ∀ v h', K v h' → K' v h') : Cf F L f args h K' :=
  let ⟨v, h', he, hv⟩ := hw; ⟨v, h', he, hk v h' hv⟩

/-- The same where what was there must stay as it was (in a region that draws its order). -/
def Cfx (F : FuncId → Option FnC) (L : FuncId → List V → V → Prop) (f : FuncId) (args : List V) (h : Heap) (K : V → Heap → Prop) : Prop :=
  Cf F L f args h fun v h' => Ext h h' ∧ K v h'

/-- An instruction's outcome. -/
def wi (F : FuncId → Option FnC) (L : FuncId → List V → V → Prop) (i : Ins) (e : Env) (h : Heap) (K : V → Heap → Prop) : Prop :=
  match callI i e with
  | some (f, args) => Cf F L f args h K
  | none => match stepI i e h with
    | some (v, h') => K v h'
    | none => False

def E0 : Env := fun _ => .tup []
/-- An operation under a guard. -/
def wg (x : V) (g : Bool) (i : (V → Heap → Prop) → Prop) (h : Heap) (K : V → Heap → Prop) : Prop :=
  ((match x with | .bool c => c == g | _ => false) = true → i K) ∧ ((match x with | .bool c => c == g | _ => false) = false → K (.tup []) h)
/-- The same in a region that draws its order. -/
def wgd (x : V) (g : Bool) (i : (V → Heap → Prop) → Prop) (h : Heap) (K : V → Heap → Prop) : Prop :=
  ((match x with | .bool c => c == g | _ => false) = true → i fun v h' => Ext h h' ∧ K v h') ∧ ((match x with | .bool c => c == g | _ => false) = false → K (.tup []) h)
/-- A branch. -/
def wb (x : V) (A B : Prop) : Prop := ∃ t, x = .bool t ∧ (t = true → A) ∧ (t = false → B)
/-- An argument, its value in place of its slot. -/
def Arg.sub (e : Env) : Arg → Arg
  | .t n => .c (e n)
  | .c v => .c v
/-- An instruction, values in place of slots. -/
def Ins.sub (e : Env) : Ins → Ins
  | .mv a => .mv (a.sub e)
  | .mvs a => .mvs (a.sub e)
  | .pick c a b => .pick (c.sub e) (a.sub e) (b.sub e)
  | .boxz cs => .boxz cs
  | .box a => .box (a.sub e)
  | .build z ps => .build z (ps.map fun p => (p.1, p.2.1, p.2.2.sub e))
  | .bsl n ps => .bsl n (ps.map (·.sub e))
  | .bslb ps => .bslb (ps.map (·.sub e))
  | .mark x => .mark (x.sub e)
  | .load g s a => .load g s (a.sub e)
  | .store s a x => .store s (a.sub e) (x.sub e)
  | .nilck a => .nilck (a.sub e)
  | .bin o x y => .bin o (x.sub e) (y.sub e)
  | .eq k n x y => .eq k n (x.sub e) (y.sub e)
  | .un o x => .un o (x.sub e)
  | .toInt k x => .toInt k (x.sub e)
  | .toStr x => .toStr (x.sub e)
  | .toBytes x => .toBytes (x.sub e)
  | .mkfn f cs => .mkfn f (cs.map (·.sub e))
  | .mkmap => .mkmap
  | .lookup c z o m k => .lookup c z o (m.sub e) (k.sub e)
  | .mapset c m k v => .mapset c (m.sub e) (k.sub e) (v.sub e)
  | .mksl s b z l c => .mksl s b z (l.sub e) (c.sub e)
  | .slstr x l h => .slstr (x.sub e) (l.map (·.sub e)) (h.map (·.sub e))
  | .slsl s x l h m => .slsl s (x.sub e) (l.map (·.sub e)) (h.map (·.sub e)) (m.map (·.sub e))
  | .faddr o x => .faddr o (x.sub e)
  | .fld o s g x => .fld o s g (x.sub e)
  | .ixaSl s x i => .ixaSl s (x.sub e) (i.sub e)
  | .ixaArr n s x i => .ixaArr n s (x.sub e) (i.sub e)
  | .ixArr n s g x i => .ixArr n s g (x.sub e) (i.sub e)
  | .ixStr x i => .ixStr (x.sub e) (i.sub e)
  | .ext i x => .ext i (x.sub e)
  | .len c x => .len c (x.sub e)
  | .lenArr n => .lenArr n
  | .app s b m x y => .app s b m (x.sub e) (y.sub e)
  | .copy s d x => .copy s (d.sub e) (x.sub e)
  | .mn xs => .mn (xs.map (·.sub e))
  | .mx xs => .mx (xs.map (·.sub e))
  | .clear m => .clear (m.sub e)
  | .call f xs => .call f (xs.map (·.sub e))
  | .callv g xs => .callv (g.sub e) (xs.map (·.sub e))
theorem sub_get (e : Env) (a : Arg) : (a.sub e).get E0 = a.get e := by cases a <;> rfl
theorem sub_gets (e : Env) (xs : List Arg) : (xs.map (·.sub e)).map (·.get E0) = xs.map (·.get e) := by
  induction xs with
  | nil => rfl
  | cons x r ih => simp only [List.map_cons, sub_get, ih]
theorem sub_fill (e : Env) : ∀ (ps : List (Nat × Nat × Arg)) (cs : List V), fillC E0 cs (ps.map fun p => (p.1, p.2.1, p.2.2.sub e)) = fillC e cs ps
  | [], cs => rfl
  | (a, b, x) :: r, cs => by
    simp only [List.map_cons, fillC, sub_get]
    split
    · exact sub_fill e r _
    · rfl
theorem sub_bound (e : Env) (a : Option Arg) : boundO E0 (a.map (·.sub e)) = boundO e a := by
  cases a with
  | none => rfl
  | some a => simp only [Option.map_some, boundO, sub_get]
theorem sub_all (e : Env) (sz : Nat) (ps : List Arg) : ((ps.map (·.sub e)).all fun p => decide ((cells (p.get E0)).length = sz) && stor (p.get E0)) = (ps.all fun p => decide ((cells (p.get e)).length = sz) && stor (p.get e)) := by
  induction ps with
  | nil => rfl
  | cons x r ih => simp only [List.map_cons, List.all_cons, sub_get, ih]
theorem sub_call (e : Env) (i : Ins) : callI (i.sub e) E0 = callI i e := by
  cases i <;> simp only [Ins.sub, callI, sub_get, sub_gets]
theorem sub_step (e : Env) (h : Heap) (i : Ins) : stepI (i.sub e) E0 h = stepI i e h := by
  cases i <;> simp only [Ins.sub, stepI, sub_get, sub_gets, sub_fill, sub_bound, sub_all, List.length_map]
theorem wi_sub (e : Env) (h : Heap) (i : Ins) (K : V → Heap → Prop) : wi F L (i.sub e) E0 h K = wi F L i e h K := by
  unfold wi
  rw [sub_call, sub_step]

def wo (F : FuncId → Option FnC) (L : FuncId → List V → V → Prop) : List OpC → (Env → Heap → Prop) → Env → Heap → Prop
  | [], Q, e, h => Q e h
  | ⟨d, none, .mv a⟩ :: l, Q, e, h => wo F L l Q (put e d (a.get e)) h
  | ⟨d, none, i⟩ :: l, Q, e, h => wi F L (i.sub e) E0 h fun v h' => wo F L l Q (put e d v) h'
  | ⟨d, some (t, g), i⟩ :: l, Q, e, h => wg (e t) g (wi F L (i.sub e) E0 h) h fun v h' => wo F L l Q (put e d v) h'

def wd (F : FuncId → Option FnC) (L : FuncId → List V → V → Prop) : List OpC → (Env → Heap → Prop) → Env → Heap → Prop
  | [], Q, e, h => Q e h
  | ⟨d, none, .mv a⟩ :: l, Q, e, h => wd F L l Q (put e d (a.get e)) h
  | ⟨d, none, i⟩ :: l, Q, e, h => wi F L (i.sub e) E0 h fun v h' => Ext h h' ∧ wd F L l Q (put e d v) h'
  | ⟨d, some (t, g), i⟩ :: l, Q, e, h => wgd (e t) g (wi F L (i.sub e) E0 h) h fun v h' => wd F L l Q (put e d v) h'

/-- The writers' part of a region that draws. -/
def wm (F : FuncId → Option FnC) (L : FuncId → List V → V → Prop) (fl : List (Nat × Bool × Nat × Arg)) : List OpC → (Env → Heap → Prop) → Env → Heap → Prop
  | [], Q, e, h => Q e h
  | ⟨d, none, .mv a⟩ :: l, Q, e, h => wm F L fl l Q (put e d (a.get e)) h
  | ⟨d, none, i⟩ :: l, Q, e, h => match quiet i with
    | true => wi F L (i.sub e) E0 h fun v h' => wm F L fl l Q (put e d v) h'
    | false => wi F L (i.sub e) E0 h fun v h' => flC fl (put e d v) h' ∧ wm F L fl l Q (put e d v) h'
  | _ :: _, _, _, _ => False

/-- A loop comes to what Q says. -/
def Wl (F : FuncId → Option FnC) (L : FuncId → List V → V → Prop) (c : C) (Q : X → Env → Heap → Prop) (e : Env) (h : Heap) : Prop :=
  ∃ x e' h', Ev F L (.code (.loop c) e h x e' h') ∧ Q x e' h'

def seqX (K : Env → Heap → Prop) (Q : X → Env → Heap → Prop) : X → Env → Heap → Prop
  | .norm => K
  | x => Q x

def wc (F : FuncId → Option FnC) (L : FuncId → List V → V → Prop) : C → (X → Env → Heap → Prop) → Env → Heap → Prop
  | .skip, Q, e, h => Q .norm e h
  | .region l, Q, e, h => wo F L l (Q .norm) e h
  | .dregion l t, Q, e, h => wd F L l (wo F L t (Q .norm)) e h
  | .mregion l m t fl, Q, e, h => wd F L l (wm F L fl m (wo F L t (Q .norm))) e h
  | .seq a b, Q, e, h => wc F L a (seqX (wc F L b Q) Q) e h
  | .cond g a b, Q, e, h => wb (g.get e) (wc F L a Q e h) (wc F L b Q e h)
  | .block id c, Q, e, h => wc F L c (fun x => Q (x.out id)) e h
  | .loop c, Q, e, h => Wl F L c Q e h
  | .exit id, Q, e, h => Q (.exit id) e h
  | .ret, Q, e, h => Q .ret e h

theorem wo_parts {o : OpC} {l : List OpC} {Q : Env → Heap → Prop} {e : Env} {h : Heap} (hq : wo F L (o :: l) Q e h) :
    (o.wanted e = true → wi F L o.ins e h fun v h' => wo F L l Q (put e o.dst v) h') ∧ (o.wanted e = false → wo F L l Q (put e o.dst (.tup [])) h) := by
  obtain ⟨d, g, i⟩ := o
  cases g with
  | none =>
    refine ⟨fun _ => ?_, fun hf => by simp [OpC.wanted] at hf⟩
    cases i <;> first | exact hq | (simp only [wo, wi_sub] at hq; exact hq)
  | some p =>
    obtain ⟨t, b⟩ := p
    have hq' : wg (e t) b (wi F L (i.sub e) E0 h) h fun v h' => wo F L l Q (put e d v) h' := by cases i <;> exact hq
    unfold wg at hq'
    rw [wi_sub] at hq'
    exact hq'
theorem wd_parts {o : OpC} {l : List OpC} {Q : Env → Heap → Prop} {e : Env} {h : Heap} (hq : wd F L (o :: l) Q e h) :
    (o.wanted e = true → wi F L o.ins e h fun v h' => Ext h h' ∧ wd F L l Q (put e o.dst v) h') ∧ (o.wanted e = false → wd F L l Q (put e o.dst (.tup [])) h) := by
  obtain ⟨d, g, i⟩ := o
  cases g with
  | none =>
    refine ⟨fun _ => ?_, fun hf => by simp [OpC.wanted] at hf⟩
    cases i <;> first | (simp only [wd, wi_sub] at hq; exact hq) | (show Ext h h ∧ _; exact ⟨fun _ _ => rfl, hq⟩)
  | some p =>
    obtain ⟨t, b⟩ := p
    have hq' : wgd (e t) b (wi F L (i.sub e) E0 h) h fun v h' => wd F L l Q (put e d v) h' := by cases i <;> exact hq
    unfold wgd at hq'
    rw [wi_sub] at hq'
    exact hq'
theorem wo_sound : ∀ {l : List OpC} {Q : Env → Heap → Prop} {e : Env} {h : Heap}, wo F L l Q e h → ∃ e' h', Ev F L (.ops l e h e' h') ∧ Q e' h'
  | [], Q, e, h, hq => ⟨e, h, .opsNil e h, hq⟩
  | o :: l, Q, e, h, hq => by
    have hq := wo_parts hq
    cases hw : o.wanted e with
    | false =>
      obtain ⟨e', h', hev, hq'⟩ := wo_sound (hq.2 hw)
      exact ⟨e', h', .opsSkip hw hev, hq'⟩
    | true =>
      have h1 := hq.1 hw
      unfold wi at h1
      split at h1
      · rename_i f args hc
        obtain ⟨v, h2, hcall, hn⟩ := h1
        obtain ⟨e', h', hev, hq'⟩ := wo_sound hn
        exact ⟨e', h', .opsCall hw hc hcall hev, hq'⟩
      · split at h1
        · rename_i v h2 hs
          obtain ⟨e', h', hev, hq'⟩ := wo_sound h1
          exact ⟨e', h', .opsIns hw hs hev, hq'⟩
        · exact h1.elim

theorem wd_sound : ∀ {l : List OpC} {Q : Env → Heap → Prop} {e : Env} {h : Heap}, wd F L l Q e h → ∃ e' h', Ev F L (.dops l e h e' h') ∧ Q e' h'
  | [], Q, e, h, hq => ⟨e, h, .dopsNil e h, hq⟩
  | o :: l, Q, e, h, hq => by
    have hq := wd_parts hq
    cases hw : o.wanted e with
    | false =>
      obtain ⟨e', h', hev, hq'⟩ := wd_sound (hq.2 hw)
      exact ⟨e', h', .dopsSkip hw hev, hq'⟩
    | true =>
      have h1 := hq.1 hw
      unfold wi at h1
      split at h1
      · rename_i f args hc
        obtain ⟨v, h2, hcall, hx, hn⟩ := h1
        obtain ⟨e', h', hev, hq'⟩ := wd_sound hn
        exact ⟨e', h', .dopsCall hw hc hx hcall hev, hq'⟩
      · split at h1
        · rename_i v h2 hs
          obtain ⟨e', h', hev, hq'⟩ := wd_sound h1.2
          exact ⟨e', h', .dopsIns hw hs h1.1 hev, hq'⟩
        · exact h1.elim

theorem wi_mono {i : Ins} {e : Env} {h : Heap} {K K' : V → Heap → Prop} (hk : ∀ v h, K v h → K' v h) (hi : wi F L i e h K) : wi F L i e h K' := by
  unfold wi at hi ⊢
  split at hi
  · obtain ⟨v, h1, h2, h3⟩ := hi
    exact ⟨v, h1, h2, hk _ _ h3⟩
  · split at hi
    · exact hk _ _ hi
    · exact hi
theorem wm_parts {fl : List (Nat × Bool × Nat × Arg)} {o : OpC} {l : List OpC} {Q : Env → Heap → Prop} {e : Env} {h : Heap} (hq : wm F L fl (o :: l) Q e h) :
    o.wanted e = true ∧ wi F L o.ins e h fun v h' => (quiet o.ins = true ∨ flC fl (put e o.dst v) h') ∧ wm F L fl l Q (put e o.dst v) h' := by
  obtain ⟨d, g, i⟩ := o
  cases g with
  | some p => cases i <;> exact hq.elim
  | none =>
    refine ⟨rfl, ?_⟩
    by_cases hm : ∃ a, i = .mv a
    · obtain ⟨a, rfl⟩ := hm
      exact ⟨.inl rfl, hq⟩
    · have hq' : (match quiet i with
        | true => wi F L (i.sub e) E0 h fun v h' => wm F L fl l Q (put e d v) h'
        | false => wi F L (i.sub e) E0 h fun v h' => flC fl (put e d v) h' ∧ wm F L fl l Q (put e d v) h') := by
        cases i <;> first | exact hq | exact absurd ⟨_, rfl⟩ hm
      split at hq'
      · rename_i hqi
        rw [wi_sub] at hq'
        exact wi_mono (fun v h' hk => ⟨.inl hqi, hk⟩) hq'
      · rw [wi_sub] at hq'
        exact wi_mono (fun v h' hk => ⟨.inr hk.1, hk.2⟩) hq'
theorem wm_sound {fl : List (Nat × Bool × Nat × Arg)} : ∀ {l : List OpC} {Q : Env → Heap → Prop} {e : Env} {h : Heap}, wm F L fl l Q e h → ∃ e' h', Ev F L (.mops fl l e h e' h') ∧ Q e' h'
  | [], Q, e, h, hq => ⟨e, h, .mopsNil fl e h, hq⟩
  | o :: l, Q, e, h, hq => by
    obtain ⟨hw, h1⟩ := wm_parts hq
    unfold wi at h1
    split at h1
    · rename_i f args hc
      obtain ⟨v, h2, hcall, hx, hn⟩ := h1
      obtain ⟨e', h', hev, hq'⟩ := wm_sound hn
      have hx' : flC fl (put e o.dst v) h2 := by
        rcases hx with hx | hx
        · exfalso
          obtain ⟨d, g, i⟩ := o
          cases i <;> simp [quiet] at hx <;> simp [callI] at hc
        · exact hx
      exact ⟨e', h', .mopsCall hw hc hx' hcall hev, hq'⟩
    · split at h1
      · rename_i v h2 hs
        obtain ⟨e', h', hev, hq'⟩ := wm_sound h1.2
        exact ⟨e', h', .mopsIns hw hs h1.1 hev, hq'⟩
      · exact h1.elim

theorem wc_sound : ∀ {c : C} {Q : X → Env → Heap → Prop} {e : Env} {h : Heap}, wc F L c Q e h → ∃ x e' h', Ev F L (.code c e h x e' h') ∧ Q x e' h'
  | .skip, Q, e, h, hq => ⟨.norm, e, h, .skip e h, hq⟩
  | .region l, Q, e, h, hq => let ⟨e', h', hev, hq'⟩ := wo_sound hq; ⟨.norm, e', h', .region hev, hq'⟩
  | .dregion l t, Q, e, h, hq => let ⟨e1, h1, hev, hq'⟩ := wd_sound hq; let ⟨e', h', hev', hq''⟩ := wo_sound hq'; ⟨.norm, e', h', .dregion hev hev', hq''⟩
  | .mregion l m t fl, Q, e, h, hq => let ⟨e1, h1, hev, hq'⟩ := wd_sound hq; let ⟨e2, h2, hev2, hq2⟩ := wm_sound hq'; let ⟨e', h', hev', hq''⟩ := wo_sound hq2; ⟨.norm, e', h', .mregion hev hev2 hev', hq''⟩
  | .seq a b, Q, e, h, hq => by
    obtain ⟨x, e1, h1, hev, hq1⟩ := wc_sound (c := a) hq
    cases x with
    | norm =>
      obtain ⟨x, e2, h2, hev2, hq2⟩ := wc_sound (c := b) hq1
      exact ⟨x, e2, h2, .seqN hev hev2, hq2⟩
    | exit i => exact ⟨_, e1, h1, .seqX hev (fun hh => by cases hh), hq1⟩
    | ret => exact ⟨_, e1, h1, .seqX hev (fun hh => by cases hh), hq1⟩
  | .cond g a b, Q, e, h, hq => by
    obtain ⟨t, hg, ha, hb⟩ := hq
    cases t with
    | true =>
      obtain ⟨x, e', h', hev, hq'⟩ := wc_sound (c := a) (ha rfl)
      exact ⟨x, e', h', .cond hg hev, hq'⟩
    | false =>
      obtain ⟨x, e', h', hev, hq'⟩ := wc_sound (c := b) (hb rfl)
      exact ⟨x, e', h', .cond hg hev, hq'⟩
  | .block id c, Q, e, h, hq => let ⟨x, e', h', hev, hq'⟩ := wc_sound (c := c) hq; ⟨x.out id, e', h', .block hev, hq'⟩
  | .loop c, Q, e, h, hq => hq
  | .exit id, Q, e, h, hq => ⟨.exit id, e, h, .exit id e h, hq⟩
  | .ret, Q, e, h, hq => ⟨.ret, e, h, .ret e h, hq⟩

/-- A loop, by what holds at the head of each round: n falls. -/
theorem wloop {c : C} {Q : X → Env → Heap → Prop} (I : Nat → Env → Heap → Prop) (hr : ∀ n e h, I n e h → wc F L c (seqX (fun e' h' => ∃ m, m < n ∧ I m e' h') Q) e h) :
    ∀ {n : Nat} {e : Env} {h : Heap}, I n e h → Wl F L c Q e h := by
  intro n
  induction n using Nat.strongRecOn with
  | _ n ih =>
    intro e h hI
    obtain ⟨x, e1, h1, hev, hq⟩ := wc_sound (hr n e h hI)
    cases x with
    | norm =>
      obtain ⟨m, hm, hI'⟩ := hq
      obtain ⟨x, e2, h2, hev2, hq2⟩ := ih m hm hI'
      exact ⟨x, e2, h2, .loopN hev hev2, hq2⟩
    | exit i => exact ⟨_, e1, h1, .loopX hev (fun hh => by cases hh), hq⟩
    | ret => exact ⟨_, e1, h1, .loopX hev (fun hh => by cases hh), hq⟩

/-- What a function's end hands on. -/
def retX (rs : List Res) (K : V → Heap → Prop) : X → Env → Heap → Prop
  | .exit _, _, _ => False
  | _, e, h => ∃ v, resultsV h e rs = some v ∧ K v h

theorem wcall {f : FuncId} {fn : FnC} {args : List V} {h : Heap} {K : V → Heap → Prop} (hf : F f = some fn) (ha : args.length ≤ fn.ntmps) (hw : wc F L fn.body (retX fn.results K) (enterE args) h) : Cf F L f args h K := by
  obtain ⟨x, e', h', hev, hq⟩ := wc_sound hw
  cases x with
  | exit i => exact hq.elim
  | norm => obtain ⟨v, hr, hk⟩ := hq; exact ⟨v, h', .call hf ha hev (.inl rfl) hr, hk⟩
  | ret => obtain ⟨v, hr, hk⟩ := hq; exact ⟨v, h', .call hf ha hev (.inr rfl) hr, hk⟩

theorem wlibS {f : FuncId} {id : Nat} {ss : List (List UInt8)} {h : Heap} {K : V → Heap → Prop} (hl : L f sortTag (.tup [])) (hh : h[id]? = some (.box (strsV ss))) (hn : ss.length < 4611686018427387904) (hk : K (.tup []) (h.set id (.box (strsV (sortS ss))))) : Cf F L f [.hsl 1 id ss.length] h K := ⟨_, _, .libS hl hh hn, hk⟩
theorem wlib {f : FuncId} {args : List V} {h : Heap} {v : V} {K : V → Heap → Prop} (hl : L f args v) (hk : K v h) : Cf F L f args h K := ⟨v, h, .lib hl, hk⟩

theorem wc_mono : ∀ {c : C} {Q Q' : X → Env → Heap → Prop} {e : Env} {h : Heap}, wc F L c Q e h → (∀ x e h, Q x e h → Q' x e h) → ∃ x e' h', Ev F L (.code c e h x e' h') ∧ Q' x e' h' :=
  fun hw hq => let ⟨x, e', h', hev, hq'⟩ := wc_sound hw; ⟨x, e', h', hev, hq _ _ _ hq'⟩

/-! ### The instructions, one by one -/

section
variable {e : Env} {h : Heap} {K : V → Heap → Prop} {Q : Env → Heap → Prop} {d : Option Nat} {l : List OpC} {a b c x y : Arg}

/-- An instruction that calls nothing. -/
def ws (i : Ins) (e : Env) (h : Heap) (K : V → Heap → Prop) : Prop :=
  match stepI i e h with
  | some (v, h') => K v h'
  | none => False

theorem wi_call {f : FuncId} {xs : List Arg} : wi F L (.call f xs) e h K = Cf F L f (xs.map (·.get e)) h K := rfl
theorem wi_callv {g : Arg} {xs : List Arg} : wi F L (.callv g xs) e h K = (match g.get e with | .fn f caps => Cf F L f (xs.map (·.get e) ++ caps) h K | _ => False) := by
  unfold wi
  simp only [callI, stepI]
  cases g.get e <;> rfl
theorem wi_mv : wi F L (.mv a) e h K = K (a.get e) h := rfl
theorem wi_mvs : wi F L (.mvs a) e h K = (match a.get e with | .str s => K (.str s) h | _ => False) := by
  simp only [wi, callI, stepI]; cases a.get e <;> rfl
theorem wi_pick : wi F L (.pick c a b) e h K = (match c.get e with | .bool t => K (if t then a.get e else b.get e) h | _ => False) := by
  simp only [wi, callI, stepI]; cases c.get e <;> rfl
theorem wi_boxz {cs : List V} : wi F L (.boxz cs) e h K = K (.ptr h.length 0) (h ++ [.box cs]) := rfl
theorem wi_box : wi F L (.box a) e h K = (stor (a.get e) = true ∧ K (.ptr h.length 0) (h ++ [.box (cells (a.get e))])) := by
  simp only [wi, callI, stepI]; cases stor (a.get e) <;> simp
theorem wi_build {z : List V} {ps : List (Nat × Nat × Arg)} : wi F L (.build z ps) e h K = (match fillC e z ps with | some cs => K (.agg cs) h | none => False) := by
  simp only [wi, callI, stepI]; cases fillC e z ps <;> simp
theorem wi_bsl {sz : Nat} {ps : List Arg} : wi F L (.bsl sz ps) e h K = ((ps.all fun p => decide ((cells (p.get e)).length = sz) && stor (p.get e)) = true ∧ K (.sl sz .full (ps.map (·.get e))) h) := by
  simp only [wi, callI, stepI]
  generalize (ps.all fun p => decide ((cells (p.get e)).length = sz) && stor (p.get e)) = q
  cases q <;> simp

/-- A part, with what must hold. -/
def partK (cs : List V) (off sz : Nat) (g : Bool) (K : V → Prop) : Prop := off + sz ≤ cs.length ∧ (if g then K (.agg ((cs.drop off).take sz)) else sz = 1 ∧ K (cs.getD off (.tup [])))

theorem partK_eq {cs : List V} {off sz : Nat} {g : Bool} {K : V → Prop} : (match part cs off sz g with | some v => K v | none => False) = partK cs off sz g K := by
  unfold part partK
  by_cases hl : off + sz ≤ cs.length
  · cases g with
    | true => simp [hl]
    | false =>
      by_cases hs : sz = 1
      · subst hs
        have : off < cs.length := by omega
        simp [hl, List.getD_eq_getElem?_getD, this]
      · simp [hl, hs]
  · simp [hl]

theorem wi_load {g : Bool} {s : Nat} : wi F L (.load g s a) e h K = (match a.get e with
    | .ptr id off => (match h[id]? with | some (.box cs) => partK cs off s g (K · h) | _ => False)
    | .iptr cs => partK cs 0 s g (K · h)
    | _ => False) := by
  simp only [wi, callI, stepI, loadV, ← partK_eq]
  cases a.get e <;> try rfl
  · rename_i id off
    show (match (match h[id]? with | some (.box cs) => part cs off s g | _ => none).map (fun v => (v, h)) with | some (v, h') => K v h' | none => False) = (match h[id]? with | some (.box cs) => (match part cs off s g with | some v => K v h | none => False) | _ => False)
    cases h[id]? with
    | none => rfl
    | some o =>
      cases o <;> try rfl
      rename_i cs
      cases hq : part cs off s g <;> simp [hq]
  · rename_i cs
    show (match (part cs 0 s g).map (fun v => (v, h)) with | some (v, h') => K v h' | none => False) = (match part cs 0 s g with | some v => K v h | none => False)
    cases part cs 0 s g <;> rfl

theorem wi_store {s : Nat} : wi F L (.store s a x) e h K = (match a.get e with
    | .ptr id off => (match h[id]? with | some (.box cs) => (cells (x.get e)).length = s ∧ off + s ≤ cs.length ∧ stor (x.get e) = true ∧ K (.tup []) (h.set id (.box (splice cs off (cells (x.get e))))) | _ => False)
    | _ => False) := by
  simp only [wi, callI, stepI, storeV]
  cases a.get e <;> try rfl
  rename_i id off
  show (match (match h[id]? with | some (.box cs) => if (cells (x.get e)).length = s ∧ off + s ≤ cs.length ∧ stor (x.get e) = true then some (V.tup [], h.set id (.box (splice cs off (cells (x.get e))))) else none | _ => none) with | some (v, h') => K v h' | none => False) = (match h[id]? with | some (.box cs) => (cells (x.get e)).length = s ∧ off + s ≤ cs.length ∧ stor (x.get e) = true ∧ K (.tup []) (h.set id (.box (splice cs off (cells (x.get e))))) | _ => False)
  cases h[id]? with
  | none => rfl
  | some o =>
    cases o <;> try rfl
    rename_i cs
    by_cases hc : (cells (x.get e)).length = s ∧ off + s ≤ cs.length ∧ stor (x.get e) = true
    · simp only [if_pos hc]
      simp [hc]
    · simp only [if_neg hc]
      refine propext ⟨False.elim, fun hh => hc ⟨hh.1, hh.2.1, hh.2.2.1⟩⟩
theorem wi_nilck : wi F L (.nilck a) e h K = (match a.get e with | .ptr id o => K (.ptr id o) h | .iptr cs => K (.iptr cs) h | .fn f caps => K (.fn f caps) h | _ => False) := by
  simp only [wi, callI, stepI]; cases a.get e <;> rfl

theorem wi_bin {o : BinOp} : wi F L (.bin o x y) e h K = (match binV o (x.get e) (y.get e) with | some v => K v h | none => False) := by
  simp only [wi, callI, stepI]; cases binV o (x.get e) (y.get e) <;> rfl

section
variable {k k' : IntKind} {p q : Int} {s t : List UInt8}
theorem bin_add : binV .add (.int k p) (.int k q) = some (.int k (k.wrap (p + q))) := by simp [binV, binI]
theorem bin_sub : binV .sub (.int k p) (.int k q) = some (.int k (k.wrap (p - q))) := by simp [binV, binI]
theorem bin_mul : binV .mul (.int k p) (.int k q) = some (.int k (k.wrap (p * q))) := by simp [binV, binI]
theorem bin_quo (hq : q ≠ 0) : binV .quo (.int k p) (.int k q) = some (.int k (k.wrap (p.tdiv q))) := by simp [binV, binI, hq]
theorem bin_rem (hq : q ≠ 0) : binV .rem (.int k p) (.int k q) = some (.int k (p.tmod q)) := by simp [binV, binI, hq]
theorem bin_and : binV .and (.int k p) (.int k q) = some (.int k (bitsI .and k p q)) := by simp [binV, binI]
theorem bin_or : binV .or (.int k p) (.int k q) = some (.int k (bitsI .or k p q)) := by simp [binV, binI]
theorem bin_xor : binV .xor (.int k p) (.int k q) = some (.int k (bitsI .xor k p q)) := by simp [binV, binI]
theorem bin_eql : binV .eql (.int k p) (.int k q) = some (.bool (decide (p = q))) := by simp [binV, binI]
theorem bin_neq : binV .neq (.int k p) (.int k q) = some (.bool (!decide (p = q))) := by simp [binV, binI]
theorem bin_lss : binV .lss (.int k p) (.int k q) = some (.bool (decide (p < q))) := by simp [binV, binI]
theorem bin_leq : binV .leq (.int k p) (.int k q) = some (.bool (decide (p ≤ q))) := by simp [binV, binI]
theorem bin_gtr : binV .gtr (.int k p) (.int k q) = some (.bool (decide (p > q))) := by simp [binV, binI]
theorem bin_geq : binV .geq (.int k p) (.int k q) = some (.bool (decide (p ≥ q))) := by simp [binV, binI]
theorem bin_shl (hq : ¬ q < 0) : binV .shl (.int k p) (.int k' q) = some (.int k (k.wrap (p * 2 ^ (min q.toNat k.bits)))) := by simp [binV, shI, hq]
theorem bin_shr (hq : ¬ q < 0) : binV .shr (.int k p) (.int k' q) = some (.int k (p.fdiv (2 ^ (min q.toNat k.bits)))) := by simp [binV, shI, hq]
theorem bin_sadd (hl : s.length + t.length ≤ 9223372036854775807) : binV .add (.str s) (.str t) = some (.str (s ++ t)) := by simp [binV, binS, hl]
theorem bin_seql : binV .eql (.str s) (.str t) = some (.bool (s == t)) := by simp [binV, binS]
theorem bin_sneq : binV .neq (.str s) (.str t) = some (.bool (!(s == t))) := by simp [binV, binS]
theorem bin_slss : binV .lss (.str s) (.str t) = some (.bool (Go.Op.bytesLess s t)) := by simp [binV, binS]
end

theorem wi_eq {k : EqK} {n : Bool} : wi F L (.eq k n x y) e h K = (match eqV k (x.get e) (y.get e) with | some r => K (.bool (if n then !r else r)) h | none => False) := by
  simp only [wi, callI, stepI]; cases eqV k (x.get e) (y.get e) <;> simp
theorem wi_un {o : UnOp} : wi F L (.un o x) e h K = (match unV o (x.get e) with | some v => K v h | none => False) := by
  simp only [wi, callI, stepI]; cases unV o (x.get e) <;> simp
theorem un_not {b : Bool} : unV .not (.bool b) = some (.bool !b) := rfl
theorem un_neg {k : IntKind} {p : Int} : unV .neg (.int k p) = some (.int k (k.wrap (0 - p))) := rfl
theorem wi_toInt {k : IntKind} : wi F L (.toInt k x) e h K = (match x.get e with | .int _ n => K (.int k (k.wrap n)) h | _ => False) := by
  simp only [wi, callI, stepI]; cases x.get e <;> rfl
theorem wi_st {i : Ins} (hc : callI i e = none) : wi F L i e h K = (match stepI i e h with | some (v, h') => K v h' | none => False) := by
  simp only [wi, hc]
theorem wi_toStr : wi F L (.toStr x) e h K = (match stepI (.toStr x) e h with | some (v, h') => K v h' | none => False) := wi_st rfl
theorem wi_toBytes : wi F L (.toBytes x) e h K = (match x.get e with | .str s => K (.hsl 1 h.length s.length) (h ++ [.box (s.map ofByte)]) | _ => False) := by
  simp only [wi, callI, stepI]; cases x.get e <;> rfl
theorem wi_mark : wi F L (.mark x) e h K = (match stepI (.mark x) e h with | some (v, h') => K v h' | none => False) := wi_st rfl
theorem wi_bslb {ps : List Arg} : wi F L (.bslb ps) e h K = ((ps.all fun p => decide ((cells (p.get e)).length = 1) && stor (p.get e)) = true ∧ K (.hsl 1 h.length ps.length) (h ++ [.box (flat (ps.map (·.get e)))])) := by
  simp only [wi, callI, stepI]
  generalize (ps.all fun p => decide ((cells (p.get e)).length = 1) && stor (p.get e)) = q
  cases q <;> simp
theorem wi_mkfn {f : FuncId} {cs : List Arg} : wi F L (.mkfn f cs) e h K = K (.fn f (cs.map (·.get e))) h := rfl
theorem wi_mkmap : wi F L .mkmap e h K = K (.map h.length) (h ++ [.map []]) := rfl
theorem wi_lookup {k : LK} {z : V} {ok : Bool} : wi F L (.lookup k z ok x y) e h K = (match stepI (.lookup k z ok x y) e h with | some (v, h') => K v h' | none => False) := wi_st rfl
theorem wi_mapset {k : LK} : wi F L (.mapset k a x y) e h K = (match stepI (.mapset k a x y) e h with | some (v, h') => K v h' | none => False) := wi_st rfl
theorem wi_mksl {s b : Nat} {z : List V} : wi F L (.mksl s b z x y) e h K = (match stepI (.mksl s b z x y) e h with | some (v, h') => K v h' | none => False) := wi_st rfl
theorem wi_slstr {lo hi : Option Arg} : wi F L (.slstr x lo hi) e h K = (match x.get e, boundO e lo, boundO e hi with
    | .str s, some l, some r => l.getD 0 ≤ r.getD s.length ∧ r.getD s.length ≤ s.length ∧ K (.str ((s.take (r.getD s.length)).drop (l.getD 0))) h
    | _, _, _ => False) := by
  simp only [wi, callI, stepI]
  cases x.get e <;> try rfl
  cases boundO e lo <;> try rfl
  cases boundO e hi <;> try rfl
  rename_i s l r
  simp only [Option.bind_some]
  by_cases hc : l.getD 0 ≤ r.getD s.length ∧ r.getD s.length ≤ s.length
  · simp [hc]
  · rw [if_neg hc]
    exact propext ⟨False.elim, fun hh => hc ⟨hh.1, hh.2.1⟩⟩
theorem wi_slsl {s : Nat} {lo hi mx : Option Arg} : wi F L (.slsl s x lo hi mx) e h K = (match stepI (.slsl s x lo hi mx) e h with | some (v, h') => K v h' | none => False) := wi_st rfl
theorem wi_faddr {o : Nat} : wi F L (.faddr o x) e h K = (match x.get e with | .ptr id k => K (.ptr id (k + o)) h | .iptr cs => K (.iptr (cs.drop o)) h | _ => False) := by
  simp only [wi, callI, stepI]; cases x.get e <;> rfl
theorem wi_fld {o s : Nat} {g : Bool} : wi F L (.fld o s g x) e h K = (match x.get e with | .agg cs => partK cs o s g (K · h) | _ => False) := by
  simp only [wi, callI, stepI, ← partK_eq]; cases x.get e <;> try rfl
  rename_i cs
  show (match (part cs o s g).map (fun v => (v, h)) with | some (v, h') => K v h' | none => False) = (match part cs o s g with | some v => K v h | none => False)
  cases part cs o s g <;> rfl
theorem wi_ixaSl {s : Nat} : wi F L (.ixaSl s x y) e h K = (match x.get e, y.get e with
    | .sl s' _ es, .int _ n => 0 ≤ n ∧ s' = s ∧ n.toNat < es.length ∧ K (.iptr (cells (es.getD n.toNat (.tup [])))) h
    | .hsl s' id len, .int _ n => 0 ≤ n ∧ s' = s ∧ n.toNat < len ∧ K (.ptr id (n.toNat * s)) h
    | _, _ => False) := by
  simp only [wi, callI, stepI]
  cases hy : y.get e <;> try (cases x.get e <;> rfl)
  rename_i k n
  by_cases hn : n < 0
  · have hn' : ¬ 0 ≤ n := by omega
    cases x.get e <;> simp [hn, hn']
  · have hn' : 0 ≤ n := by omega
    cases x.get e <;> try (simp [hn]; done)
    · rename_i s' own es
      by_cases hs : s' = s
      · by_cases hl : n.toNat < es.length
        · simp [hn, hn', hs, hl, List.getD_eq_getElem?_getD]
        · simp [hn, hn', hs, hl]
      · simp [hn, hs]
    · rename_i s' id len
      by_cases hc : s' = s ∧ n.toNat < len
      · simp [hn, hn', hc]
      · simp only [hn, if_false, if_neg hc]
        exact propext ⟨False.elim, fun hh => hc ⟨hh.2.1, hh.2.2.1⟩⟩
theorem wi_ixaArr {n s : Nat} : wi F L (.ixaArr n s x y) e h K = (match x.get e, y.get e with
    | .ptr id o, .int _ j => 0 ≤ j ∧ j < n ∧ K (.ptr id (o + j.toNat * s)) h
    | .iptr cs, .int _ j => 0 ≤ j ∧ j < n ∧ K (.iptr (cs.drop (j.toNat * s))) h
    | _, _ => False) := by
  simp only [wi, callI, stepI]
  cases hy : y.get e <;> try (cases x.get e <;> rfl)
  rename_i k j
  by_cases hc : 0 ≤ j ∧ j < n
  · cases x.get e <;> simp [hc]
  · cases x.get e <;> simp only [if_neg hc] <;> exact propext ⟨False.elim, fun hh => by first | exact hc ⟨hh.1, hh.2.1⟩ | exact hh⟩
theorem wi_ixArr {n s : Nat} {g : Bool} : wi F L (.ixArr n s g x y) e h K = (match x.get e, y.get e with
    | .agg cs, .int _ j => 0 ≤ j ∧ j < n ∧ partK cs (j.toNat * s) s g (K · h)
    | _, _ => False) := by
  simp only [wi, callI, stepI, ← partK_eq]
  cases hy : y.get e <;> try (cases x.get e <;> rfl)
  rename_i k j
  by_cases hc : 0 ≤ j ∧ j < n
  · cases x.get e <;> try (simp [hc]; done)
    rename_i cs
    simp only [if_pos hc, hc, true_and]
    show (match (part cs (j.toNat * s) s g).map (fun v => (v, h)) with | some (v, h') => K v h' | none => False) = (match part cs (j.toNat * s) s g with | some v => K v h | none => False)
    cases part cs (j.toNat * s) s g <;> rfl
  · cases x.get e <;> simp only [if_neg hc] <;> exact propext ⟨False.elim, fun hh => by first | exact hc ⟨hh.1, hh.2.1⟩ | exact hh⟩
theorem wi_ixStr : wi F L (.ixStr x y) e h K = (match x.get e, y.get e with | .str s, .int _ n => 0 ≤ n ∧ n.toNat < s.length ∧ K (ofByte (s.getD n.toNat 0)) h | _, _ => False) := by
  simp only [wi, callI, stepI]
  cases x.get e <;> try rfl
  cases y.get e <;> try rfl
  rename_i s k n
  by_cases hn : n < 0
  · simp [hn]; omega
  · by_cases hl : n.toNat < s.length
    · simp [hn, hl, List.getD_eq_getElem?_getD]; omega
    · simp [hn, hl]
theorem wi_ext {i : Nat} : wi F L (.ext i x) e h K = (match x.get e with | .tup vs => (match vs[i]? with | some v => K v h | none => False) | _ => False) := by
  simp only [wi, callI, stepI]; cases x.get e <;> try rfl
  rename_i vs
  show (match (vs[i]?).map (fun v => (v, h)) with | some (v, h') => K v h' | none => False) = (match vs[i]? with | some v => K v h | none => False)
  cases vs[i]? <;> rfl
theorem wi_len {k : Nat} : wi F L (.len k x) e h K = (match stepI (.len k x) e h with | some (v, h') => K v h' | none => False) := wi_st rfl
theorem wi_lenS : wi F L (.len 0 x) e h K = (match x.get e with | .str s => K (.int .i64 s.length) h | _ => False) := by
  simp only [wi, callI, stepI]; cases x.get e <;> rfl
theorem wi_lenL : wi F L (.len 1 x) e h K = (match x.get e with | .nsl => K (.int .i64 0) h | .sl _ _ es => K (.int .i64 es.length) h | .hsl _ _ n => K (.int .i64 n) h | _ => False) := by
  simp only [wi, callI, stepI]; cases x.get e <;> rfl
theorem wi_lenArr {k : Nat} : wi F L (.lenArr k) e h K = K (.int .i64 k) h := rfl
theorem wi_app {s b : Nat} {m : Bool} : wi F L (.app s b m x y) e h K = (match appV h s b m (x.get e) (y.get e) with | some (v, h') => K v h' | none => False) := wi_st rfl
theorem wi_copy {s : Nat} : wi F L (.copy s x y) e h K = (match stepI (.copy s x y) e h with | some (v, h') => K v h' | none => False) := wi_st rfl
theorem wi_mn {xs : List Arg} : wi F L (.mn xs) e h K = (match mnV (xs.map (·.get e)) with | some v => K v h | none => False) := by
  simp only [wi, callI, stepI]; cases mnV (xs.map (·.get e)) <;> rfl
theorem wi_mx {xs : List Arg} : wi F L (.mx xs) e h K = (match mxV (xs.map (·.get e)) with | some v => K v h | none => False) := by
  simp only [wi, callI, stepI]; cases mxV (xs.map (·.get e)) <;> rfl
theorem wi_clear : wi F L (.clear x) e h K = (match stepI (.clear x) e h with | some (v, h') => K v h' | none => False) := wi_st rfl

/-! The heap: what was there, and what is new. -/
theorem get_new (t : Heap) (k : Nat) : (h ++ t)[h.length + k]? = t[k]? := by
  rw [List.getElem?_append_right (by omega)]; congr 1; omega
theorem get_new0 (t : Heap) : (h ++ t)[h.length]? = t[0]? := get_new t 0
theorem get_old {t : Heap} {i : Nat} {o : O} (hi : h[i]? = some o) : (h ++ t)[i]? = some o := by
  rw [List.getElem?_append_left (List.getElem?_eq_some_iff.1 hi).1]; exact hi
theorem set_new (t : Heap) (k : Nat) (o : O) : (h ++ t).set (h.length + k) o = h ++ t.set k o := by
  rw [List.set_append]; rw [if_neg (by omega)]; congr 2; omega
theorem set_new0 (t : Heap) (o : O) : (h ++ t).set h.length o = h ++ t.set 0 o := set_new t 0 o
theorem set_old {t : Heap} {i : Nat} {o : O} (hi : i < h.length) : (h ++ t).set i o = h.set i o ++ t := by
  rw [List.set_append]; rw [if_pos hi]
theorem ext_refl : Ext h h := fun _ _ => rfl
theorem ext_app (t : Heap) : Ext h (h ++ t) := fun i hi => List.getElem?_append_left hi
end

theorem wc_yes {g : Arg} {c1 c2 : C} {Q : X → Env → Heap → Prop} {e : Env} {h : Heap} (hg : g.get e = .bool true) : wc F L (.cond g c1 c2) Q e h = wc F L c1 Q e h := by
  simp [wc, wb, hg]
theorem wc_no {g : Arg} {c1 c2 : C} {Q : X → Env → Heap → Prop} {e : Env} {h : Heap} (hg : g.get e = .bool false) : wc F L (.cond g c1 c2) Q e h = wc F L c2 Q e h := by
  simp [wc, wb, hg]
theorem wc_split {g : Arg} {c1 c2 : C} {Q : X → Env → Heap → Prop} {e : Env} {h : Heap} (b : Bool) (hg : g.get e = .bool b) (h1 : b = true → wc F L c1 Q e h) (h2 : b = false → wc F L c2 Q e h) : wc F L (.cond g c1 c2) Q e h :=
  ⟨b, hg, h1, h2⟩

section
variable {K : Env → Heap → Prop} {Q : X → Env → Heap → Prop} {R : V → Heap → Prop} {rs : List Res} {e : Env} {h : Heap} {i id : Nat} {c c1 c2 : C} {l : List OpC} {g : Arg}
theorem seqX_norm : seqX K Q .norm e h = K e h := rfl
theorem seqX_exit : seqX K Q (.exit i) e h = Q (.exit i) e h := rfl
theorem seqX_ret : seqX K Q .ret e h = Q .ret e h := rfl
theorem retX_norm : retX rs R .norm e h = ∃ v, resultsV h e rs = some v ∧ R v h := rfl
theorem retX_ret : retX rs R .ret e h = ∃ v, resultsV h e rs = some v ∧ R v h := rfl
theorem out_norm : X.out id .norm = .norm := rfl
theorem out_ret : X.out id .ret = .ret := rfl
theorem out_exit : X.out id (.exit i) = if i = id then .norm else .exit i := rfl
theorem wc_skip : wc F L .skip Q e h = Q .norm e h := rfl
theorem wc_region : wc F L (.region l) Q e h = wo F L l (Q .norm) e h := rfl
theorem wc_dregion {t : List OpC} : wc F L (.dregion l t) Q e h = wd F L l (wo F L t (Q .norm)) e h := rfl
theorem wc_mregion {m t : List OpC} {fl : List (Nat × Bool × Nat × Arg)} : wc F L (.mregion l m t fl) Q e h = wd F L l (wm F L fl m (wo F L t (Q .norm))) e h := rfl
theorem wc_seq : wc F L (.seq c1 c2) Q e h = wc F L c1 (seqX (wc F L c2 Q) Q) e h := rfl
theorem wc_cond : wc F L (.cond g c1 c2) Q e h = ∃ t, g.get e = .bool t ∧ (t = true → wc F L c1 Q e h) ∧ (t = false → wc F L c2 Q e h) := rfl
theorem wc_block : wc F L (.block id c) Q e h = wc F L c (fun x => Q (x.out id)) e h := rfl
theorem wc_loop : wc F L (.loop c) Q e h = Wl F L c Q e h := rfl
theorem wc_exit : wc F L (.exit id) Q e h = Q (.exit id) e h := rfl
theorem wc_ret : wc F L .ret Q e h = Q .ret e h := rfl
theorem enterE_app (args : List V) (t : Nat) : enterE args t = args.getD t (.tup []) := rfl
end

theorem upd_app (e : Env) (d : Nat) (v : V) (t : Nat) : upd e d v t = if t = d then v else e t := rfl
theorem upd_same (e : Env) (d : Nat) (v : V) : upd e d v d = v := by simp [upd]
theorem upd_ne {e : Env} {d t : Nat} {v : V} (hne : t ≠ d) : upd e d v t = e t := by simp [upd, hne]
theorem put_some (e : Env) (d : Nat) (v : V) : put e (some d) v = upd e d v := rfl
theorem put_none (e : Env) (v : V) : put e none v = e := rfl

end Go.Vm
