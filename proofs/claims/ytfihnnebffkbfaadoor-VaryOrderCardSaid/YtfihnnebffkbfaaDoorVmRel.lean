/- How values and boxes of the small machine stand to values and blocks of the model's world. -/
import Derived.Test.YtfihnnebffkbfaaDoorVmComp
import Derived.Below
import Derived.Laws.Cells
namespace Go.Vm
set_option linter.unusedVariables false

structure Tip where
  n : Nat
  blk : Nat
  off : Nat
  cap : Nat
  sz : Nat

/-- What stands behind the boxes' numbers. blk: a box's (or map's) block and how many cells it has; tip: the row that a slice may grow in; lim: how many cells at a block's begin stay as they are. -/
structure Gh where
  blk : Nat → Option (Nat × Nat)
  tip : Nat → Option Tip
  lim : Nat → Option Nat

def Stable (B : Nat) (G : Gh) (b o : Nat) : Prop := b < B ∨ ∃ n, G.lim b = some n ∧ o < n

/-- A value of one cell. -/
def oneC : V → Prop
  | .agg _ => False
  | .tup _ => False
  | _ => True

def at? (w : World) (b o : Nat) : Option Value := w.cell? ⟨b, o, none⟩

inductive Rv (B : Nat) (G : Gh) (w : World) : V → Value → Prop
  | bool (b : Bool) : Rv B G w (.bool b) (.bool b)
  | int (k : IntKind) (n : Int) : Rv B G w (.int k n) (.int k n)
  | str (s : List UInt8) : Rv B G w (.str s) (.string ⟨s.toArray⟩)
  | nilp : Rv B G w .nilp (.pointer none)
  | ptr {id off b n : Nat} (h : G.blk id = some (b, n)) : Rv B G w (.ptr id off) (.pointer (some ⟨b, off, none⟩))
  | iptr {cs : List V} {b o : Nat} (vs : Nat → Value) (hc : ∀ k, k < cs.length → Stable B G b (o + k) ∧ at? w b (o + k) = some (vs k))
      (h1 : ∀ c ∈ cs, oneC c) (hr : ∀ (k : Nat) (x : V), cs[k]? = some x → Rv B G w x (vs k)) : Rv B G w (.iptr cs) (.pointer (some ⟨b, o, none⟩))
  | nsl : Rv B G w .nsl (.slice none 0 0)
  | sl {sz : Nat} {own : Own} {es : List V} {a : Addr} {cap : Nat} (vs : Nat → Value) (hsz : ∀ e ∈ es, (cells e).length = sz) (hsp : es ≠ [] → a.spot = none) (hcap : es.length ≤ cap)
      (hc : ∀ k, k < (flat es).length → Stable B G a.block (a.off + k) ∧ at? w a.block (a.off + k) = some (vs k))
      (h1 : ∀ c ∈ flat es, oneC c) (hr : ∀ (k : Nat) (x : V), (flat es)[k]? = some x → Rv B G w x (vs k))
      (hfull : own = .full → cap = es.length)
      (htip : ∀ id, own = .tip id → ∃ t, G.tip id = some t ∧ (flat es).length ≤ t.n ∧ ((flat es).length = t.n → a = ⟨t.blk, t.off, none⟩ ∧ cap = t.cap ∧ sz = t.sz)) :
      Rv B G w (.sl sz own es) (.slice (some a) es.length cap)
  | hsl {sz id len b n cap : Nat} (h : G.blk id = some (b, n)) (hl : len ≤ cap) (hn : cap * sz ≤ n) : Rv B G w (.hsl sz id len) (.slice (some ⟨b, 0, none⟩) len cap)
  | nmap : Rv B G w .nmap (.map none)
  | map {id b n : Nat} (h : G.blk id = some (b, n)) : Rv B G w (.map id) (.map (some b))
  | nfn : Rv B G w .nfn .nilFunc
  | fn {f : FuncId} {caps : List V} {vs : List Value} (hl : vs.length = caps.length) (hr : ∀ (k : Nat) (x : V) (v : Value), caps[k]? = some x → vs[k]? = some v → Rv B G w x v) :
      Rv B G w (.fn f caps) (.func (.func f) #[] vs.toArray)
  | agg {cs : List V} {vs : List Value} (hl : vs.length = cs.length) (h1 : ∀ c ∈ cs, oneC c) (hr : ∀ (k : Nat) (x : V) (v : Value), cs[k]? = some x → vs[k]? = some v → Rv B G w x v) :
      Rv B G w (.agg cs) (.agg vs.toArray)
  | tup {cs : List V} {vs : List Value} (hl : vs.length = cs.length) (hr : ∀ (k : Nat) (x : V) (v : Value), cs[k]? = some x → vs[k]? = some v → Rv B G w x v) :
      Rv B G w (.tup cs) (.tuple vs.toArray)

/-- Lists of values, one by one. -/
def Rvs (B : Nat) (G : Gh) (w : World) (xs : List V) (vs : List Value) : Prop :=
  vs.length = xs.length ∧ ∀ (k : Nat) (x : V) (v : Value), xs[k]? = some x → vs[k]? = some v → Rv B G w x v

/-- More is known, and what stays has stayed. -/
structure Le (B : Nat) (G : Gh) (w : World) (G' : Gh) (w' : World) : Prop where
  blk : ∀ id p, G.blk id = some p → G'.blk id = some p
  tip : ∀ id t, G.tip id = some t → ∃ t', G'.tip id = some t' ∧ t.n ≤ t'.n ∧ (t.n = t'.n → t' = t)
  stab : ∀ b o, Stable B G b o → Stable B G' b o ∧ at? w' b o = at? w b o

theorem Le.refl (B : Nat) (G : Gh) (w : World) : Le B G w G w :=
  ⟨fun _ _ h => h, fun _ t h => ⟨t, h, Nat.le_refl _, fun _ => rfl⟩, fun _ _ h => ⟨h, rfl⟩⟩

theorem Le.trans {B : Nat} {G G' G'' : Gh} {w w' w'' : World} (h : Le B G w G' w') (k : Le B G' w' G'' w'') : Le B G w G'' w'' where
  blk id p e := k.blk id p (h.blk id p e)
  tip id t e := by
    obtain ⟨t', e', l', f'⟩ := h.tip id t e
    obtain ⟨t'', e'', l'', f''⟩ := k.tip id t' e'
    refine ⟨t'', e'', Nat.le_trans l' l'', fun he => ?_⟩
    have h1 : t.n = t'.n := by omega
    have h2 : t' = t := f' h1
    subst h2
    exact f'' he
  stab b o hs := by
    obtain ⟨s', c'⟩ := h.stab b o hs
    obtain ⟨s'', c''⟩ := k.stab b o s'
    exact ⟨s'', c''.trans c'⟩

theorem Rv.mono {B : Nat} {G G' : Gh} {w w' : World} (hle : Le B G w G' w') {x : V} {v : Value} (h : Rv B G w x v) : Rv B G' w' x v := by
  induction h with
  | bool b => exact .bool b
  | int k n => exact .int k n
  | str s => exact .str s
  | nilp => exact .nilp
  | ptr h => exact .ptr (hle.blk _ _ h)
  | iptr vs hc h1 _ ih => exact .iptr vs (fun k hk => ⟨(hle.stab _ _ (hc k hk).1).1, (hle.stab _ _ (hc k hk).1).2.trans (hc k hk).2⟩) h1 ih
  | nsl => exact .nsl
  | sl vs hsz hsp hcap hc h1 _ hfull htip ih =>
    refine .sl vs hsz hsp hcap (fun k hk => ⟨(hle.stab _ _ (hc k hk).1).1, (hle.stab _ _ (hc k hk).1).2.trans (hc k hk).2⟩) h1 ih hfull fun id e => ?_
    obtain ⟨t, ht, hn, hf⟩ := htip id e
    obtain ⟨t', ht', hn', hf'⟩ := hle.tip id t ht
    refine ⟨t', ht', Nat.le_trans hn hn', fun he => ?_⟩
    have : t' = t := hf' (by omega)
    subst this
    exact hf he
  | hsl h hl hn => exact .hsl (hle.blk _ _ h) hl hn
  | nmap => exact .nmap
  | map h => exact .map (hle.blk _ _ h)
  | nfn => exact .nfn
  | fn hl _ ih => exact .fn hl ih
  | agg hl h1 _ ih => exact .agg hl h1 ih
  | tup hl _ ih => exact .tup hl ih

theorem Rvs.mono {B : Nat} {G G' : Gh} {w w' : World} (hle : Le B G w G' w') {xs : List V} {vs : List Value} (h : Rvs B G w xs vs) : Rvs B G' w' xs vs :=
  ⟨h.1, fun k x v hx hv => (h.2 k x v hx hv).mono hle⟩

/-- The block of cells b: n of them, none frozen, the first ones as they are told. -/
structure Row (B : Nat) (G : Gh) (w : World) (b n : Nat) (cs : List V) : Prop where
  out : ∃ arr T fz, w.heap[b]? = some (.cells arr T fz) ∧ arr.size = n ∧ (fz.1 = fz.2 ∨ n ≤ fz.1) ∧ cs.length ≤ n ∧
    (∀ c ∈ cs, oneC c) ∧ ∀ (k : Nat) (x : V), cs[k]? = some x → ∃ v, arr[k]? = some v ∧ Rv B G w x v

def Ents (B : Nat) (G : Gh) (w : World) (es : List (V × V)) (l : List MapEntry) : Prop :=
  l.length = es.length ∧ ∀ (k : Nat) (x : V × V) (e : MapEntry), es[k]? = some x → l[k]? = some e → Rv B G w x.1 e.key ∧ Rv B G w x.2 e.val

/-- What a box's number holds. -/
def ObjRel (B : Nat) (G : Gh) (w : World) (id : Nat) : O → Prop
  | .box cs => ∀ b n, G.blk id = some (b, n) → Row B G w b n cs
  | .map es => ∀ b n, G.blk id = some (b, n) → ∃ l clock, w.heap[b]? = some (.map l clock) ∧ Ents B G w es l.toList
  | .tip n => ∀ t, G.tip id = some t → t.n = n ∧ ∃ arr T fz, w.heap[t.blk]? = some (.cells arr T fz) ∧ t.off + t.cap * t.sz ≤ arr.size ∧ (∀ o, o < arr.size → ¬ (fz.1 ≤ o ∧ o < fz.2))
  | .dead => True

def alive (h : Heap) (id : Nat) : Prop := (∃ cs, h[id]? = some (.box cs)) ∨ ∃ es, h[id]? = some (.map es)

/-- The ghost fits the world. -/
structure Wf (B : Nat) (G : Gh) (h : Heap) (w : World) : Prop where
  base : B ≤ w.heap.size
  blk : ∀ id p, G.blk id = some p → B ≤ p.1 ∧ p.1 < w.heap.size ∧ G.lim p.1 = none ∧ id < h.length
  tip : ∀ id t, G.tip id = some t → B ≤ t.blk ∧ t.blk < w.heap.size ∧ G.lim t.blk = some (t.off + t.n) ∧ id < h.length
  lim : ∀ b n, G.lim b = some n → B ≤ b ∧ b < w.heap.size
  inj : ∀ i j p q, G.blk i = some p → G.blk j = some q → p.1 = q.1 → alive h i → alive h j → i = j
  tinj : ∀ i j t u, G.tip i = some t → G.tip j = some u → t.blk = u.blk → i = j
  tipo : ∀ id t, G.tip id = some t → h[id]? = some (.tip t.n)

structure Rel (B : Nat) (G : Gh) (h : Heap) (w : World) : Prop where
  wf : Wf B G h w
  obj : ∀ id o, h[id]? = some o → ObjRel B G w id o

def Mapped (G : Gh) (b : Nat) : Prop := (∃ id p, G.blk id = some p ∧ p.1 = b) ∨ ∃ id t, G.tip id = some t ∧ t.blk = b

/-- From one state to a later one. -/
structure Evo (B : Nat) (G : Gh) (h : Heap) (w : World) (G' : Gh) (h' : Heap) (w' : World) : Prop where
  le : Le B G w G' w'
  os : w'.os = w.os
  tape : w'.tape = w.tape
  output : w'.output = w.output
  size : w.heap.size ≤ w'.heap.size
  len : h.length ≤ h'.length
  frame : ∀ b, b < w.heap.size → ¬ Mapped G b → w'.heap[b]? = w.heap[b]?
  fresh : ∀ b, b < w.heap.size → Mapped G' b → Mapped G b
  limk : ∀ b, b < w.heap.size → ¬ Mapped G b → G'.lim b = G.lim b
  nores : ∀ x, x < h.length → alive h' x → alive h x
  oldb : ∀ x p, x < h.length → G'.blk x = some p → G.blk x = some p
  oldt : ∀ x t, x < h.length → G'.tip x = some t → ∃ t0, G.tip x = some t0 ∧ (t.blk = t0.blk ∨ w.heap.size ≤ t.blk)
  newb : ∀ x p, h.length ≤ x → G'.blk x = some p → w.heap.size ≤ p.1 ∨ ∃ y q, y < h.length ∧ G.blk y = some q ∧ q.1 = p.1 ∧ alive h y ∧ ¬ alive h' y
  newt : ∀ x t, h.length ≤ x → G'.tip x = some t → w.heap.size ≤ t.blk

theorem Evo.refl {B : Nat} {G : Gh} {h : Heap} {w : World} (hw : Wf B G h w) : Evo B G h w G h w where
  le := .refl _ _ _
  os := rfl
  tape := rfl
  output := rfl
  size := Nat.le_refl _
  len := Nat.le_refl _
  frame _ _ _ := rfl
  fresh _ _ m := m
  limk _ _ _ := rfl
  nores _ _ a := a
  oldb _ _ _ e := e
  oldt _ t _ e := ⟨t, e, .inl rfl⟩
  newb x p hx e := absurd (hw.blk x p e).2.2.2 (by omega)
  newt x t hx e := absurd (hw.tip x t e).2.2.2 (by omega)

theorem Evo.trans {B : Nat} {G G' G'' : Gh} {h h' h'' : Heap} {w w' w'' : World} (a : Evo B G h w G' h' w') (b : Evo B G' h' w' G'' h'' w'') : Evo B G h w G'' h'' w'' where
  le := a.le.trans b.le
  os := b.os.trans a.os
  tape := b.tape.trans a.tape
  output := b.output.trans a.output
  size := Nat.le_trans a.size b.size
  len := Nat.le_trans a.len b.len
  frame i hi hm := (b.frame i (Nat.lt_of_lt_of_le hi a.size) fun m => hm (a.fresh i hi m)).trans (a.frame i hi hm)
  fresh i hi m := a.fresh i hi (b.fresh i (Nat.lt_of_lt_of_le hi a.size) m)
  limk i hi hm := (b.limk i (Nat.lt_of_lt_of_le hi a.size) fun m => hm (a.fresh i hi m)).trans (a.limk i hi hm)
  nores x hx hal := a.nores x hx (b.nores x (Nat.lt_of_lt_of_le hx a.len) hal)
  oldb x p hx e := a.oldb x p hx (b.oldb x p (Nat.lt_of_lt_of_le hx a.len) e)
  oldt x t hx e := by
    obtain ⟨t0, e0, hb⟩ := b.oldt x t (Nat.lt_of_lt_of_le hx a.len) e
    obtain ⟨t1, e1, hb1⟩ := a.oldt x t0 hx e0
    refine ⟨t1, e1, ?_⟩
    rcases hb with hb | hb
    · rcases hb1 with hb1 | hb1
      · exact .inl (hb.trans hb1)
      · exact .inr (hb ▸ hb1)
    · exact .inr (Nat.le_trans a.size hb)
  newb x p hx e := by
    have dead : ∀ y, y < h.length → ¬ alive h' y → ¬ alive h'' y := fun y hy hn hal => hn (b.nores y (Nat.lt_of_lt_of_le hy a.len) hal)
    by_cases hx' : x < h'.length
    · rcases a.newb x p hx (b.oldb x p hx' e) with hf | ⟨y, q, hy, hq, hp, hal, hn⟩
      · exact .inl hf
      · exact .inr ⟨y, q, hy, hq, hp, hal, dead y hy hn⟩
    · rcases b.newb x p (by omega) e with hf | ⟨y, q, hy, hq, hp, hal, hn⟩
      · exact .inl (Nat.le_trans a.size hf)
      · by_cases hyl : y < h.length
        · exact .inr ⟨y, q, hyl, a.oldb y q hyl hq, hp, a.nores y hyl hal, hn⟩
        · rcases a.newb y q (by omega) hq with hf | ⟨z, r, hz, hr, hp', hal', hn'⟩
          · exact .inl (hp ▸ hf)
          · exact .inr ⟨z, r, hz, hr, hp'.trans hp, hal', dead z hz hn'⟩
  newt x t hx e := by
    by_cases hx' : x < h'.length
    · obtain ⟨t0, e0, hb⟩ := b.oldt x t hx' e
      have h0 := a.newt x t0 hx e0
      rcases hb with hb | hb
      · exact hb ▸ h0
      · exact Nat.le_trans a.size hb
    · exact Nat.le_trans a.size (b.newt x t (by omega) e)

/-- A world with the same heap. -/
theorem Rv.heap {B : Nat} {G : Gh} {w w' : World} (hh : w'.heap = w.heap) {x : V} {v : Value} (h : Rv B G w x v) : Rv B G w' x v :=
  h.mono ⟨fun _ _ e => e, fun _ t e => ⟨t, e, Nat.le_refl _, fun _ => rfl⟩, fun b o hs => ⟨hs, by simp only [at?, World.cell?, hh]⟩⟩

theorem at?_of_block {w w' : World} {b o : Nat} (h : w'.heap[b]? = w.heap[b]?) : at? w' b o = at? w b o := by
  simp only [at?, World.cell?, h]

theorem Row.mono {B : Nat} {G G' : Gh} {w w' : World} (hle : Le B G w G' w') {b n : Nat} {cs : List V} (hb : w'.heap[b]? = w.heap[b]?) (h : Row B G w b n cs) : Row B G' w' b n cs := by
  obtain ⟨arr, T, fz, h1, h2, h3, h4, h5, h6⟩ := h.out
  exact ⟨arr, T, fz, hb.trans h1, h2, h3, h4, h5, fun k x hx => let ⟨v, hv, hr⟩ := h6 k x hx; ⟨v, hv, hr.mono hle⟩⟩

theorem Ents.mono {B : Nat} {G G' : Gh} {w w' : World} (hle : Le B G w G' w') {es : List (V × V)} {l : List MapEntry} (h : Ents B G w es l) : Ents B G' w' es l :=
  ⟨h.1, fun k x e hx he => ⟨((h.2 k x e hx he).1).mono hle, ((h.2 k x e hx he).2).mono hle⟩⟩

end Go.Vm
