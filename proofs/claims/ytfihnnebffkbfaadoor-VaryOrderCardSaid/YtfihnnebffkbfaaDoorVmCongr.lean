/- An instruction looks at its own temporaries alone. -/
import Derived.Test.YtfihnnebffkbfaaDoorVmSound
namespace Go.Vm
set_option linter.unusedVariables false
set_option linter.unusedSimpArgs false

theorem get_congr {e e' : Env} {a : Arg} (h : ∀ t, a = .t t → e t = e' t) : a.get e = a.get e' := by
  cases a with
  | t n => exact h n rfl
  | c v => rfl

def AgreeL (e e' : Env) (as : List Arg) : Prop := ∀ t, Arg.t t ∈ as → e t = e' t

theorem AgreeL.get {e e' : Env} {as : List Arg} (h : AgreeL e e' as) {a : Arg} (ha : a ∈ as) : a.get e = a.get e' := get_congr fun t ht => h t (ht ▸ ha)

theorem AgreeL.map {e e' : Env} {as bs : List Arg} (h : AgreeL e e' as) (hs : ∀ b ∈ bs, b ∈ as) : bs.map (·.get e) = bs.map (·.get e') :=
  List.map_congr_left fun b hb => h.get (hs b hb)

theorem fillC_congr {e e' : Env} : ∀ {ps : List (Nat × Nat × Arg)} {cs : List V}, AgreeL e e' (ps.map (·.2.2)) → fillC e cs ps = fillC e' cs ps
  | [], cs, _ => rfl
  | (o, s, a) :: r, cs, h => by
    have h1 : a.get e = a.get e' := h.get (by simp)
    have h2 : AgreeL e e' (r.map (·.2.2)) := fun t ht => h t (by simp at ht ⊢; exact .inr ht)
    simp only [fillC, h1]
    split
    · exact fillC_congr h2
    · rfl

theorem boundO_congr {e e' : Env} {x : Option Arg} (h : AgreeL e e' x.toList) : boundO e x = boundO e' x := by
  cases x with
  | none => rfl
  | some a => simp only [boundO, h.get (a := a) (by simp)]

theorem AgreeL.sub {e e' : Env} {as bs : List Arg} (h : AgreeL e e' as) (hs : ∀ b ∈ bs, b ∈ as) : AgreeL e e' bs := fun t ht => h t (hs _ ht)

theorem stepI_congr {e e' : Env} {i : Ins} {h : Heap} (ha : AgreeL e e' i.args) : stepI i e h = stepI i e' h := by
  cases i <;> simp only [Ins.args] at ha <;> simp only [stepI]
  case bsl sz ps =>
    rw [ha.map (bs := ps) (fun b hb => hb)]
    have : ∀ qs : List Arg, (∀ p ∈ qs, p.get e = p.get e') → (qs.all fun p => decide ((cells (p.get e)).length = sz) && stor (p.get e)) = (qs.all fun p => decide ((cells (p.get e')).length = sz) && stor (p.get e')) := by
      intro qs
      induction qs with
      | nil => intro _; rfl
      | cons p qs ih => intro hq; simp only [List.all_cons, hq p (by simp), ih (fun x hx => hq x (by simp [hx]))]
    rw [this ps fun p hp => ha.get hp]
  case bslb ps =>
    rw [ha.map (bs := ps) (fun b hb => hb)]
    have : ∀ qs : List Arg, (∀ p ∈ qs, p.get e = p.get e') → (qs.all fun p => decide ((cells (p.get e)).length = 1) && stor (p.get e)) = (qs.all fun p => decide ((cells (p.get e')).length = 1) && stor (p.get e')) := by
      intro qs
      induction qs with
      | nil => intro _; rfl
      | cons p qs ih => intro hq; simp only [List.all_cons, hq p (by simp), ih (fun x hx => hq x (by simp [hx]))]
    rw [this ps fun p hp => ha.get hp]
  case build z ps => rw [fillC_congr ha]
  case mkfn f cs => rw [ha.map (fun b hb => hb)]
  case mn xs => rw [ha.map (fun b hb => hb)]
  case mx xs => rw [ha.map (fun b hb => hb)]
  case slstr x lo hi =>
    rw [ha.get (a := x) (by simp), boundO_congr (x := lo) (ha.sub (fun b hb => by simp at hb ⊢; simp [hb])), boundO_congr (x := hi) (ha.sub (fun b hb => by simp at hb ⊢; simp [hb]))]
  case slsl s x lo hi mx =>
    rw [ha.get (a := x) (by simp), boundO_congr (x := lo) (ha.sub (fun b hb => by simp at hb ⊢; simp [hb])), boundO_congr (x := hi) (ha.sub (fun b hb => by simp at hb ⊢; simp [hb])), boundO_congr (x := mx) (ha.sub (fun b hb => by simp at hb ⊢; simp [hb]))]
  all_goals first
    | rfl
    | (have hg : ∀ a, a ∈ _ → Arg.get e a = Arg.get e' a := fun a h => ha.get h
       simp at hg
       simp only [hg])

theorem callI_congr {e e' : Env} {i : Ins} (ha : AgreeL e e' i.args) : callI i e = callI i e' := by
  cases i <;> simp only [Ins.args] at ha <;> simp only [callI]
  case call f xs => rw [ha.map (fun b hb => hb)]
  case callv g xs => rw [ha.get (a := g) (by simp), ha.map (bs := xs) (fun b hb => by simp [hb])]

end Go.Vm
