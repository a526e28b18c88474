/- How the relation goes on when the world changes: a new block, a box that is written, a row that grows. -/
import Derived.Test.YtfihnnebffkbfaaDoorVmRel
namespace Go.Vm
set_option linter.unusedVariables false

structure Sm (w w' : World) : Prop where
  os : w'.os = w.os
  tape : w'.tape = w.tape
  output : w'.output = w.output

theorem Sm.refl (w : World) : Sm w w := ⟨rfl, rfl, rfl⟩

def Gh.addBlk (G : Gh) (id b n : Nat) : Gh := { G with blk := fun i => if i = id then some (b, n) else G.blk i }
def Gh.addLim (G : Gh) (b n : Nat) : Gh := { G with lim := fun i => if i = b then some n else G.lim i }
def Gh.addTip (G : Gh) (id : Nat) (t : Tip) : Gh :=
  { G with tip := (fun i => if i = id then some t else G.tip i), lim := fun i => if i = t.blk then some (t.off + t.n) else G.lim i }

section
variable {B : Nat} {G G' : Gh} {h h' : Heap} {w w' : World}

theorem Stable.lt (hw : Wf B G h w) {b o : Nat} (hs : Stable B G b o) : b < w.heap.size := by
  rcases hs with hs | ⟨n, hn, _⟩
  · exact Nat.lt_of_lt_of_le hs hw.base
  · exact (hw.lim b n hn).2

theorem push_get {ob : Obj} (hh : w'.heap = w.heap.push ob) {b : Nat} (hb : b < w.heap.size) : w'.heap[b]? = w.heap[b]? := by
  rw [hh, Array.getElem?_push, if_neg (by omega)]

theorem push_new {ob : Obj} (hh : w'.heap = w.heap.push ob) : w'.heap[w.heap.size]? = some ob := by
  rw [hh, Array.getElem?_push, if_pos rfl]

theorem push_size {ob : Obj} (hh : w'.heap = w.heap.push ob) : w'.heap.size = w.heap.size + 1 := by rw [hh]; simp

theorem le_push {ob : Obj} (hw : Wf B G h w) (hh : w'.heap = w.heap.push ob) (hb : ∀ id p, G.blk id = some p → G'.blk id = some p)
    (ht : ∀ id t, G.tip id = some t → G'.tip id = some t) (hl : ∀ b, b < w.heap.size → G'.lim b = G.lim b) : Le B G w G' w' where
  blk := hb
  tip id t e := ⟨t, ht id t e, Nat.le_refl _, fun _ => rfl⟩
  stab b o hs := by
    have hlt := Stable.lt hw hs
    refine ⟨?_, at?_of_block (push_get hh hlt)⟩
    rcases hs with hs | ⟨n, hn, ho⟩
    · exact .inl hs
    · exact .inr ⟨n, (hl b hlt).trans hn, ho⟩

/-- What a box's number holds stays, where its block is as it was. -/
theorem ObjRel.mono (hle : Le B G w G' w') {id : Nat} {o : O} (ho : ObjRel B G w id o)
    (hb : (∃ cs, o = .box cs) ∨ (∃ es, o = .map es) → ∀ p, G'.blk id = some p → G.blk id = some p ∧ w'.heap[p.1]? = w.heap[p.1]?)
    (ht : (∃ n, o = .tip n) → ∀ t, G'.tip id = some t → G.tip id = some t ∧ w'.heap[t.blk]? = w.heap[t.blk]?) : ObjRel B G' w' id o := by
  cases o with
  | box cs =>
    intro b n e
    obtain ⟨e0, hs⟩ := hb (.inl ⟨cs, rfl⟩) _ e
    exact (ho b n e0).mono hle hs
  | map es =>
    intro b n e
    obtain ⟨e0, hs⟩ := hb (.inr ⟨es, rfl⟩) _ e
    obtain ⟨l, clock, h1, h2⟩ := ho b n e0
    exact ⟨l, clock, hs.trans h1, h2.mono hle⟩
  | tip n =>
    intro t e
    obtain ⟨e0, hs⟩ := ht ⟨n, rfl⟩ _ e
    obtain ⟨h1, arr, T, fz, h2, h3⟩ := ho t e0
    exact ⟨h1, arr, T, fz, hs.trans h2, h3⟩
  | dead => trivial

theorem alive_append {o : O} {i : Nat} (hi : i < h.length) : alive (h ++ [o]) i ↔ alive h i := by
  simp only [alive, List.getElem?_append_left hi]

theorem alive_lt {i : Nat} (ha : alive h i) : i < h.length := by
  rcases ha with ⟨cs, e⟩ | ⟨es, e⟩ <;> exact (List.getElem?_eq_some_iff.1 e).1

/-- A new block behind a new number. -/
theorem push_blk {ob : Obj} {o : O} {n : Nat} (hr : Rel B G h w) (sm : Sm w w') (hh : w'.heap = w.heap.push ob)
    (ho : Le B G w (G.addBlk h.length w.heap.size n) w' → ObjRel B (G.addBlk h.length w.heap.size n) w' h.length o) :
    Rel B (G.addBlk h.length w.heap.size n) (h ++ [o]) w' ∧ Evo B G h w (G.addBlk h.length w.heap.size n) (h ++ [o]) w' := by
  have hw := hr.wf
  have hnew : G.blk h.length = none := by
    cases e : G.blk h.length with
    | none => rfl
    | some p => exact absurd (hw.blk _ _ e).2.2.2 (by omega)
  have hnewt : G.tip h.length = none := by
    cases e : G.tip h.length with
    | none => rfl
    | some p => exact absurd (hw.tip _ _ e).2.2.2 (by omega)
  have hle : Le B G w (G.addBlk h.length w.heap.size n) w' := le_push hw hh
    (fun id p e => by simp only [Gh.addBlk]; rw [if_neg (by rintro rfl; rw [hnew] at e; cases e)]; exact e) (fun id t e => e) (fun _ _ => rfl)
  have hsz := push_size hh
  have blk' : ∀ id p, (G.addBlk h.length w.heap.size n).blk id = some p → (id = h.length ∧ p = (w.heap.size, n)) ∨ (id ≠ h.length ∧ G.blk id = some p) := by
    intro id p e
    simp only [Gh.addBlk] at e
    by_cases hid : id = h.length
    · rw [if_pos hid] at e; exact .inl ⟨hid, (Option.some.inj e).symm⟩
    · rw [if_neg hid] at e; exact .inr ⟨hid, e⟩
  have limn : G.lim w.heap.size = none := by
    cases e : G.lim w.heap.size with
    | none => rfl
    | some p => exact absurd (hw.lim _ _ e).2 (by omega)
  have wf' : Wf B (G.addBlk h.length w.heap.size n) (h ++ [o]) w' := by
    refine ⟨by have := hw.base; omega, ?_, ?_, ?_, ?_, ?_, ?_⟩
    · intro id p e
      rcases blk' id p e with ⟨rfl, rfl⟩ | ⟨_, e0⟩
      · exact ⟨hw.base, by show w.heap.size < _; omega, limn, by simp⟩
      · obtain ⟨a, b, c, d⟩ := hw.blk id p e0
        exact ⟨a, by omega, c, by simp; omega⟩
    · intro id t e
      obtain ⟨a, b, c, d⟩ := hw.tip id t e
      exact ⟨a, by omega, c, by simp; omega⟩
    · intro b m e
      obtain ⟨x, y⟩ := hw.lim b m e
      exact ⟨x, by omega⟩
    · intro i j p q ei ej hpq ai aj
      rcases blk' i p ei with ⟨rfl, rfl⟩ | ⟨hi, e0⟩ <;> rcases blk' j q ej with ⟨rfl, rfl⟩ | ⟨hj, f0⟩
      · rfl
      · have := (hw.blk j q f0).2.1; simp only at hpq; omega
      · have := (hw.blk i p e0).2.1; simp only at hpq; omega
      · have li := (hw.blk i p e0).2.2.2
        have lj := (hw.blk j q f0).2.2.2
        exact hw.inj i j p q e0 f0 hpq ((alive_append li).1 ai) ((alive_append lj).1 aj)
    · exact hw.tinj
    · intro i t e
      rw [List.getElem?_append_left (hw.tip i t e).2.2.2]
      exact hw.tipo i t e
  refine ⟨⟨wf', ?_⟩, ?_⟩
  · intro id x e
    rcases Nat.lt_trichotomy id h.length with hlt | heq | hgt
    · rw [List.getElem?_append_left hlt] at e
      refine (hr.obj id x e).mono hle (fun _ p ep => ?_) (fun _ t et => ?_)
      · rcases blk' id p ep with ⟨rfl, _⟩ | ⟨_, e0⟩
        · omega
        · exact ⟨e0, push_get hh (hw.blk id p e0).2.1⟩
      · exact ⟨et, push_get hh (hw.tip id t et).2.1⟩
    · subst heq
      rw [List.getElem?_append_right (Nat.le_refl _)] at e
      simp at e
      subst e
      exact ho hle
    · rw [List.getElem?_eq_none (by simp; omega)] at e
      cases e
  · exact {
      le := hle, os := sm.os, tape := sm.tape, output := sm.output, size := by omega, len := by simp
      frame := fun b hb _ => push_get hh hb
      fresh := by
        rintro b hb (⟨id, p, e, rfl⟩ | ⟨id, t, e, rfl⟩)
        · rcases blk' id p e with ⟨rfl, rfl⟩ | ⟨_, e0⟩
          · simp only at hb; omega
          · exact .inl ⟨id, p, e0, rfl⟩
        · exact .inr ⟨id, t, e, rfl⟩
      limk := fun _ _ _ => rfl
      nores := fun x hx ha => (alive_append hx).1 ha
      oldb := by
        intro x p hx e
        rcases blk' x p e with ⟨rfl, _⟩ | ⟨_, e0⟩
        · omega
        · exact e0
      oldt := fun x t hx e => ⟨t, e, .inl rfl⟩
      newb := by
        intro x p hx e
        rcases blk' x p e with ⟨rfl, rfl⟩ | ⟨_, e0⟩
        · exact .inl (Nat.le_refl _)
        · exact absurd (hw.blk x p e0).2.2.2 (by omega)
      newt := fun x t hx e => absurd (hw.tip x t e).2.2.2 (by omega) }

/-- A new block that nobody writes. -/
theorem push_lim {ob : Obj} {n : Nat} (hr : Rel B G h w) (sm : Sm w w') (hh : w'.heap = w.heap.push ob) :
    Rel B (G.addLim w.heap.size n) h w' ∧ Evo B G h w (G.addLim w.heap.size n) h w' := by
  have hw := hr.wf
  have hsz := push_size hh
  have liml : ∀ b, b < w.heap.size → (G.addLim w.heap.size n).lim b = G.lim b := fun b hb => by simp only [Gh.addLim]; rw [if_neg (by omega)]
  have hle : Le B G w (G.addLim w.heap.size n) w' := le_push hw hh (fun _ _ e => e) (fun _ _ e => e) liml
  have wf' : Wf B (G.addLim w.heap.size n) h w' := by
    refine ⟨by have := hw.base; omega, ?_, ?_, ?_, hw.inj, hw.tinj, hw.tipo⟩
    · intro id p e
      obtain ⟨a, b, c, d⟩ := hw.blk id p e
      exact ⟨a, by omega, (liml _ b).trans c, d⟩
    · intro id t e
      obtain ⟨a, b, c, d⟩ := hw.tip id t e
      exact ⟨a, by omega, (liml _ b).trans c, d⟩
    · intro b m e
      simp only [Gh.addLim] at e
      by_cases hb : b = w.heap.size
      · subst hb; exact ⟨hw.base, by omega⟩
      · rw [if_neg hb] at e
        obtain ⟨x, y⟩ := hw.lim b m e
        exact ⟨x, by omega⟩
  refine ⟨⟨wf', fun id x e => (hr.obj id x e).mono hle (fun _ p ep => ⟨ep, push_get hh (hw.blk id p ep).2.1⟩) (fun _ t et => ⟨et, push_get hh (hw.tip id t et).2.1⟩)⟩, ?_⟩
  exact {
      le := hle, os := sm.os, tape := sm.tape, output := sm.output, size := by omega, len := Nat.le_refl _
      frame := fun b hb _ => push_get hh hb
      fresh := fun b hb m => m
      limk := fun b hb _ => liml b hb
      nores := fun x hx ha => ha
      oldb := fun x p hx e => e
      oldt := fun x t hx e => ⟨t, e, .inl rfl⟩
      newb := fun x p hx e => absurd (hw.blk x p e).2.2.2 (by omega)
      newt := fun x t hx e => absurd (hw.tip x t e).2.2.2 (by omega) }

/-- A new row that may grow, behind a new number. -/
theorem push_tip {ob : Obj} {n cap sz : Nat} (hr : Rel B G h w) (sm : Sm w w') (hh : w'.heap = w.heap.push ob)
    (ho : ∃ arr T fz, ob = .cells arr T fz ∧ cap * sz ≤ arr.size ∧ (∀ o, o < arr.size → ¬ (fz.1 ≤ o ∧ o < fz.2))) :
    Rel B (G.addTip h.length ⟨n, w.heap.size, 0, cap, sz⟩) (h ++ [.tip n]) w' ∧ Evo B G h w (G.addTip h.length ⟨n, w.heap.size, 0, cap, sz⟩) (h ++ [.tip n]) w' := by
  have hw := hr.wf
  have hnewt : G.tip h.length = none := by
    cases e : G.tip h.length with
    | none => rfl
    | some p => exact absurd (hw.tip _ _ e).2.2.2 (by omega)
  have hsz := push_size hh
  have liml : ∀ b, b < w.heap.size → (G.addTip h.length ⟨n, w.heap.size, 0, cap, sz⟩).lim b = G.lim b := fun b hb => by simp only [Gh.addTip]; rw [if_neg (by omega)]
  have hle : Le B G w (G.addTip h.length ⟨n, w.heap.size, 0, cap, sz⟩) w' := le_push hw hh
    (fun id p e => e) (fun id t e => by simp only [Gh.addTip]; rw [if_neg (by rintro rfl; rw [hnewt] at e; cases e)]; exact e) liml
  have tip' : ∀ id t, (G.addTip h.length ⟨n, w.heap.size, 0, cap, sz⟩).tip id = some t → (id = h.length ∧ t = ⟨n, w.heap.size, 0, cap, sz⟩) ∨ (id ≠ h.length ∧ G.tip id = some t) := by
    intro id t e
    simp only [Gh.addTip] at e
    by_cases hid : id = h.length
    · rw [if_pos hid] at e; exact .inl ⟨hid, (Option.some.inj e).symm⟩
    · rw [if_neg hid] at e; exact .inr ⟨hid, e⟩
  have wf' : Wf B (G.addTip h.length ⟨n, w.heap.size, 0, cap, sz⟩) (h ++ [.tip n]) w' := by
    refine ⟨by have := hw.base; omega, ?_, ?_, ?_, ?_, ?_, ?_⟩
    · intro id p e
      obtain ⟨a, b, c, d⟩ := hw.blk id p e
      exact ⟨a, by omega, (liml _ b).trans c, by simp; omega⟩
    · intro id t e
      rcases tip' id t e with ⟨rfl, rfl⟩ | ⟨_, e0⟩
      · exact ⟨hw.base, by show w.heap.size < _; omega, by simp [Gh.addTip], by simp⟩
      · obtain ⟨a, b, c, d⟩ := hw.tip id t e0
        exact ⟨a, by omega, (liml _ b).trans c, by simp; omega⟩
    · intro b m e
      simp only [Gh.addTip] at e
      by_cases hb : b = w.heap.size
      · subst hb; exact ⟨hw.base, by omega⟩
      · rw [if_neg hb] at e
        obtain ⟨x, y⟩ := hw.lim b m e
        exact ⟨x, by omega⟩
    · intro i j p q ei ej hpq ai aj
      have li := (hw.blk i p ei).2.2.2
      have lj := (hw.blk j q ej).2.2.2
      exact hw.inj i j p q ei ej hpq ((alive_append li).1 ai) ((alive_append lj).1 aj)
    · intro i j t u ei ej htu
      rcases tip' i t ei with ⟨rfl, rfl⟩ | ⟨hi, e0⟩ <;> rcases tip' j u ej with ⟨rfl, rfl⟩ | ⟨hj, f0⟩
      · rfl
      · have := (hw.tip j u f0).2.1; simp only at htu; omega
      · have := (hw.tip i t e0).2.1; simp only at htu; omega
      · exact hw.tinj i j t u e0 f0 htu
    · intro i t e
      rcases tip' i t e with ⟨rfl, rfl⟩ | ⟨_, e0⟩
      · simp
      · rw [List.getElem?_append_left (hw.tip i t e0).2.2.2]
        exact hw.tipo i t e0
  refine ⟨⟨wf', ?_⟩, ?_⟩
  · intro id x e
    rcases Nat.lt_trichotomy id h.length with hlt | heq | hgt
    · rw [List.getElem?_append_left hlt] at e
      refine (hr.obj id x e).mono hle (fun _ p ep => ⟨ep, push_get hh (hw.blk id p ep).2.1⟩) (fun _ t et => ?_)
      rcases tip' id t et with ⟨rfl, _⟩ | ⟨_, e0⟩
      · omega
      · exact ⟨e0, push_get hh (hw.tip id t e0).2.1⟩
    · subst heq
      rw [List.getElem?_append_right (Nat.le_refl _)] at e
      simp at e
      subst e
      intro t et
      rcases tip' _ t et with ⟨_, rfl⟩ | ⟨hne, _⟩
      · obtain ⟨arr, T, fz, rfl, h1, h2⟩ := ho
        exact ⟨rfl, arr, T, fz, push_new hh, by simpa using h1, h2⟩
      · exact absurd rfl hne
    · rw [List.getElem?_eq_none (by simp; omega)] at e
      cases e
  · exact {
      le := hle, os := sm.os, tape := sm.tape, output := sm.output, size := by omega, len := by simp
      frame := fun b hb _ => push_get hh hb
      fresh := by
        rintro b hb (⟨id, p, e, rfl⟩ | ⟨id, t, e, rfl⟩)
        · exact .inl ⟨id, p, e, rfl⟩
        · rcases tip' id t e with ⟨rfl, rfl⟩ | ⟨_, e0⟩
          · simp only at hb; omega
          · exact .inr ⟨id, t, e0, rfl⟩
      limk := fun b hb _ => liml b hb
      nores := fun x hx ha => (alive_append hx).1 ha
      oldb := fun x p hx e => e
      oldt := by
        intro x t hx e
        rcases tip' x t e with ⟨rfl, _⟩ | ⟨_, e0⟩
        · omega
        · exact ⟨t, e0, .inl rfl⟩
      newb := fun x p hx e => absurd (hw.blk x p e).2.2.2 (by omega)
      newt := by
        intro x t hx e
        rcases tip' x t e with ⟨rfl, rfl⟩ | ⟨_, e0⟩
        · exact Nat.le_refl _
        · exact absurd (hw.tip x t e0).2.2.2 (by omega) }


theorem alive_of {i : Nat} {o : O} (e : h[i]? = some o) (k : (∃ cs, o = .box cs) ∨ (∃ es, o = .map es)) : alive h i := by
  rcases k with ⟨cs, rfl⟩ | ⟨es, rfl⟩
  · exact .inl ⟨cs, e⟩
  · exact .inr ⟨es, e⟩

theorem get_set {i id : Nat} {o x : O} (e : (h.set id o)[i]? = some x) : (i = id ∧ x = o) ∨ (i ≠ id ∧ h[i]? = some x) := by
  rw [List.getElem?_set] at e
  by_cases hi : id = i
  · rw [if_pos hi] at e
    split at e
    · exact .inl ⟨hi.symm, (Option.some.inj e).symm⟩
    · cases e
  · rw [if_neg hi] at e
    exact .inr ⟨fun h => hi h.symm, e⟩

theorem alive_set {i id : Nat} {o : O} (ha : alive (h.set id o) i) (hid : alive h id) : alive h i := by
  rcases ha with ⟨cs, e⟩ | ⟨cs, e⟩ <;> rcases get_set e with ⟨rfl, _⟩ | ⟨_, e0⟩
  · exact hid
  · exact .inl ⟨cs, e0⟩
  · exact hid
  · exact .inr ⟨cs, e0⟩

theorem not_stable_blk (hw : Wf B G h w) {id b n : Nat} (hg : G.blk id = some (b, n)) {o : Nat} : ¬ Stable B G b o := by
  obtain ⟨h1, _, h3, _⟩ := hw.blk id _ hg
  rintro (hs | ⟨m, hm, _⟩)
  · simp only at h1; omega
  · simp only at h3; rw [h3] at hm; cases hm

theorem tip_not_alive (hw : Wf B G h w) {i : Nat} {t : Tip} (e : G.tip i = some t) : ¬ alive h i := by
  have := hw.tipo i t e
  rintro (⟨cs, h1⟩ | ⟨cs, h1⟩) <;> (rw [this] at h1; cases h1)

/-- A block of a box's is written. -/
theorem set_blk {id b n : Nat} {o : O} (hr : Rel B G h w) (sm : Sm w w') (hg : G.blk id = some (b, n)) (hal : alive h id) (hs : w'.heap.size = w.heap.size)
    (hoth : ∀ c, c ≠ b → w'.heap[c]? = w.heap[c]?) (ho : Le B G w G w' → ObjRel B G w' id o) :
    Rel B G (h.set id o) w' ∧ Evo B G h w G (h.set id o) w' := by
  have hw := hr.wf
  have hle : Le B G w G w' := ⟨fun _ _ e => e, fun id t e => ⟨t, e, Nat.le_refl _, fun _ => rfl⟩, fun c k hsn => ⟨hsn, at?_of_block (hoth c (by
    rintro rfl; exact not_stable_blk hw hg hsn))⟩⟩
  have wf' : Wf B G (h.set id o) w' := by
    refine ⟨by have := hw.base; omega, ?_, ?_, ?_, ?_, hw.tinj, ?_⟩
    · intro i p e
      obtain ⟨a, b, c, d⟩ := hw.blk i p e
      exact ⟨a, by omega, c, by simpa using d⟩
    · intro i t e
      obtain ⟨a, b, c, d⟩ := hw.tip i t e
      exact ⟨a, by omega, c, by simpa using d⟩
    · intro b m e
      obtain ⟨x, y⟩ := hw.lim b m e
      exact ⟨x, by omega⟩
    · intro i j p q ei ej hpq ai aj
      exact hw.inj i j p q ei ej hpq (alive_set ai hal) (alive_set aj hal)
    · intro i t e
      rw [List.getElem?_set, if_neg (by rintro rfl; exact tip_not_alive hw e hal)]
      exact hw.tipo i t e
  refine ⟨⟨wf', ?_⟩, ?_⟩
  · intro i x e
    rcases get_set e with ⟨rfl, rfl⟩ | ⟨hne, e0⟩
    · exact ho hle
    · refine (hr.obj i x e0).mono hle (fun k p ep => ⟨ep, hoth _ fun hpb => hne ?_⟩) (fun _ t et => ⟨et, hoth _ fun hpb => ?_⟩)
      · exact hw.inj i id p _ ep hg hpb (alive_of e0 k) hal
      · have h1 := (hw.tip i t et).2.2.1
        have h2 := (hw.blk id _ hg).2.2.1
        simp only at h2
        rw [hpb, h2] at h1
        cases h1
  · exact {
      le := hle, os := sm.os, tape := sm.tape, output := sm.output, size := by omega, len := by simp
      frame := fun c hc hm => hoth c (by rintro rfl; exact hm (.inl ⟨id, _, hg, rfl⟩))
      fresh := fun b hb m => m
      limk := fun b hb _ => rfl
      nores := fun x hx ha => alive_set ha hal
      oldb := fun x p hx e => e
      oldt := fun x t hx e => ⟨t, e, .inl rfl⟩
      newb := fun x p hx e => absurd (hw.blk x p e).2.2.2 (by omega)
      newt := fun x t hx e => absurd (hw.tip x t e).2.2.2 (by omega) }

/-- The row of a tip grows in its place. -/
theorem grow_in {id n : Nat} {t : Tip} (hr : Rel B G h w) (sm : Sm w w') (hg : G.tip id = some t) (hn : t.n ≤ n) (hs : w'.heap.size = w.heap.size)
    (hoth : ∀ c, c ≠ t.blk → w'.heap[c]? = w.heap[c]?) (hat : ∀ o, o < t.off + t.n → at? w' t.blk o = at? w t.blk o)
    (hrow : ∃ arr T fz, w'.heap[t.blk]? = some (.cells arr T fz) ∧ t.off + t.cap * t.sz ≤ arr.size ∧ (∀ o, o < arr.size → ¬ (fz.1 ≤ o ∧ o < fz.2))) (hid : ∃ m, h[id]? = some (.tip m)) :
    Rel B (G.addTip id { t with n := n }) (h.set id (.tip n)) w' ∧ Evo B G h w (G.addTip id { t with n := n }) (h.set id (.tip n)) w' := by
  have hw := hr.wf
  obtain ⟨hB, hlt, hlim, hidl⟩ := hw.tip id t hg
  have tip' : ∀ i u, (G.addTip id { t with n := n }).tip i = some u → (i = id ∧ u = { t with n := n }) ∨ (i ≠ id ∧ G.tip i = some u) := by
    intro i u e
    simp only [Gh.addTip] at e
    by_cases hi : i = id
    · rw [if_pos hi] at e; exact .inl ⟨hi, (Option.some.inj e).symm⟩
    · rw [if_neg hi] at e; exact .inr ⟨hi, e⟩
  have limo : ∀ c, c ≠ t.blk → (G.addTip id { t with n := n }).lim c = G.lim c := fun c hc => by simp only [Gh.addTip]; rw [if_neg hc]
  have limt : (G.addTip id { t with n := n }).lim t.blk = some (t.off + n) := by simp [Gh.addTip]
  have hle : Le B G w (G.addTip id { t with n := n }) w' := by
    refine ⟨fun _ _ e => e, fun i u e => ?_, fun c k hsn => ?_⟩
    · by_cases hi : i = id
      · subst hi
        have : u = t := Option.some.inj (e.symm.trans hg)
        subst this
        exact ⟨{ u with n := n }, by simp [Gh.addTip], hn, fun he => by simp only at he; cases u; simp_all⟩
      · exact ⟨u, by simp only [Gh.addTip]; rw [if_neg hi]; exact e, Nat.le_refl _, fun _ => rfl⟩
    · by_cases hc : c = t.blk
      · subst hc
        rcases hsn with hsn | ⟨m, hm, hk⟩
        · omega
        · rw [hlim] at hm
          have := Option.some.inj hm
          exact ⟨.inr ⟨_, limt, by omega⟩, hat k (by omega)⟩
      · refine ⟨?_, at?_of_block (hoth c hc)⟩
        rcases hsn with hsn | ⟨m, hm, hk⟩
        · exact .inl hsn
        · exact .inr ⟨m, (limo c hc).trans hm, hk⟩
  have blkne : ∀ i p, G.blk i = some p → p.1 ≠ t.blk := fun i p e hp => by
    have h2 := (hw.blk i p e).2.2.1
    rw [hp, hlim] at h2
    cases h2
  have al : ∀ i, alive (h.set id (.tip n)) i → alive h i := by
    intro i ha
    rcases ha with ⟨cs, e⟩ | ⟨cs, e⟩ <;> rcases get_set e with ⟨_, hx⟩ | ⟨_, e0⟩
    · cases hx
    · exact .inl ⟨cs, e0⟩
    · cases hx
    · exact .inr ⟨cs, e0⟩
  have wf' : Wf B (G.addTip id { t with n := n }) (h.set id (.tip n)) w' := by
    refine ⟨by have := hw.base; omega, ?_, ?_, ?_, ?_, ?_, ?_⟩
    · intro i p e
      obtain ⟨a, b, c, d⟩ := hw.blk i p e
      exact ⟨a, by omega, (limo _ (blkne i p e)).trans c, by simpa using d⟩
    · intro i u e
      rcases tip' i u e with ⟨rfl, rfl⟩ | ⟨hi, e0⟩
      · exact ⟨hB, by show t.blk < _; omega, limt, by simpa using hidl⟩
      · obtain ⟨a, b, c, d⟩ := hw.tip i u e0
        exact ⟨a, by omega, (limo _ fun hh => hi (hw.tinj i id u t e0 hg hh)).trans c, by simpa using d⟩
    · intro c m e
      by_cases hc : c = t.blk
      · subst hc; exact ⟨hB, by omega⟩
      · rw [limo c hc] at e
        obtain ⟨x, y⟩ := hw.lim c m e
        exact ⟨x, by omega⟩
    · intro i j p q ei ej hpq ai aj
      exact hw.inj i j p q ei ej hpq (al i ai) (al j aj)
    · intro i j u v ei ej huv
      rcases tip' i u ei with ⟨rfl, rfl⟩ | ⟨hi, e0⟩ <;> rcases tip' j v ej with ⟨rfl, rfl⟩ | ⟨hj, f0⟩
      · rfl
      · exact hw.tinj _ _ t v hg f0 huv
      · exact hw.tinj _ _ u t e0 hg huv
      · exact hw.tinj i j u v e0 f0 huv
    · intro i u e
      rcases tip' i u e with ⟨rfl, rfl⟩ | ⟨hi, e0⟩
      · rw [List.getElem?_set, if_pos rfl, if_pos hidl]
      · rw [List.getElem?_set, if_neg (fun hh => hi hh.symm)]
        exact hw.tipo i u e0
  refine ⟨⟨wf', ?_⟩, ?_⟩
  · intro i x e
    rcases get_set e with ⟨rfl, rfl⟩ | ⟨hne, e0⟩
    · intro u eu
      rcases tip' _ u eu with ⟨_, rfl⟩ | ⟨hi, _⟩
      · exact ⟨rfl, hrow⟩
      · exact absurd rfl hi
    · refine (hr.obj i x e0).mono hle (fun k p ep => ⟨ep, hoth _ (blkne i p ep)⟩) (fun _ u eu => ?_)
      rcases tip' i u eu with ⟨hi, _⟩ | ⟨_, f0⟩
      · exact absurd hi hne
      · exact ⟨f0, hoth _ fun hh => hne (hw.tinj i id u t f0 hg hh)⟩
  · exact {
      le := hle, os := sm.os, tape := sm.tape, output := sm.output, size := by omega, len := by simp
      frame := fun c hc hm => hoth c (by rintro rfl; exact hm (.inr ⟨id, t, hg, rfl⟩))
      fresh := by
        rintro c hc (⟨i, p, e, rfl⟩ | ⟨i, u, e, rfl⟩)
        · exact .inl ⟨i, p, e, rfl⟩
        · rcases tip' i u e with ⟨rfl, rfl⟩ | ⟨_, e0⟩
          · exact .inr ⟨_, t, hg, rfl⟩
          · exact .inr ⟨i, u, e0, rfl⟩
      limk := fun c hc hm => limo c (by rintro rfl; exact hm (.inr ⟨id, t, hg, rfl⟩))
      nores := fun x hx ha => al x ha
      oldb := fun x p hx e => e
      oldt := by
        intro x u hx e
        rcases tip' x u e with ⟨rfl, rfl⟩ | ⟨_, e0⟩
        · exact ⟨t, hg, .inl rfl⟩
        · exact ⟨u, e0, .inl rfl⟩
      newb := fun x p hx e => absurd (hw.blk x p e).2.2.2 (by omega)
      newt := by
        intro x u hx e
        rcases tip' x u e with ⟨rfl, rfl⟩ | ⟨_, e0⟩
        · omega
        · exact absurd (hw.tip x u e0).2.2.2 (by omega) }

/-- The row of a tip grows into a new block. -/
theorem grow_new {ob : Obj} {id n cap sz : Nat} {t : Tip} (hr : Rel B G h w) (sm : Sm w w') (hg : G.tip id = some t) (hn : t.n < n) (hh : w'.heap = w.heap.push ob)
    (ho : ∃ arr T fz, ob = .cells arr T fz ∧ cap * sz ≤ arr.size ∧ (∀ o, o < arr.size → ¬ (fz.1 ≤ o ∧ o < fz.2))) (hid : ∃ m, h[id]? = some (.tip m)) :
    Rel B (G.addTip id ⟨n, w.heap.size, 0, cap, sz⟩) (h.set id (.tip n)) w' ∧ Evo B G h w (G.addTip id ⟨n, w.heap.size, 0, cap, sz⟩) (h.set id (.tip n)) w' := by
  have hw := hr.wf
  have hsz := push_size hh
  obtain ⟨hB, hlt, hlim, hidl⟩ := hw.tip id t hg
  have tip' : ∀ i u, (G.addTip id ⟨n, w.heap.size, 0, cap, sz⟩).tip i = some u → (i = id ∧ u = ⟨n, w.heap.size, 0, cap, sz⟩) ∨ (i ≠ id ∧ G.tip i = some u) := by
    intro i u e
    simp only [Gh.addTip] at e
    by_cases hi : i = id
    · rw [if_pos hi] at e; exact .inl ⟨hi, (Option.some.inj e).symm⟩
    · rw [if_neg hi] at e; exact .inr ⟨hi, e⟩
  have limo : ∀ c, c < w.heap.size → (G.addTip id ⟨n, w.heap.size, 0, cap, sz⟩).lim c = G.lim c := fun c hc => by simp only [Gh.addTip]; rw [if_neg (by omega)]
  have limt : (G.addTip id ⟨n, w.heap.size, 0, cap, sz⟩).lim w.heap.size = some (0 + n) := by simp [Gh.addTip]
  have hle : Le B G w (G.addTip id ⟨n, w.heap.size, 0, cap, sz⟩) w' := by
    refine ⟨fun _ _ e => e, fun i u e => ?_, fun c k hsn => ?_⟩
    · by_cases hi : i = id
      · subst hi
        have : u = t := Option.some.inj (e.symm.trans hg)
        subst this
        exact ⟨⟨n, w.heap.size, 0, cap, sz⟩, by simp [Gh.addTip], Nat.le_of_lt hn, fun he => by simp only at he; omega⟩
      · exact ⟨u, by simp only [Gh.addTip]; rw [if_neg hi]; exact e, Nat.le_refl _, fun _ => rfl⟩
    · have hc := Stable.lt hw hsn
      refine ⟨?_, at?_of_block (push_get hh hc)⟩
      rcases hsn with hsn | ⟨m, hm, hk⟩
      · exact .inl hsn
      · exact .inr ⟨m, (limo c hc).trans hm, hk⟩
  have al : ∀ i, alive (h.set id (.tip n)) i → alive h i := by
    intro i ha
    rcases ha with ⟨cs, e⟩ | ⟨cs, e⟩ <;> rcases get_set e with ⟨_, hx⟩ | ⟨_, e0⟩
    · cases hx
    · exact .inl ⟨cs, e0⟩
    · cases hx
    · exact .inr ⟨cs, e0⟩
  have wf' : Wf B (G.addTip id ⟨n, w.heap.size, 0, cap, sz⟩) (h.set id (.tip n)) w' := by
    refine ⟨by have := hw.base; omega, ?_, ?_, ?_, ?_, ?_, ?_⟩
    · intro i p e
      obtain ⟨a, b, c, d⟩ := hw.blk i p e
      exact ⟨a, by omega, (limo _ b).trans c, by simpa using d⟩
    · intro i u e
      rcases tip' i u e with ⟨rfl, rfl⟩ | ⟨hi, e0⟩
      · exact ⟨hw.base, by show w.heap.size < _; omega, limt, by simpa using hidl⟩
      · obtain ⟨a, b, c, d⟩ := hw.tip i u e0
        exact ⟨a, by omega, (limo _ b).trans c, by simpa using d⟩
    · intro c m e
      simp only [Gh.addTip] at e
      by_cases hc : c = w.heap.size
      · subst hc; exact ⟨hw.base, by omega⟩
      · rw [if_neg hc] at e
        obtain ⟨x, y⟩ := hw.lim c m e
        exact ⟨x, by omega⟩
    · intro i j p q ei ej hpq ai aj
      exact hw.inj i j p q ei ej hpq (al i ai) (al j aj)
    · intro i j u v ei ej huv
      rcases tip' i u ei with ⟨rfl, rfl⟩ | ⟨hi, e0⟩ <;> rcases tip' j v ej with ⟨rfl, rfl⟩ | ⟨hj, f0⟩
      · rfl
      · have := (hw.tip j v f0).2.1; simp only at huv; omega
      · have := (hw.tip i u e0).2.1; simp only at huv; omega
      · exact hw.tinj i j u v e0 f0 huv
    · intro i u e
      rcases tip' i u e with ⟨rfl, rfl⟩ | ⟨hi, e0⟩
      · rw [List.getElem?_set, if_pos rfl, if_pos hidl]
      · rw [List.getElem?_set, if_neg (fun hh => hi hh.symm)]
        exact hw.tipo i u e0
  refine ⟨⟨wf', ?_⟩, ?_⟩
  · intro i x e
    rcases get_set e with ⟨rfl, rfl⟩ | ⟨hne, e0⟩
    · intro u eu
      rcases tip' _ u eu with ⟨_, rfl⟩ | ⟨hi, _⟩
      · obtain ⟨arr, T, fz, rfl, h1, h2⟩ := ho
        exact ⟨rfl, arr, T, fz, push_new hh, by simpa using h1, h2⟩
      · exact absurd rfl hi
    · refine (hr.obj i x e0).mono hle (fun k p ep => ⟨ep, push_get hh (hw.blk i p ep).2.1⟩) (fun _ u eu => ?_)
      rcases tip' i u eu with ⟨hi, _⟩ | ⟨_, f0⟩
      · exact absurd hi hne
      · exact ⟨f0, push_get hh (hw.tip i u f0).2.1⟩
  · exact {
      le := hle, os := sm.os, tape := sm.tape, output := sm.output, size := by omega, len := by simp
      frame := fun c hc hm => push_get hh hc
      fresh := by
        rintro c hc (⟨i, p, e, rfl⟩ | ⟨i, u, e, rfl⟩)
        · exact .inl ⟨i, p, e, rfl⟩
        · rcases tip' i u e with ⟨rfl, rfl⟩ | ⟨_, e0⟩
          · simp only at hc; omega
          · exact .inr ⟨i, u, e0, rfl⟩
      limk := fun c hc hm => limo c hc
      nores := fun x hx ha => al x ha
      oldb := fun x p hx e => e
      oldt := by
        intro x u hx e
        rcases tip' x u e with ⟨rfl, rfl⟩ | ⟨_, e0⟩
        · exact ⟨t, hg, .inr (Nat.le_refl _)⟩
        · exact ⟨u, e0, .inl rfl⟩
      newb := fun x p hx e => absurd (hw.blk x p e).2.2.2 (by omega)
      newt := by
        intro x u hx e
        rcases tip' x u e with ⟨rfl, rfl⟩ | ⟨_, e0⟩
        · exact Nat.le_refl _
        · exact absurd (hw.tip x u e0).2.2.2 (by omega) }

/-- A box's number goes over to a new one, of the same block, which is written. -/
theorem transfer {id b n : Nat} {o : O} (hr : Rel B G h w) (sm : Sm w w') (hg : G.blk id = some (b, n)) (hal : alive h id) (hs : w'.heap.size = w.heap.size)
    (hoth : ∀ c, c ≠ b → w'.heap[c]? = w.heap[c]?) (ho : Le B G w (G.addBlk h.length b n) w' → ObjRel B (G.addBlk h.length b n) w' h.length o) :
    Rel B (G.addBlk h.length b n) (h.set id .dead ++ [o]) w' ∧ Evo B G h w (G.addBlk h.length b n) (h.set id .dead ++ [o]) w' := by
  have hw := hr.wf
  have hidl := alive_lt hal
  obtain ⟨hB, hblt, hlimb, _⟩ := hw.blk id _ hg
  simp only at hB hblt hlimb
  have hnew : G.blk h.length = none := by
    cases e : G.blk h.length with
    | none => rfl
    | some p => exact absurd (hw.blk _ _ e).2.2.2 (by omega)
  have blk' : ∀ i p, (G.addBlk h.length b n).blk i = some p → (i = h.length ∧ p = (b, n)) ∨ (i ≠ h.length ∧ G.blk i = some p) := by
    intro i p e
    simp only [Gh.addBlk] at e
    by_cases hid : i = h.length
    · rw [if_pos hid] at e; exact .inl ⟨hid, (Option.some.inj e).symm⟩
    · rw [if_neg hid] at e; exact .inr ⟨hid, e⟩
  have hle : Le B G w (G.addBlk h.length b n) w' := by
    refine ⟨fun i p e => ?_, fun i t e => ⟨t, e, Nat.le_refl _, fun _ => rfl⟩, fun c k hsn => ⟨hsn, at?_of_block (hoth c (by rintro rfl; exact not_stable_blk hw hg hsn))⟩⟩
    simp only [Gh.addBlk]; rw [if_neg (by rintro rfl; rw [hnew] at e; cases e)]; exact e
  have al : ∀ i, i < h.length → alive (h.set id .dead ++ [o]) i → alive h i ∧ i ≠ id := by
    intro i hi ha
    have hi' : i < (h.set id .dead).length := by simpa using hi
    have ha' := (alive_append hi').1 ha
    rcases ha' with ⟨cs, e⟩ | ⟨cs, e⟩ <;> rcases get_set e with ⟨_, hx⟩ | ⟨hne, e0⟩
    · cases hx
    · exact ⟨.inl ⟨cs, e0⟩, hne⟩
    · cases hx
    · exact ⟨.inr ⟨cs, e0⟩, hne⟩
  have wf' : Wf B (G.addBlk h.length b n) (h.set id .dead ++ [o]) w' := by
    refine ⟨by have := hw.base; omega, ?_, ?_, ?_, ?_, hw.tinj, ?_⟩
    · intro i p e
      rcases blk' i p e with ⟨rfl, rfl⟩ | ⟨_, e0⟩
      · exact ⟨hB, by show b < _; omega, hlimb, by simp⟩
      · obtain ⟨a, b, c, d⟩ := hw.blk i p e0
        exact ⟨a, by omega, c, by simp; omega⟩
    · intro i t e
      obtain ⟨a, b, c, d⟩ := hw.tip i t e
      exact ⟨a, by omega, c, by simp; omega⟩
    · intro c m e
      obtain ⟨x, y⟩ := hw.lim c m e
      exact ⟨x, by omega⟩
    · intro i j p q ei ej hpq ai aj
      rcases blk' i p ei with ⟨rfl, rfl⟩ | ⟨hi, e0⟩ <;> rcases blk' j q ej with ⟨rfl, rfl⟩ | ⟨hj, f0⟩
      · rfl
      · obtain ⟨a1, a2⟩ := al j (hw.blk j q f0).2.2.2 aj
        exact absurd (hw.inj j id q _ f0 hg hpq.symm a1 hal) a2
      · obtain ⟨a1, a2⟩ := al i (hw.blk i p e0).2.2.2 ai
        exact absurd (hw.inj i id p _ e0 hg hpq a1 hal) a2
      · exact hw.inj i j p q e0 f0 hpq (al i (hw.blk i p e0).2.2.2 ai).1 (al j (hw.blk j q f0).2.2.2 aj).1
    · intro i t e
      rw [List.getElem?_append_left (by simpa using (hw.tip i t e).2.2.2), List.getElem?_set, if_neg (by rintro rfl; exact tip_not_alive hw e hal)]
      exact hw.tipo i t e
  refine ⟨⟨wf', ?_⟩, ?_⟩
  · intro i x e
    rcases Nat.lt_trichotomy i h.length with hlt | heq | hgt
    · rw [List.getElem?_append_left (by simpa using hlt)] at e
      rcases get_set e with ⟨rfl, rfl⟩ | ⟨hne, e0⟩
      · trivial
      · refine (hr.obj i x e0).mono hle (fun k p ep => ?_) (fun _ t et => ⟨et, hoth _ fun hpb => ?_⟩)
        · rcases blk' i p ep with ⟨rfl, _⟩ | ⟨_, f0⟩
          · omega
          · exact ⟨f0, hoth _ fun hpb => hne (hw.inj i id p _ f0 hg hpb (alive_of e0 k) hal)⟩
        · have h1 := (hw.tip i t et).2.2.1
          rw [hpb, hlimb] at h1
          cases h1
    · subst heq
      rw [List.getElem?_append_right (by simp)] at e
      simp at e
      subst e
      exact ho hle
    · rw [List.getElem?_eq_none (by simp; omega)] at e
      cases e
  · exact {
      le := hle, os := sm.os, tape := sm.tape, output := sm.output, size := by omega, len := by simp
      frame := fun c hc hm => hoth c (by rintro rfl; exact hm (.inl ⟨id, _, hg, rfl⟩))
      fresh := by
        rintro c hc (⟨i, p, e, rfl⟩ | ⟨i, t, e, rfl⟩)
        · rcases blk' i p e with ⟨rfl, rfl⟩ | ⟨_, e0⟩
          · exact .inl ⟨id, _, hg, rfl⟩
          · exact .inl ⟨i, p, e0, rfl⟩
        · exact .inr ⟨i, t, e, rfl⟩
      limk := fun c hc _ => rfl
      nores := fun x hx ha => (al x hx ha).1
      oldb := by
        intro x p hx e
        rcases blk' x p e with ⟨rfl, _⟩ | ⟨_, e0⟩
        · omega
        · exact e0
      oldt := fun x t hx e => ⟨t, e, .inl rfl⟩
      newb := by
        intro x p hx e
        rcases blk' x p e with ⟨rfl, rfl⟩ | ⟨_, e0⟩
        · exact .inr ⟨id, _, hidl, hg, rfl, hal, fun ha => (al id hidl ha).2 rfl⟩
        · exact absurd (hw.blk x p e0).2.2.2 (by omega)
      newt := fun x t hx e => absurd (hw.tip x t e).2.2.2 (by omega) }

/-- A world of the same heap. -/
theorem Rel.heap (hr : Rel B G h w) (sm : Sm w w') (hh : w'.heap = w.heap) : Rel B G h w' ∧ Evo B G h w G h w' := by
  have hw := hr.wf
  have hle : Le B G w G w' := ⟨fun _ _ e => e, fun _ t e => ⟨t, e, Nat.le_refl _, fun _ => rfl⟩, fun b o hs => ⟨hs, by simp only [at?, World.cell?, hh]⟩⟩
  refine ⟨⟨⟨by rw [hh]; exact hw.base, fun i p e => by rw [hh]; exact hw.blk i p e, fun i t e => by rw [hh]; exact hw.tip i t e, fun c m e => by rw [hh]; exact hw.lim c m e, hw.inj, hw.tinj, hw.tipo⟩,
    fun i x e => (hr.obj i x e).mono hle (fun _ p ep => ⟨ep, by rw [hh]⟩) (fun _ t et => ⟨et, by rw [hh]⟩)⟩, ?_⟩
  exact {
      le := hle, os := sm.os, tape := sm.tape, output := sm.output, size := by rw [hh]; exact Nat.le_refl _, len := Nat.le_refl _
      frame := fun b hb _ => by rw [hh]
      fresh := fun b hb m => m
      limk := fun b hb _ => rfl
      nores := fun x hx ha => ha
      oldb := fun x p hx e => e
      oldt := fun x t hx e => ⟨t, e, .inl rfl⟩
      newb := fun x p hx e => absurd (hw.blk x p e).2.2.2 (by omega)
      newt := fun x t hx e => absurd (hw.tip x t e).2.2.2 (by omega) }

end
end Go.Vm
