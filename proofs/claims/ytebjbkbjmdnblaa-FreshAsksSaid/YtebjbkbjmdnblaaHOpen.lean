/- A parameter that is a struct or an array of whole numbers, bools and texts, however nested: its value, cell by cell. -/
import Derived.Test.YtebjbkbjmdnblaaProg
import Derived.OpenShut
import Derived.ChangeArms
import Derived.ChangeShapes
import Derived.KernelRfl
set_option linter.unusedVariables false
set_option linter.unusedSimpArgs false
namespace Go.Proofs.Ytebjbkbjmdnblaa.Hp
open Go

/-- What kind of cell. -/
inductive LeafK where
  | b | s | i (k : IntKind)
def LeafIs : LeafK → Value → Prop
  | .b, v => ∃ x, v = .bool x
  | .s, v => ∃ x : ByteArray, v = .string x ∧ x.size ≤ maxLen
  | .i k, v => ∃ n, v = .int k n ∧ (Lit.int k n).wf = true
def LeavesAre : List LeafK → List Value → Prop
  | [], [] => True
  | k :: ks, v :: vs => LeafIs k v ∧ LeavesAre ks vs
  | _, _ => False
theorem leavesAre_append : ∀ {ks ls : List LeafK} {vs us : List Value}, LeavesAre ks vs → LeavesAre ls us → LeavesAre (ks ++ ls) (vs ++ us)
  | [], _, [], _, _, h => h
  | _ :: _, _, _ :: _, _, ⟨a, b⟩, h => ⟨a, leavesAre_append b h⟩
  | [], _, _ :: _, _, h, _ => h.elim
  | _ :: _, _, [], _, h, _ => h.elim
theorem leavesAre_len : ∀ {ks : List LeafK} {vs : List Value}, LeavesAre ks vs → ks.length = vs.length
  | [], [], _ => rfl
  | _ :: _, _ :: _, ⟨_, b⟩ => by simp [leavesAre_len b]
  | [], _ :: _, h => h.elim
  | _ :: _, [], h => h.elim

/-- The pieces of a list, one after another. -/
def piecesOf (g : TypeId → Option (List LeafK)) (c : TypeId → Nat) : Nat → List (Nat × TypeId) → Option (List LeafK)
  | o, [] => some []
  | o, (p, t) :: r => if p = o then (g t).bind fun a => (piecesOf g c (o + c t) r).map fun b => a ++ b else none
def endOf (c : TypeId → Nat) : Nat → List (Nat × TypeId) → Nat
  | o, [] => o
  | o, (p, t) :: r => endOf c (o + c t) r
def leavesOf (P : Program) : Nat → TypeId → Option (List LeafK)
  | 0, _ => none
  | m + 1, t =>
    match P.underlying t with
    | some .bool => some [.b]
    | some .string => some [.s]
    | some (.int k) => some [.i k]
    | some (.struct fs) => if endOf P.cellsOf 0 (fs.toList.map fun f => (f.offset, f.type)) = P.cellsOf t then piecesOf (leavesOf P m) P.cellsOf 0 (fs.toList.map fun f => (f.offset, f.type)) else none
    | some (.array n e) => if endOf P.cellsOf 0 ((List.range n).map fun i => (i * P.cellsOf e, e)) = P.cellsOf t then piecesOf (leavesOf P m) P.cellsOf 0 ((List.range n).map fun i => (i * P.cellsOf e, e)) else none
    | _ => none

theorem pieces_are {g : TypeId → Option (List LeafK)} {c : TypeId → Nat} {cs : List Value} : ∀ (l : List (Nat × TypeId)) (o : Nat) (ks : List LeafK),
    piecesOf g c o l = some ks → endOf c o l = cs.length → o ≤ cs.length →
    (∀ x ∈ l, ∀ a, g x.2 = some a → LeavesAre a ((cs.drop x.1).take (c x.2))) → LeavesAre ks (cs.drop o)
  | [], o, ks, h, he, _, _ => by
    simp only [piecesOf, Option.some.injEq] at h
    subst h
    simp only [endOf] at he
    rw [List.drop_eq_nil_of_le (by omega)]
    trivial
  | (p, t) :: r, o, ks, h, he, ho, hx => by
    simp only [piecesOf] at h
    split at h
    · rename_i hp
      subst hp
      obtain ⟨a, ha, h⟩ := Option.bind_eq_some_iff.mp h
      obtain ⟨b, hb, rfl⟩ := Option.map_eq_some_iff.mp h
      simp only [endOf] at he
      have hge : ∀ (l : List (Nat × TypeId)) (q : Nat), q ≤ endOf c q l := by
        intro l
        induction l with
        | nil => intro q; exact Nat.le_refl _
        | cons y ys ih => intro q; exact Nat.le_trans (Nat.le_add_right q (c y.2)) (ih _)
      have h1 := hge r (p + c t)
      have i1 := pieces_are r (p + c t) b hb he (by omega) (fun x hm => hx x (List.mem_cons_of_mem _ hm))
      have i2 := hx (p, t) (List.mem_cons_self ..) a ha
      have e : cs.drop p = (cs.drop p).take (c t) ++ cs.drop (p + c t) := by
        rw [← List.drop_drop]
        exact (List.take_append_drop _ _).symm
      rw [e]
      exact leavesAre_append i2 i1
    · cases h

theorem leaves_are {H : Type} {enc : TypeId × Value → H} {P : Program} {w : World} {base : Nat} {spare : Nat → Bool} {held : Bool} :
    ∀ (m : Nat) (t : TypeId) (ks : List LeafK) (fuel : Nat) (cs : List Value) (x : DataW H × List MemPlace),
    leavesOf P m t = some ks → DataW.trod enc P w base spare held fuel t cs = some x → LeavesAre ks cs
  | 0, _, _, _, _, _, h, _ => by simp [leavesOf] at h
  | m + 1, t, ks, fuel, cs, x, h, hd => by
    simp only [leavesOf] at h
    split at h
    · rename_i hu
      simp only [Option.some.injEq] at h
      subst h
      obtain ⟨b, rfl, _⟩ := DataW.trod_bool hu hd
      exact ⟨⟨b, rfl⟩, trivial⟩
    · rename_i hu
      simp only [Option.some.injEq] at h
      subst h
      obtain ⟨b, rfl, _, hs⟩ := DataW.trod_string hu hd
      exact ⟨⟨b, rfl, hs⟩, trivial⟩
    · rename_i k hu
      simp only [Option.some.injEq] at h
      subst h
      obtain ⟨b, rfl, _, hs⟩ := DataW.trod_int hu hd
      exact ⟨⟨b, rfl, hs⟩, trivial⟩
    · rename_i fs hu
      split at h
      · rename_i he
        obtain ⟨xs, n, _, _, hl, hn, hf⟩ := DataW.trod_struct hu hd
        refine pieces_are (cs := cs) _ 0 ks h (he.trans hl.symm) (Nat.zero_le _) ?_
        intro y hy a ha
        obtain ⟨f, hfm, rfl⟩ := List.mem_map.mp hy
        obtain ⟨i, hi, hfe⟩ := List.mem_iff_getElem.mp hfm
        have hi' : i < fs.size := by simpa using hi
        have hq := hf i f (by rw [Array.getElem?_eq_getElem hi']; rw [← hfe]; simp)
        rw [List.getElem?_eq_getElem (by omega)] at hq
        exact leaves_are m f.type a n _ _ ha hq
      · cases h
    · rename_i n e hu
      split at h
      · rename_i he
        obtain ⟨xs, q, _, _, hl, hn, hf⟩ := DataW.trod_array hu hd
        refine pieces_are (cs := cs) _ 0 ks h (he.trans hl.symm) (Nat.zero_le _) ?_
        intro y hy a ha
        obtain ⟨i, hfm, rfl⟩ := List.mem_map.mp hy
        have hi : i < n := List.mem_range.mp hfm
        have hq := hf i hi
        rw [List.getElem?_eq_getElem (by omega)] at hq
        exact leaves_are m e a q _ _ ha hq
      · cases h
    · cases h

theorem agg_of_leaves {v : Value} {ks : List LeafK} (h : LeavesAre ks v.cells.toList) (hk : ks.length ≠ 1) : ∃ cs : List Value, v = .agg cs.toArray ∧ LeavesAre ks cs := by
  have hl := leavesAre_len h
  cases v with
  | agg cs => exact ⟨cs.toList, by simp, h⟩
  | _ => exact absurd hl (by simpa [Value.cells] using hk)
theorem open_leaves {H : Type} {enc : TypeId × Value → H} {P : Program} {w : World} {base : Nat} {spare : Nat → Bool} {held : Bool} {t : TypeId} {v : Value} {d : DataW H} {ps : List MemPlace}
    (m : Nat) (ks : List LeafK) (hk : ks.length ≠ 1) (hf : leavesOf P m t = some ks) (hd : DataW.Trod enc P w base spare held t v d ps) : ∃ cs : List Value, v = .agg cs.toArray ∧ LeavesAre ks cs := by
  obtain ⟨fuel, hd⟩ := hd
  exact agg_of_leaves (leaves_are m t ks fuel _ _ hf hd) hk
theorem leaf_i {ks : List LeafK} {k : IntKind} {vs : List Value} (h : LeavesAre (.i k :: ks) vs) : ∃ n us, vs = .int k n :: us ∧ (Lit.int k n).wf = true ∧ LeavesAre ks us := by
  match vs, h with
  | _ :: us, ⟨⟨n, rfl, hw⟩, h⟩ => exact ⟨n, us, rfl, hw, h⟩
theorem leaf_b {ks : List LeafK} {vs : List Value} (h : LeavesAre (.b :: ks) vs) : ∃ n us, vs = .bool n :: us ∧ LeavesAre ks us := by
  match vs, h with
  | _ :: us, ⟨⟨n, rfl⟩, h⟩ => exact ⟨n, us, rfl, h⟩
theorem leaf_s {ks : List LeafK} {vs : List Value} (h : LeavesAre (.s :: ks) vs) : ∃ (n : ByteArray) (us : List Value), vs = .string n :: us ∧ n.size ≤ maxLen ∧ LeavesAre ks us := by
  match vs, h with
  | _ :: us, ⟨⟨n, rfl, hw⟩, h⟩ => exact ⟨n, us, rfl, hw, h⟩
theorem leaf_nil {vs : List Value} (h : LeavesAre [] vs) : vs = [] := by
  match vs, h with
  | [], _ => rfl
theorem wf_i64 {n : Int} (h : (Lit.int .i64 n).wf = true) : -9223372036854775808 ≤ n ∧ n ≤ 9223372036854775807 := by
  simp only [Lit.wf, Bool.and_eq_true, decide_eq_true_eq] at h
  exact ⟨h.1, h.2⟩
end Go.Proofs.Ytebjbkbjmdnblaa.Hp
