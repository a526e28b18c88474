/- Several texts in one: VmLib, VmOpen. -/
import Derived.Test.YtaahialaegfjgaaDoorPk2
import Derived.OpenShut
import Derived.ChangeArms
import Derived.ChangeShapes
import Derived.DataReads
import Derived.KernelRfl
import GoSem.ClaimJoined
section
namespace Go.Vm
set_option linter.unusedVariables false
set_option linter.unusedSimpArgs false
section
variable {P : Program} {B : Nat} {G : Gh} {h : Heap} {w w' w0 : World}
/-- New blocks alone: all stands as it did. -/
theorem Rel.below (hr : Rel B G h w) (hb : RowKit.Below w.heap.size w w') : Rel B G h w' ∧ Evo B G h w G h w' := by
  have hw := hr.wf
  have hle : Le B G w G w' := by
    refine ⟨fun _ _ e => e, fun _ t e => ⟨t, e, Nat.le_refl _, fun _ => rfl⟩, fun b o hs => ⟨hs, at?_of_block (hb.block b ?_)⟩⟩
    rcases hs with hs | ⟨n, hs, _⟩
    · exact Nat.lt_of_lt_of_le hs hw.base
    · exact (hw.lim b n hs).2
  refine ⟨⟨⟨Nat.le_trans hw.base hb.size, fun id p e => ?_, fun id t e => ?_, fun b n e => ?_, hw.inj, hw.tinj, hw.tipo⟩, fun id o ho => ?_⟩, ?_⟩
  · obtain ⟨h1, h2, h3, h4⟩ := hw.blk id p e
    exact ⟨h1, Nat.lt_of_lt_of_le h2 hb.size, h3, h4⟩
  · obtain ⟨h1, h2, h3, h4⟩ := hw.tip id t e
    exact ⟨h1, Nat.lt_of_lt_of_le h2 hb.size, h3, h4⟩
  · obtain ⟨h1, h2⟩ := hw.lim b n e
    exact ⟨h1, Nat.lt_of_lt_of_le h2 hb.size⟩
  · exact (hr.obj id o ho).mono hle (fun _ p e => ⟨e, hb.block _ (hw.blk id p e).2.1⟩) (fun _ t e => ⟨e, hb.block _ (hw.tip id t e).2.1⟩)
  · exact { Evo.refl (w := w) hw with
      le := hle, os := hb.os, tape := hb.tape, output := hb.output, size := hb.size
      frame := fun b hlt _ => hb.block b hlt }
/-- A function of the library that leaves what is there. -/
theorem good_below {f : FuncId} {args : List V} {v : V} (hc : ∀ B G (h : Heap) w vs, Rel B G h w → Base w0 B w → Rvs B G w args vs → Calls P f vs.toArray w fun en w' => ∃ val, en = .returned val ∧ Rv B G w' v val ∧ RowKit.Below w.heap.size w w') (h : Heap) :
    CallGood P w0 f args h v h := fun B G w vs hr hb hv =>
  (hc B G h w vs hr hb hv).mono fun en w' ⟨val, he, hv', hbel⟩ => ⟨G, val, he, hv', (hr.below hbel).1, (hr.below hbel).2⟩
/-- What the library's contracts must be, from one world on. -/
def LibAt (P : Program) (w0 : World) (L : FuncId → List V → V → Prop) : Prop := ∀ f args v, L f args v → isFn P f = true ∧ ∀ h, CallGood P w0 f args h v h
theorem calls_at {F : FuncId → Option FnC} {L : FuncId → List V → V → Prop} (hm : P.follows .mixedOrders = true) (hF : ∀ f fn, F f = some fn → compF P f = some fn) {f : FuncId} {args : List V} {b : Bool} {w : World} (hL : LibAt P w L) (hS : SortAt P w L)
    (hc : Cf F L f args [] fun v _ => v = .bool b) {vs : List Value} (ha : Rvs w.heap.size G0 w args vs) :
    Calls P f vs.toArray w fun e w' => e = .returned (.bool b) ∧ RowKit.Below w.heap.size w w' := by
  obtain ⟨v, h', hev, rfl⟩ := hc
  refine ((sound (w0 := w) hm hF hL hS hev).2 _ G0 w vs (rel0 w) ⟨Nat.le_refl _, .refl _ _⟩ ha).mono ?_
  rintro en w' ⟨G', val, rfl, hv, hr, he⟩
  cases hv
  exact ⟨rfl, he.os, he.tape, he.output, he.size, fun k hk => he.frame k hk (not_mapped0 k)⟩
end
theorem rvs_one {B : Nat} {G : Gh} {w : World} {x : V} {vs : List Value} (h : Rvs B G w [x] vs) : ∃ a, vs = [a] ∧ Rv B G w x a := by
  obtain ⟨h1, h2⟩ := h
  match vs, h1 with
  | [a], _ => exact ⟨a, rfl, h2 0 _ _ rfl rfl⟩
theorem rvs_two {B : Nat} {G : Gh} {w : World} {x y : V} {vs : List Value} (h : Rvs B G w [x, y] vs) : ∃ a b, vs = [a, b] ∧ Rv B G w x a ∧ Rv B G w y b := by
  obtain ⟨h1, h2⟩ := h
  match vs, h1 with
  | [a, b], _ => exact ⟨a, b, rfl, h2 0 _ _ rfl rfl, h2 1 _ _ rfl rfl⟩
end Go.Vm
end
section
set_option linter.unusedVariables false
set_option linter.unusedSimpArgs false
namespace Go.Vm
open Go
/-- What kind of cell. -/
inductive LeafK where
  | b | s | i (k : IntKind)
def LeafIs : LeafK → Value → Prop
  | .b, v => ∃ x, v = .bool x
  | .s, v => ∃ x : ByteArray, v = .string x ∧ x.size ≤ reachBytes
  | .i k, v => ∃ n, v = .int k n ∧ (Lit.int k n).wf = true
def LeavesAre : List LeafK → List Value → Prop
  | [], [] => True
  | k :: ks, v :: vs => LeafIs k v ∧ LeavesAre ks vs
  | _, _ => False
theorem leavesAre_append : ∀ {ks ls : List LeafK} {vs us : List Value}, LeavesAre ks vs → LeavesAre ls us → LeavesAre (ks ++ ls) (vs ++ us)
  | [], _, [], _, _, h => h
  | _ :: _, _, _ :: _, _, ⟨a, b⟩, h => ⟨a, leavesAre_append b h⟩
  | [], _, _ :: _, _, h, _ => h.elim
  | _ :: _, _, [], _, h, _ => h.elim
/-- The pieces of a list, one after another. -/
def piecesOf (g : TypeId → Option (List LeafK)) (c : TypeId → Nat) : Nat → List (Nat × TypeId) → Option (List LeafK)
  | o, [] => some []
  | o, (p, t) :: r => if p = o then (g t).bind fun a => (piecesOf g c (o + c t) r).map fun b => a ++ b else none
def endOf (c : TypeId → Nat) : Nat → List (Nat × TypeId) → Nat
  | o, [] => o
  | o, (p, t) :: r => endOf c (o + c t) r
def leavesOf (P : Program) : Nat → TypeId → Option (List LeafK)
  | 0, _ => none
  | m + 1, t =>
    match P.underlying t with
    | some .bool => some [.b]
    | some .string => some [.s]
    | some (.int k) => some [.i k]
    | some (.struct fs) => if endOf P.cellsOf 0 (fs.toList.map fun f => (f.offset, f.type)) = P.cellsOf t then piecesOf (leavesOf P m) P.cellsOf 0 (fs.toList.map fun f => (f.offset, f.type)) else none
    | some (.array n e) => if endOf P.cellsOf 0 ((List.range n).map fun i => (i * P.cellsOf e, e)) = P.cellsOf t then piecesOf (leavesOf P m) P.cellsOf 0 ((List.range n).map fun i => (i * P.cellsOf e, e)) else none
    | _ => none
theorem pieces_are {g : TypeId → Option (List LeafK)} {c : TypeId → Nat} {cs : List Value} : ∀ (l : List (Nat × TypeId)) (o : Nat) (ks : List LeafK),
    piecesOf g c o l = some ks → endOf c o l = cs.length → o ≤ cs.length →
    (∀ x ∈ l, ∀ a, g x.2 = some a → LeavesAre a ((cs.drop x.1).take (c x.2))) → LeavesAre ks (cs.drop o)
  | [], o, ks, h, he, _, _ => by
    simp only [piecesOf, Option.some.injEq] at h
    subst h
    simp only [endOf] at he
    rw [List.drop_eq_nil_of_le (by omega)]
    trivial
  | (p, t) :: r, o, ks, h, he, ho, hx => by
    simp only [piecesOf] at h
    split at h
    · rename_i hp
      subst hp
      obtain ⟨a, ha, h⟩ := Option.bind_eq_some_iff.mp h
      obtain ⟨b, hb, rfl⟩ := Option.map_eq_some_iff.mp h
      simp only [endOf] at he
      have hge : ∀ (l : List (Nat × TypeId)) (q : Nat), q ≤ endOf c q l := by
        intro l
        induction l with
        | nil => intro q; exact Nat.le_refl _
        | cons y ys ih => intro q; exact Nat.le_trans (Nat.le_add_right q (c y.2)) (ih _)
      have h1 := hge r (p + c t)
      have i1 := pieces_are r (p + c t) b hb he (by omega) (fun x hm => hx x (List.mem_cons_of_mem _ hm))
      have i2 := hx (p, t) (List.mem_cons_self ..) a ha
      have e : cs.drop p = (cs.drop p).take (c t) ++ cs.drop (p + c t) := by
        rw [← List.drop_drop]
        exact (List.take_append_drop _ _).symm
      rw [e]
      exact leavesAre_append i2 i1
    · cases h
theorem mem_weightsAll {H : Type} {P : Program} {e : TypeId} {n : Nat} {d : DataW H} : ∀ {l : List (DataW H)}, d ∈ l → n ∈ d.weights P e → n ∈ DataW.weightsAll P e l
  | [], h, _ => by cases h
  | a :: r, h, hn => by
    rw [DataW.weightsAll]
    rcases List.mem_cons.1 h with rfl | h
    · exact List.mem_append_left _ hn
    · exact List.mem_append_right _ (mem_weightsAll h hn)
theorem mem_weightsEach {H : Type} {P : Program} {n : Nat} {t : TypeId} {d : DataW H} : ∀ {ts : List TypeId} {l : List (DataW H)} {i : Nat}, ts[i]? = some t → l[i]? = some d → n ∈ d.weights P t → n ∈ DataW.weightsEach P ts l
  | t' :: ts, d' :: l, 0, h1, h2, hn => by
    rw [DataW.weightsEach]
    simp only [List.getElem?_cons_zero, Option.some.injEq] at h1 h2
    subst h1; subst h2
    exact List.mem_append_left _ hn
  | t' :: ts, d' :: l, i + 1, h1, h2, hn => by
    rw [DataW.weightsEach]
    simp only [List.getElem?_cons_succ] at h1 h2
    exact List.mem_append_right _ (mem_weightsEach h1 h2 hn)
  | [], _, _, h1, _, _ => by simp at h1
  | _ :: _, [], _, _, h2, _ => by simp at h2
theorem all_reach {l : List Nat} (h : l.all (· ≤ reachBytes) = true) : ∀ n ∈ l, n ≤ reachBytes := fun n hn => of_decide_eq_true (List.all_eq_true.1 h n hn)
theorem leaves_are {H : Type} {enc : TypeId × Value → H} {P : Program} {w : World} {base : Nat} {spare : Nat → Bool} {held : Bool} :
    ∀ (m : Nat) (t : TypeId) (ks : List LeafK) (fuel : Nat) (cs : List Value) (x : DataW H × List MemPlace),
    leavesOf P m t = some ks → DataW.trod enc P w base spare held fuel t cs = some x → (∀ n ∈ x.1.weights P t, n ≤ reachBytes) → LeavesAre ks cs
  | 0, _, _, _, _, _, h, _, _ => by simp [leavesOf] at h
  | m + 1, t, ks, fuel, cs, x, h, hd, hz => by
    simp only [leavesOf] at h
    split at h
    · rename_i hu
      simp only [Option.some.injEq] at h
      subst h
      obtain ⟨b, rfl, _⟩ := DataW.trod_bool hu hd
      exact ⟨⟨b, rfl⟩, trivial⟩
    · rename_i hu
      simp only [Option.some.injEq] at h
      subst h
      obtain ⟨b, rfl, rfl, hs⟩ := DataW.trod_string hu hd
      exact ⟨⟨b, rfl, by have := hz b.data.toList.length (by simp [DataW.weights]); rwa [Array.length_toList] at this⟩, trivial⟩
    · rename_i k hu
      simp only [Option.some.injEq] at h
      subst h
      obtain ⟨b, rfl, _, hs⟩ := DataW.trod_int hu hd
      exact ⟨⟨b, rfl, hs⟩, trivial⟩
    · rename_i fs hu
      split at h
      · rename_i he
        obtain ⟨xs, n, _, rfl, hl, hn, hf⟩ := DataW.trod_struct hu hd
        refine pieces_are (cs := cs) _ 0 ks h (he.trans hl.symm) (Nat.zero_le _) ?_
        intro y hy a ha
        obtain ⟨f, hfm, rfl⟩ := List.mem_map.mp hy
        obtain ⟨i, hi, hfe⟩ := List.mem_iff_getElem.mp hfm
        have hi' : i < fs.size := by simpa using hi
        have hq := hf i f (by rw [Array.getElem?_eq_getElem hi']; rw [← hfe]; simp)
        rw [List.getElem?_eq_getElem (by omega)] at hq
        refine leaves_are m f.type a n _ _ ha hq fun z hzm => hz z ?_
        rw [DataW.weights, hu]
        exact mem_weightsEach (i := i) (by rw [List.getElem?_map, List.getElem?_eq_getElem hi, hfe]; rfl) (by rw [List.getElem?_map, List.getElem?_eq_getElem (by omega)]; rfl) hzm
      · cases h
    · rename_i n e hu
      split at h
      · rename_i he
        obtain ⟨xs, q, _, rfl, hl, hn, hf⟩ := DataW.trod_array hu hd
        refine pieces_are (cs := cs) _ 0 ks h (he.trans hl.symm) (Nat.zero_le _) ?_
        intro y hy a ha
        obtain ⟨i, hfm, rfl⟩ := List.mem_map.mp hy
        have hi : i < n := List.mem_range.mp hfm
        have hq := hf i hi
        rw [List.getElem?_eq_getElem (by omega)] at hq
        refine leaves_are m e a q _ _ ha hq fun z hzm => hz z ?_
        rw [DataW.weights, hu]
        exact mem_weightsAll (List.mem_map_of_mem (List.getElem_mem (by omega))) hzm
      · cases h
    · cases h
/-- The kinds of a parameter's cells. -/
inductive SK where
  | l (k : LeafK)
  | sl (ks : List LeafK)
def ElemAt (w : World) (a : Addr) (ks : List LeafK) (i : Nat) : Prop :=
  ∃ cs : List Value, LeavesAre ks cs ∧ ∀ j, j < ks.length → w.cell? ⟨a.block, a.off + (i * ks.length + j), none⟩ = cs[j]?
def SKIs (w : World) : SK → Value → Prop
  | .l k, v => LeafIs k v
  | .sl ks, v => v = .slice none 0 0 ∨ ∃ a len cap, v = .slice (some a) len cap ∧ len ≤ cap ∧ cap ≤ maxLen ∧ len ≤ reachBytes ∧ (len ≠ 0 → a.spot = none) ∧ ∀ i, i < len → ElemAt w a ks i
def SKAre (w : World) : List SK → List Value → Prop
  | [], [] => True
  | k :: ks, v :: vs => SKIs w k v ∧ SKAre w ks vs
  | _, _ => False
theorem skAre_append {w : World} : ∀ {ks ls : List SK} {vs us : List Value}, SKAre w ks vs → SKAre w ls us → SKAre w (ks ++ ls) (vs ++ us)
  | [], _, [], _, _, h => h
  | _ :: _, _, _ :: _, _, ⟨a, b⟩, h => ⟨a, skAre_append b h⟩
  | [], _, _ :: _, _, h, _ => h.elim
  | _ :: _, _, [], _, h, _ => h.elim
theorem skAre_len {w : World} : ∀ {ks : List SK} {vs : List Value}, SKAre w ks vs → ks.length = vs.length
  | [], [], _ => rfl
  | _ :: _, _ :: _, ⟨_, b⟩ => by simp [skAre_len b]
  | [], _ :: _, h => h.elim
  | _ :: _, [], h => h.elim
def piecesK (g : TypeId → Option (List SK)) (c : TypeId → Nat) : Nat → List (Nat × TypeId) → Option (List SK)
  | o, [] => some []
  | o, (p, t) :: r => if p = o then (g t).bind fun a => (piecesK g c (o + c t) r).map fun b => a ++ b else none
def shapeOf (P : Program) : Nat → TypeId → Option (List SK)
  | 0, _ => none
  | m + 1, t =>
    match P.underlying t with
    | some .bool => some [.l .b]
    | some .string => some [.l .s]
    | some (.int k) => some [.l (.i k)]
    | some (.slice e) => match leavesOf P m e with
      | some ks => if (ks.length = P.cellsOf e ∧ 0 < ks.length) ∧ 0 < P.bytesOf e then some [.sl ks] else none
      | none => none
    | some (.struct fs) => if endOf P.cellsOf 0 (fs.toList.map fun f => (f.offset, f.type)) = P.cellsOf t then piecesK (shapeOf P m) P.cellsOf 0 (fs.toList.map fun f => (f.offset, f.type)) else none
    | some (.array n e) => if endOf P.cellsOf 0 ((List.range n).map fun i => (i * P.cellsOf e, e)) = P.cellsOf t then piecesK (shapeOf P m) P.cellsOf 0 ((List.range n).map fun i => (i * P.cellsOf e, e)) else none
    | _ => none
theorem pieces_sk {w : World} {g : TypeId → Option (List SK)} {c : TypeId → Nat} {cs : List Value} : ∀ (l : List (Nat × TypeId)) (o : Nat) (ks : List SK),
    piecesK g c o l = some ks → endOf c o l = cs.length → o ≤ cs.length →
    (∀ x ∈ l, ∀ a, g x.2 = some a → SKAre w a ((cs.drop x.1).take (c x.2))) → SKAre w ks (cs.drop o)
  | [], o, ks, h, he, _, _ => by
    simp only [piecesK, Option.some.injEq] at h
    subst h
    simp only [endOf] at he
    rw [List.drop_eq_nil_of_le (by omega)]
    trivial
  | (p, t) :: r, o, ks, h, he, ho, hx => by
    simp only [piecesK] at h
    split at h
    · rename_i hp
      subst hp
      obtain ⟨a, ha, h⟩ := Option.bind_eq_some_iff.mp h
      obtain ⟨b, hb, rfl⟩ := Option.map_eq_some_iff.mp h
      simp only [endOf] at he
      have hge : ∀ (l : List (Nat × TypeId)) (q : Nat), q ≤ endOf c q l := by
        intro l
        induction l with
        | nil => intro q; exact Nat.le_refl _
        | cons y ys ih => intro q; exact Nat.le_trans (Nat.le_add_right q (c y.2)) (ih _)
      have h1 := hge r (p + c t)
      have i1 := pieces_sk r (p + c t) b hb he (by omega) (fun x hm => hx x (List.mem_cons_of_mem _ hm))
      have i2 := hx (p, t) (List.mem_cons_self ..) a ha
      have e : cs.drop p = (cs.drop p).take (c t) ++ cs.drop (p + c t) := by
        rw [← List.drop_drop]
        exact (List.take_append_drop _ _).symm
      rw [e]
      exact skAre_append i2 i1
    · cases h
theorem add_add (a : Addr) (x j : Nat) (h : ((a.add x).add j).spot = none) : (a.add x).add j = ⟨a.block, a.off + (x + j), none⟩ := by
  obtain ⟨b, o, s⟩ := a
  by_cases h1 : x = 0
  · by_cases h2 : j = 0
    · subst h1; subst h2
      simp only [Addr.add, if_true] at h ⊢
      rw [h]; rfl
    · subst h1
      simp only [Addr.add, if_true, if_neg h2, Nat.zero_add]
  · by_cases h2 : j = 0
    · subst h2
      simp only [Addr.add, if_true, if_neg h1, Nat.add_zero]
    · simp only [Addr.add, if_neg h1, if_neg h2, Nat.add_assoc]
theorem sk_are {H : Type} {enc : TypeId × Value → H} {P : Program} {w : World} {base : Nat} {spare : Nat → Bool} {held : Bool} :
    ∀ (m : Nat) (t : TypeId) (ks : List SK) (fuel : Nat) (cs : List Value) (x : DataW H × List MemPlace),
    shapeOf P m t = some ks → DataW.trod enc P w base spare held fuel t cs = some x → (∀ n ∈ x.1.weights P t, n ≤ reachBytes) → SKAre w ks cs
  | 0, _, _, _, _, _, h, _, _ => by simp [shapeOf] at h
  | m + 1, t, ks, fuel, cs, x, h, hd, hz => by
    simp only [shapeOf] at h
    split at h
    · rename_i hu
      simp only [Option.some.injEq] at h
      subst h
      obtain ⟨b, rfl, _⟩ := DataW.trod_bool hu hd
      exact ⟨⟨b, rfl⟩, trivial⟩
    · rename_i hu
      simp only [Option.some.injEq] at h
      subst h
      obtain ⟨b, rfl, rfl, hs⟩ := DataW.trod_string hu hd
      exact ⟨⟨b, rfl, by have := hz b.data.toList.length (by simp [DataW.weights]); rwa [Array.length_toList] at this⟩, trivial⟩
    · rename_i k hu
      simp only [Option.some.injEq] at h
      subst h
      obtain ⟨b, rfl, _, hs⟩ := DataW.trod_int hu hd
      exact ⟨⟨b, rfl, hs⟩, trivial⟩
    · rename_i e hu
      split at h
      · rename_i ls hls
        split at h
        · rename_i hc0
          obtain ⟨hc, hby⟩ := hc0
          simp only [Option.some.injEq] at h
          subst h
          rcases DataW.trod_slice hu hd with ⟨rfl, _⟩ | ⟨a, len, cap, elems, rest, n, _, rfl, rfl, hb, hl, hm, hlen, hel, _, _⟩
          · exact ⟨.inl rfl, trivial⟩
          · rw [DataW.weights, hu] at hz
            refine ⟨.inr ⟨a, len, cap, rfl, hl, hm, ?_, fun h0 => ?_, fun i hi => ?_⟩, trivial⟩
            · have h7 := hz _ (List.mem_cons_self ..)
              simp only [List.length_map] at h7
              exact Nat.le_trans (Nat.le_trans (by omega) (Nat.le_mul_of_pos_right _ hby)) h7
            · have h1 := hel 0 (by omega)
              rw [List.getElem?_eq_getElem (by omega), Option.bind_eq_some_iff] at h1
              obtain ⟨cs', h2, _⟩ := h1
              obtain ⟨_, h3, h4⟩ := World.cells?_some h2
              have hjl : 0 < cs'.length := by rw [h3, ← hc.1]; exact hc.2
              have h5 := h4 0 (by omega)
              rw [List.getElem?_eq_getElem hjl] at h5
              have := World.cell?_spot h5
              simpa [Addr.add] using this
            · have h1 := hel i hi
              rw [List.getElem?_eq_getElem (by omega), Option.bind_eq_some_iff] at h1
              obtain ⟨cs', h2, h6⟩ := h1
              obtain ⟨_, h3, h4⟩ := World.cells?_some h2
              refine ⟨cs', leaves_are m e ls n cs' _ hls h6 (fun z hzm => hz z (List.mem_cons_of_mem _ (List.mem_append_left _ (mem_weightsAll (List.mem_map_of_mem (List.getElem_mem (by omega))) hzm)))), fun j hj => ?_⟩
              have hjl : j < cs'.length := by rw [h3, ← hc.1]; exact hj
              have h5 := h4 j (by rw [← h3]; exact hjl)
              rw [List.getElem?_eq_getElem hjl] at h5 ⊢
              have hsp := World.cell?_spot h5
              rw [← h5, hc.1, add_add a _ _ hsp]
        · cases h
      · cases h
    · rename_i fs hu
      split at h
      · rename_i he
        obtain ⟨xs, n, _, rfl, hl, hn, hf⟩ := DataW.trod_struct hu hd
        refine pieces_sk (cs := cs) _ 0 ks h (he.trans hl.symm) (Nat.zero_le _) ?_
        intro y hy a ha
        obtain ⟨f, hfm, rfl⟩ := List.mem_map.mp hy
        obtain ⟨i, hi, hfe⟩ := List.mem_iff_getElem.mp hfm
        have hi' : i < fs.size := by simpa using hi
        have hq := hf i f (by rw [Array.getElem?_eq_getElem hi']; rw [← hfe]; simp)
        rw [List.getElem?_eq_getElem (by omega)] at hq
        refine sk_are m f.type a n _ _ ha hq fun z hzm => hz z ?_
        rw [DataW.weights, hu]
        exact mem_weightsEach (i := i) (by rw [List.getElem?_map, List.getElem?_eq_getElem hi, hfe]; rfl) (by rw [List.getElem?_map, List.getElem?_eq_getElem (by omega)]; rfl) hzm
      · cases h
    · rename_i n e hu
      split at h
      · rename_i he
        obtain ⟨xs, q, _, rfl, hl, hn, hf⟩ := DataW.trod_array hu hd
        refine pieces_sk (cs := cs) _ 0 ks h (he.trans hl.symm) (Nat.zero_le _) ?_
        intro y hy a ha
        obtain ⟨i, hfm, rfl⟩ := List.mem_map.mp hy
        have hi : i < n := List.mem_range.mp hfm
        have hq := hf i hi
        rw [List.getElem?_eq_getElem (by omega)] at hq
        refine sk_are m e a q _ _ ha hq fun z hzm => hz z ?_
        rw [DataW.weights, hu]
        exact mem_weightsAll (List.mem_map_of_mem (List.getElem_mem (by omega))) hzm
      · cases h
    · cases h
/-! The machine's values. -/
def VLeaf : LeafK → V → Prop
  | .b, x => ∃ b, x = .bool b
  | .s, x => ∃ s : List UInt8, x = .str s ∧ s.length ≤ reachBytes
  | .i k, x => ∃ n, x = .int k n ∧ (Lit.int k n).wf = true
def VLeaves : List LeafK → List V → Prop
  | [], [] => True
  | k :: ks, x :: xs => VLeaf k x ∧ VLeaves ks xs
  | _, _ => False
/-- An element: one cell, or a struct's. -/
def VElem (ks : List LeafK) (x : V) : Prop := VLeaves ks (cells x) ∧ (ks.length = 1 → cells x = [x]) ∧ (ks.length ≠ 1 → x = .agg (cells x))
def VSK : SK → V → Prop
  | .l k, x => VLeaf k x
  | .sl ks, x => x = .nsl ∨ ∃ es, x = .sl ks.length .no es ∧ es.length ≤ reachBytes ∧ ∀ e ∈ es, VElem ks e
def VSKs : List SK → List V → Prop
  | [], [] => True
  | k :: ks, x :: xs => VSK k x ∧ VSKs ks xs
  | _, _ => False
theorem leaf_rv {B : Nat} {G : Gh} {w : World} {k : LeafK} {v : Value} (h : LeafIs k v) : ∃ x, VLeaf k x ∧ Rv B G w x v ∧ oneC x := by
  cases k with
  | b => obtain ⟨b, rfl⟩ := h; exact ⟨.bool b, ⟨b, rfl⟩, .bool b, trivial⟩
  | s => obtain ⟨s, rfl, hs⟩ := h; exact ⟨.str s.data.toList, ⟨_, rfl, by rw [Array.length_toList]; exact hs⟩, rv_str s, trivial⟩
  | i k => obtain ⟨n, rfl, hn⟩ := h; exact ⟨.int k n, ⟨n, rfl, hn⟩, .int k n, trivial⟩
theorem leaves_rv {B : Nat} {G : Gh} {w : World} : ∀ {ks : List LeafK} {vs : List Value}, LeavesAre ks vs → ∃ xs, VLeaves ks xs ∧ Rvs B G w xs vs ∧ (∀ c ∈ xs, oneC c)
  | [], [], _ => ⟨[], trivial, rvs_nil, by simp⟩
  | k :: ks, v :: vs, ⟨h1, h2⟩ => by
    obtain ⟨x, a1, a2, a3⟩ := leaf_rv (B := B) (G := G) (w := w) h1
    obtain ⟨xs, b1, b2, b3⟩ := leaves_rv h2
    refine ⟨x :: xs, ⟨a1, b1⟩, rvs_cons a2 b2, ?_⟩
    intro c hc
    rcases List.mem_cons.1 hc with rfl | hc
    · exact a3
    · exact b3 c hc
  | [], _ :: _, h => h.elim
  | _ :: _, [], h => h.elim
theorem vleaves_len : ∀ {ks : List LeafK} {xs : List V}, VLeaves ks xs → ks.length = xs.length
  | [], [], _ => rfl
  | _ :: _, _ :: _, ⟨_, b⟩ => by simp [vleaves_len b]
  | [], _ :: _, h => h.elim
  | _ :: _, [], h => h.elim
/-- Cells put together to an element. -/
def pack (xs : List V) : V := match xs with
  | [x] => x
  | xs => .agg xs
theorem cells_pack {xs : List V} (h : ∀ c ∈ xs, oneC c) : cells (pack xs) = xs := by
  match xs, h with
  | [], _ => rfl
  | [x], h =>
    have := h x (by simp)
    cases x <;> first | rfl | exact this.elim
  | a :: b :: r, _ => rfl
theorem elem_rv {B : Nat} {G : Gh} {w : World} {a : Addr} {ks : List LeafK} {i : Nat} (h : ElemAt w a ks i) :
    ∃ x, VElem ks x ∧ (cells x).length = ks.length ∧ (∀ c ∈ cells x, oneC c) ∧ ∀ j y, (cells x)[j]? = some y → ∃ v, w.cell? ⟨a.block, a.off + (i * ks.length + j), none⟩ = some v ∧ Rv B G w y v := by
  obtain ⟨cs, h1, h2⟩ := h
  obtain ⟨xs, a1, a2, a3⟩ := leaves_rv (B := B) (G := G) (w := w) h1
  have hl := vleaves_len a1
  have e := cells_pack a3
  refine ⟨pack xs, ⟨by rw [e]; exact a1, fun hk => ?_, fun hk => ?_⟩, by rw [e, hl], by rw [e]; exact a3, fun j y hy => ?_⟩
  · rw [e]
    obtain ⟨x, rfl⟩ := List.length_eq_one_iff.1 (show xs.length = 1 by omega)
    rfl
  · rw [e]
    match xs, hl with
    | [], _ => rfl
    | [x], hl => exact absurd hl hk
    | _ :: _ :: _, _ => rfl
  · rw [e] at hy
    have hj : j < xs.length := (List.getElem?_eq_some_iff.1 hy).1
    have hj' : j < cs.length := by rw [a2.1]; exact hj
    exact ⟨cs[j], by rw [h2 j (by omega), List.getElem?_eq_getElem hj'], a2.2 j y cs[j] hy (List.getElem?_eq_getElem hj')⟩
theorem choose_list {α : Type} {n : Nat} {p : Nat → α → Prop} (h : ∀ i, i < n → ∃ x, p i x) : ∃ xs : List α, xs.length = n ∧ ∀ i x, xs[i]? = some x → p i x := by
  induction n with
  | zero => exact ⟨[], rfl, by simp⟩
  | succ n ih =>
    obtain ⟨xs, h1, h2⟩ := ih fun i hi => h i (by omega)
    obtain ⟨x, hx⟩ := h n (by omega)
    refine ⟨xs ++ [x], by simp [h1], fun i y hy => ?_⟩
    rcases Nat.lt_or_ge i n with hi | hi
    · rw [List.getElem?_append_left (by omega)] at hy
      exact h2 i y hy
    · have : i = n := by
        have := (List.getElem?_eq_some_iff.1 hy).1
        simp at this; omega
      subst this
      rw [List.getElem?_append_right (by omega), h1] at hy
      simp at hy; subst hy; exact hx
theorem flat_at {c : Nat} : ∀ {es : List V} {k : Nat} {y : V}, (∀ e ∈ es, (cells e).length = c) → (flat es)[k]? = some y → ∃ i j e, es[i]? = some e ∧ (cells e)[j]? = some y ∧ j < c ∧ k = i * c + j
  | [], k, y, _, h => by simp [flat] at h
  | e :: es, k, y, hc, h => by
    have hce := hc e (by simp)
    have hf : flat (e :: es) = cells e ++ flat es := rfl
    rw [hf] at h
    rcases Nat.lt_or_ge k c with hk | hk
    · rw [List.getElem?_append_left (by omega)] at h
      exact ⟨0, k, e, rfl, h, hk, by simp⟩
    · rw [List.getElem?_append_right (by omega), hce] at h
      obtain ⟨i, j, e', h1, h2, h3, h4⟩ := flat_at (fun x hx => hc x (by simp [hx])) h
      refine ⟨i + 1, j, e', h1, h2, h3, ?_⟩
      rw [Nat.add_mul]; omega
theorem sk_rv {w : World} {k : SK} {v : Value} (h : SKIs w k v) : ∃ x, VSK k x ∧ Rv w.heap.size G0 w x v ∧ oneC x := by
  cases k with
  | l k => exact leaf_rv h
  | sl ks =>
    rcases h with rfl | ⟨a, len, cap, rfl, h1, h2, h2', h3, h4⟩
    · exact ⟨.nsl, .inl rfl, .nsl, trivial⟩
    · obtain ⟨es, e1, e2⟩ := choose_list fun i hi => elem_rv (B := w.heap.size) (G := G0) (h4 i hi)
      have hmem : ∀ e ∈ es, ∃ i, es[i]? = some e := fun e he => List.getElem?_of_mem he
      have hsz : ∀ e ∈ es, (cells e).length = ks.length := fun e he => by obtain ⟨i, hi⟩ := hmem e he; exact (e2 i e hi).2.1
      refine ⟨.sl ks.length .no es, .inr ⟨es, rfl, by omega, fun e he => by obtain ⟨i, hi⟩ := hmem e he; exact (e2 i e hi).1⟩, ?_, trivial⟩
      have at_ : ∀ k y, (flat es)[k]? = some y → ∃ v, w.cell? ⟨a.block, a.off + k, none⟩ = some v ∧ Rv w.heap.size G0 w y v := by
        intro k y hy
        obtain ⟨i, j, e, g1, g2, g3, rfl⟩ := flat_at hsz hy
        exact (e2 i e g1).2.2.2 j y g2
      subst e1
      refine .sl (fun k => (w.cell? ⟨a.block, a.off + k, none⟩).getD default) hsz (fun hne => h3 (by simpa using hne)) h1 (fun k hk => ?_) (fun c hc => ?_) (fun k x hx => ?_) (fun hf => by cases hf) (fun id hf => by cases hf)
      · obtain ⟨v, hv, _⟩ := at_ k _ (List.getElem?_eq_getElem hk)
        refine ⟨.inl (World.block_lt_of_cell? w ⟨a.block, a.off + k, none⟩ hv), ?_⟩
        simp only [at?, hv, Option.getD_some]
      · obtain ⟨e, he, hce⟩ := List.mem_flatMap.1 hc
        obtain ⟨i, hi⟩ := hmem e he
        exact (e2 i e hi).2.2.1 c hce
      · obtain ⟨v, hv, hr⟩ := at_ k x hx
        simp only [hv, Option.getD_some]; exact hr
theorem sks_rv {w : World} : ∀ {ks : List SK} {vs : List Value}, SKAre w ks vs → ∃ xs, VSKs ks xs ∧ Rvs w.heap.size G0 w xs vs ∧ (∀ c ∈ xs, oneC c)
  | [], [], _ => ⟨[], trivial, rvs_nil, by simp⟩
  | k :: ks, v :: vs, ⟨h1, h2⟩ => by
    obtain ⟨x, a1, a2, a3⟩ := sk_rv h1
    obtain ⟨xs, b1, b2, b3⟩ := sks_rv h2
    refine ⟨x :: xs, ⟨a1, b1⟩, rvs_cons a2 b2, ?_⟩
    intro c hc
    rcases List.mem_cons.1 hc with rfl | hc
    · exact a3
    · exact b3 c hc
  | [], _ :: _, h => h.elim
  | _ :: _, [], h => h.elim
/-- What a parameter is: one cell, or a struct's. -/
def VPar (ks : List SK) (x : V) : Prop := match ks with
  | [k] => VSK k x
  | ks => ∃ xs, x = .agg xs ∧ VSKs ks xs
/-- A parameter that has been read: its value on the machine. -/
theorem open_par {H : Type} {enc : TypeId × Value → H} {P : Program} {w : World} {base : Nat} {spare : Nat → Bool} {held : Bool} {t : TypeId} {v : Value} {d : DataW H} {ps : List MemPlace}
    (m : Nat) {ks : List SK} (hf : shapeOf P m t = some ks) (hd : DataW.Trod enc P w base spare held t v d ps) (hz : ∀ n ∈ d.weights P t, n ≤ reachBytes) (h1 : ks.length = 1 → ∀ cs, v ≠ .agg cs) : ∃ x, VPar ks x ∧ Rv w.heap.size G0 w x v := by
  obtain ⟨fuel, hd⟩ := hd
  have h := sk_are m t ks fuel _ _ hf hd hz
  have hl := skAre_len h
  obtain ⟨xs, a1, a2, a3⟩ := sks_rv h
  match ks, hl, a1, h1 with
  | [k], hl, a1, h1 =>
    have hv : v.cells.toList = [v] := by
      cases v <;> first | rfl | exact absurd rfl (h1 rfl _)
    rw [hv] at a2
    match xs, a1, a2 with
    | [x], ⟨b1, _⟩, a2 => exact ⟨x, b1, a2.2 0 x v rfl rfl⟩
  | [], hl, a1, _ =>
    cases v with
    | agg cs => exact ⟨.agg xs, ⟨xs, rfl, a1⟩, rv_agg (vs := cs.toList) (by simp) a2 a3⟩
    | _ => simp [Value.cells] at hl
  | k :: k' :: r, hl, a1, _ =>
    cases v with
    | agg cs => exact ⟨.agg xs, ⟨xs, rfl, a1⟩, rv_agg (vs := cs.toList) (by simp) a2 a3⟩
    | _ => simp [Value.cells] at hl
theorem not_agg {P : Program} {w : World} {r : Reach} {b0 : Nat} {t : TypeId} {v : Value} (ha : aggT P t = some false) (hval : Value.okWide P w r b0 t v) : ∀ cs, v ≠ .agg cs := by
  rintro cs rfl
  unfold aggT at ha
  unfold Value.okWide at hval
  cases hu : P.underlying t with
  | none => rw [hu] at ha; simp at ha
  | some d =>
    rw [hu] at hval ha
    cases d <;> simp [Cell.okWide, Cell.ok, hu] at hval ha
end Go.Vm
end
