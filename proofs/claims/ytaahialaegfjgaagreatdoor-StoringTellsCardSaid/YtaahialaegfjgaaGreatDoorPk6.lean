/- Several texts in one: VmLib, VmOpen, HShelf, VCutP, VUnq, VUnq2, VUnqL, VSplit, VGood. -/
import Derived.Test.YtaahialaegfjgaaGreatDoorPk1
import Derived.OpenShut
import Derived.ChangeArms
import Derived.ChangeShapes
import Derived.DataReads
import Derived.KernelRfl
import GoSem.ClaimJoined
import Derived.Shelf.Strings.Builder1
import Derived.Shelf.Strings.Builder2
import Derived.Shelf.Strings.OnBuilder
import Derived.Shelf.Strings.Trim
import Derived.Shelf.Small.Utf8
import Derived.Shelf.Small.Strs
import Derived.Shelf.Small.Wraps
import Derived.Shelf.Strings.BuilderF
import Derived.Shelf.Strings.BuilderK
import Derived.Shelf.Strings.Builder2Cap
import Derived.Shelf.Strings.Search1
import Derived.Shelf.Strings.Search2
import Derived.Shelf.Strings.Cut
import Derived.Shelf.LaysM
import Derived.Shelf.Strings.Shaped
import Derived.Shelf.Strings.Prefix
import Derived.Shelf.Unicode.Decode
import Derived.Shelf.Strings.Runes
import Derived.Shelf.Strings.AsciiSet
import Derived.Shelf.Unicode.DecodeSlow
import Derived.Shelf.Unicode.DecodeAny
import Derived.Shelf.Unicode.DecodeLast
import Derived.Shelf.Strings.BuilderCap
import Derived.Shelf.Slices.Turned
import Derived.Test.YtaahialaegfjgaaGreatDoorProg
import Derived.Lib.Bytealg
import Derived.Test.YtaahialaegfjgaaGreatDoorPk5
import Derived.WalkKit
import Derived.LoopTactic
import Derived.Lib.Hide
import Derived.Lib.Builder
import Derived.Lib.UnsafeStr
import Derived.Lib.Walk
import Derived.Lib.Slices
import Derived.Laws.Externs
section
namespace Go.Vm
set_option linter.unusedVariables false
set_option linter.unusedSimpArgs false
section
variable {P : Program} {B : Nat} {G : Gh} {h : Heap} {w w' w0 : World}
theorem Rel.below (hr : Rel B G h w) (hb : RowKit.Below w.heap.size w w') : Rel B G h w' ∧ Evo B G h w G h w' := by
  have hw := hr.wf
  have hle : Le B G w G w' := by
    refine ⟨fun _ _ e => e, fun _ t e => ⟨t, e, Nat.le_refl _, fun _ => rfl⟩, fun b o hs => ⟨hs, Qhc (hb.block b ?_)⟩⟩
    rcases hs with hs | ⟨n, hs, _⟩
    · exact Nat.lt_of_lt_of_le hs hw.base
    · exact (hw.lim b n hs).2
  refine ⟨⟨⟨Nat.le_trans hw.base hb.size, fun id p e => ?_, fun id t e => ?_, fun b n e => ?_, hw.inj, hw.tinj, hw.tipo⟩, fun id o ho => ?_⟩, ?_⟩
  · obtain ⟨h1, h2, h3, h4⟩ := hw.blk id p e
    exact ⟨h1, Nat.lt_of_lt_of_le h2 hb.size, h3, h4⟩
  · obtain ⟨h1, h2, h3, h4⟩ := hw.tip id t e
    exact ⟨h1, Nat.lt_of_lt_of_le h2 hb.size, h3, h4⟩
  · obtain ⟨h1, h2⟩ := hw.lim b n e
    exact ⟨h1, Nat.lt_of_lt_of_le h2 hb.size⟩
  · exact (hr.obj id o ho).mono hle (fun _ p e => ⟨e, hb.block _ (hw.blk id p e).2.1⟩) (fun _ t e => ⟨e, hb.block _ (hw.tip id t e).2.1⟩)
  · exact { Evo.refl (w := w) hw with
      le := hle, os := hb.os, tape := hb.tape, output := hb.output, size := hb.size
      frame := fun b hlt _ => hb.block b hlt }
theorem QqJ {f : FuncId} {args : List V} {v : V} (hc : ∀ B G (h : Heap) w vs, Rel B G h w → Base w0 B w → Rvs B G w args vs → Calls P f vs.toArray w fun en w' => ∃ val, en = .returned val ∧ Rv B G w' v val ∧ RowKit.Below w.heap.size w w') (h : Heap) :
    Qfx P w0 f args h v h := fun B G w vs hr hb hv =>
  (hc B G h w vs hr hb hv).mono fun en w' ⟨val, he, hv', hbel⟩ => ⟨G, val, he, hv', (hr.below hbel).1, (hr.below hbel).2⟩
def QhF (P : Program) (w0 : World) (L : FuncId → List V → V → Prop) : Prop := ∀ f args v, L f args v → QcG P f = true ∧ ∀ h, Qfx P w0 f args h v h
theorem Qzk {F : FuncId → Option FnC} {L : FuncId → List V → V → Prop} (hm : P.follows .mixedOrders = true) (hF : ∀ f fn, F f = some fn → Qh P f = some fn) {f : FuncId} {args : List V} {b : Bool} {w : World} (hL : QhF P w L)
    (hc : Cf F L f args [] fun v _ => v = .bool b) {vs : List Value} (ha : Rvs w.heap.size G0 w args vs) :
    Calls P f vs.toArray w fun e w' => e = .returned (.bool b) ∧ RowKit.Below w.heap.size w w' := by
  obtain ⟨v, h', hev, rfl⟩ := hc
  refine ((sound (w0 := w) hm hF hL hev).2 _ G0 w vs (QzE w) ⟨Nat.le_refl _, .refl _ _⟩ ha).mono ?_
  rintro en w' ⟨G', val, rfl, hv, hr, he⟩
  cases hv
  exact ⟨rfl, he.os, he.tape, he.output, he.size, fun k hk => he.frame k hk (QGc k)⟩
end
theorem QHD {B : Nat} {G : Gh} {w : World} {x : V} {vs : List Value} (h : Rvs B G w [x] vs) : ∃ a, vs = [a] ∧ Rv B G w x a := by
  obtain ⟨h1, h2⟩ := h
  match vs, h1 with
  | [a], _ => exact ⟨a, rfl, h2 0 _ _ rfl rfl⟩
theorem QsW {B : Nat} {G : Gh} {w : World} {x y : V} {vs : List Value} (h : Rvs B G w [x, y] vs) : ∃ a b, vs = [a, b] ∧ Rv B G w x a ∧ Rv B G w y b := by
  obtain ⟨h1, h2⟩ := h
  match vs, h1 with
  | [a, b], _ => exact ⟨a, b, rfl, h2 0 _ _ rfl rfl, h2 1 _ _ rfl rfl⟩
end Go.Vm
end
section
set_option linter.unusedVariables false
set_option linter.unusedSimpArgs false
namespace Go.Vm
open Go
inductive LeafK where
  | b | s | i (k : IntKind)
def QmD : LeafK → Value → Prop
  | .b, v => ∃ x, v = .bool x
  | .s, v => ∃ x : ByteArray, v = .string x ∧ x.size ≤ reachBytes
  | .i k, v => ∃ n, v = .int k n ∧ (Lit.int k n).wf = true
def QdK : List LeafK → List Value → Prop
  | [], [] => True
  | k :: ks, v :: vs => QmD k v ∧ QdK ks vs
  | _, _ => False
theorem Qr2 : ∀ {ks ls : List LeafK} {vs us : List Value}, QdK ks vs → QdK ls us → QdK (ks ++ ls) (vs ++ us)
  | [], _, [], _, _, h => h
  | _ :: _, _, _ :: _, _, ⟨a, b⟩, h => ⟨a, Qr2 b h⟩
  | [], _, _ :: _, _, h, _ => h.elim
  | _ :: _, _, [], _, h, _ => h.elim
def Qhq (g : TypeId → Option (List LeafK)) (c : TypeId → Nat) : Nat → List (Nat × TypeId) → Option (List LeafK)
  | o, [] => some []
  | o, (p, t) :: r => if p = o then (g t).bind fun a => (Qhq g c (o + c t) r).map fun b => a ++ b else none
def Qcp (c : TypeId → Nat) : Nat → List (Nat × TypeId) → Nat
  | o, [] => o
  | o, (p, t) :: r => Qcp c (o + c t) r
def Qg0 (P : Program) : Nat → TypeId → Option (List LeafK)
  | 0, _ => none
  | m + 1, t =>
    match P.underlying t with
    | some .bool => some [.b]
    | some .string => some [.s]
    | some (.int k) => some [.i k]
    | some (.struct fs) => if Qcp P.cellsOf 0 (fs.toList.map fun f => (f.offset, f.type)) = P.cellsOf t then Qhq (Qg0 P m) P.cellsOf 0 (fs.toList.map fun f => (f.offset, f.type)) else none
    | some (.array n e) => if Qcp P.cellsOf 0 ((List.range n).map fun i => (i * P.cellsOf e, e)) = P.cellsOf t then Qhq (Qg0 P m) P.cellsOf 0 ((List.range n).map fun i => (i * P.cellsOf e, e)) else none
    | _ => none
theorem Qpy {g : TypeId → Option (List LeafK)} {c : TypeId → Nat} {cs : List Value} : ∀ (l : List (Nat × TypeId)) (o : Nat) (ks : List LeafK),
    Qhq g c o l = some ks → Qcp c o l = cs.length → o ≤ cs.length →
    (∀ x ∈ l, ∀ a, g x.2 = some a → QdK a ((cs.drop x.1).take (c x.2))) → QdK ks (cs.drop o)
  | [], o, ks, h, he, _, _ => by
    simp only [Qhq, Option.some.injEq] at h
    subst h
    simp only [Qcp] at he
    rw [List.drop_eq_nil_of_le (by omega)]
    trivial
  | (p, t) :: r, o, ks, h, he, ho, hx => by
    simp only [Qhq] at h
    split at h
    · rename_i hp
      subst hp
      obtain ⟨a, ha, h⟩ := Option.bind_eq_some_iff.mp h
      obtain ⟨b, hb, rfl⟩ := Option.map_eq_some_iff.mp h
      simp only [Qcp] at he
      have hge : ∀ (l : List (Nat × TypeId)) (q : Nat), q ≤ Qcp c q l := by
        intro l
        induction l with
        | nil => intro q; exact Nat.le_refl _
        | cons y ys ih => intro q; exact Nat.le_trans (Nat.le_add_right q (c y.2)) (ih _)
      have h1 := hge r (p + c t)
      have i1 := Qpy r (p + c t) b hb he (by omega) (fun x hm => hx x (List.mem_cons_of_mem _ hm))
      have i2 := hx (p, t) (List.mem_cons_self ..) a ha
      have e : cs.drop p = (cs.drop p).take (c t) ++ cs.drop (p + c t) := by
        rw [← List.drop_drop]
        exact (List.take_append_drop _ _).symm
      rw [e]
      exact Qr2 i2 i1
    · cases h
theorem QjI {H : Type} {P : Program} {e : TypeId} {n : Nat} {d : DataW H} : ∀ {l : List (DataW H)}, d ∈ l → n ∈ d.weights P e → n ∈ DataW.weightsAll P e l
  | [], h, _ => by cases h
  | a :: r, h, hn => by
    rw [DataW.weightsAll]
    rcases List.mem_cons.1 h with rfl | h
    · exact List.mem_append_left _ hn
    · exact List.mem_append_right _ (QjI h hn)
theorem mem_weightsEach {H : Type} {P : Program} {n : Nat} {t : TypeId} {d : DataW H} : ∀ {ts : List TypeId} {l : List (DataW H)} {i : Nat}, ts[i]? = some t → l[i]? = some d → n ∈ d.weights P t → n ∈ DataW.weightsEach P ts l
  | t' :: ts, d' :: l, 0, h1, h2, hn => by
    rw [DataW.weightsEach]
    simp only [List.getElem?_cons_zero, Option.some.injEq] at h1 h2
    subst h1; subst h2
    exact List.mem_append_left _ hn
  | t' :: ts, d' :: l, i + 1, h1, h2, hn => by
    rw [DataW.weightsEach]
    simp only [List.getElem?_cons_succ] at h1 h2
    exact List.mem_append_right _ (mem_weightsEach h1 h2 hn)
  | [], _, _, h1, _, _ => by simp at h1
  | _ :: _, [], _, _, h2, _ => by simp at h2
theorem all_reach {l : List Nat} (h : l.all (· ≤ reachBytes) = true) : ∀ n ∈ l, n ≤ reachBytes := fun n hn => of_decide_eq_true (List.all_eq_true.1 h n hn)
theorem QnX {H : Type} {enc : TypeId × Value → H} {P : Program} {w : World} {base : Nat} {spare : Nat → Bool} {held : Bool} :
    ∀ (m : Nat) (t : TypeId) (ks : List LeafK) (fuel : Nat) (cs : List Value) (x : DataW H × List MemPlace),
    Qg0 P m t = some ks → DataW.trod enc P w base spare held fuel t cs = some x → (∀ n ∈ x.1.weights P t, n ≤ reachBytes) → QdK ks cs
  | 0, _, _, _, _, _, h, _, _ => by simp [Qg0] at h
  | m + 1, t, ks, fuel, cs, x, h, hd, hz => by
    simp only [Qg0] at h
    split at h
    · rename_i hu
      simp only [Option.some.injEq] at h
      subst h
      obtain ⟨b, rfl, _⟩ := DataW.trod_bool hu hd
      exact ⟨⟨b, rfl⟩, trivial⟩
    · rename_i hu
      simp only [Option.some.injEq] at h
      subst h
      obtain ⟨b, rfl, rfl, hs⟩ := DataW.trod_string hu hd
      exact ⟨⟨b, rfl, by have := hz b.data.toList.length (by simp [DataW.weights]); rwa [Array.length_toList] at this⟩, trivial⟩
    · rename_i k hu
      simp only [Option.some.injEq] at h
      subst h
      obtain ⟨b, rfl, _, hs⟩ := DataW.trod_int hu hd
      exact ⟨⟨b, rfl, hs⟩, trivial⟩
    · rename_i fs hu
      split at h
      · rename_i he
        obtain ⟨xs, n, _, rfl, hl, hn, hf⟩ := DataW.trod_struct hu hd
        refine Qpy (cs := cs) _ 0 ks h (he.trans hl.symm) (Nat.zero_le _) ?_
        intro y hy a ha
        obtain ⟨f, hfm, rfl⟩ := List.mem_map.mp hy
        obtain ⟨i, hi, hfe⟩ := List.mem_iff_getElem.mp hfm
        have hi' : i < fs.size := by simpa using hi
        have hq := hf i f (by rw [Array.getElem?_eq_getElem hi']; rw [← hfe]; simp)
        rw [List.getElem?_eq_getElem (by omega)] at hq
        refine QnX m f.type a n _ _ ha hq fun z hzm => hz z ?_
        rw [DataW.weights, hu]
        exact mem_weightsEach (i := i) (by rw [List.getElem?_map, List.getElem?_eq_getElem hi, hfe]; rfl) (by rw [List.getElem?_map, List.getElem?_eq_getElem (by omega)]; rfl) hzm
      · cases h
    · rename_i n e hu
      split at h
      · rename_i he
        obtain ⟨xs, q, _, rfl, hl, hn, hf⟩ := DataW.trod_array hu hd
        refine Qpy (cs := cs) _ 0 ks h (he.trans hl.symm) (Nat.zero_le _) ?_
        intro y hy a ha
        obtain ⟨i, hfm, rfl⟩ := List.mem_map.mp hy
        have hi : i < n := List.mem_range.mp hfm
        have hq := hf i hi
        rw [List.getElem?_eq_getElem (by omega)] at hq
        refine QnX m e a q _ _ ha hq fun z hzm => hz z ?_
        rw [DataW.weights, hu]
        exact QjI (List.mem_map_of_mem (List.getElem_mem (by omega))) hzm
      · cases h
    · cases h
inductive SK where
  | l (k : LeafK)
  | sl (ks : List LeafK)
def Qsr (w : World) (a : Addr) (ks : List LeafK) (i : Nat) : Prop :=
  ∃ cs : List Value, QdK ks cs ∧ ∀ j, j < ks.length → w.cell? ⟨a.block, a.off + (i * ks.length + j), none⟩ = cs[j]?
def SKIs (w : World) : SK → Value → Prop
  | .l k, v => QmD k v
  | .sl ks, v => v = .slice none 0 0 ∨ ∃ a len cap, v = .slice (some a) len cap ∧ len ≤ cap ∧ cap ≤ maxLen ∧ len ≤ reachBytes ∧ (len ≠ 0 → a.spot = none) ∧ ∀ i, i < len → Qsr w a ks i
def SKAre (w : World) : List SK → List Value → Prop
  | [], [] => True
  | k :: ks, v :: vs => SKIs w k v ∧ SKAre w ks vs
  | _, _ => False
theorem QrV {w : World} : ∀ {ks ls : List SK} {vs us : List Value}, SKAre w ks vs → SKAre w ls us → SKAre w (ks ++ ls) (vs ++ us)
  | [], _, [], _, _, h => h
  | _ :: _, _, _ :: _, _, ⟨a, b⟩, h => ⟨a, QrV b h⟩
  | [], _, _ :: _, _, h, _ => h.elim
  | _ :: _, _, [], _, h, _ => h.elim
theorem QtQ {w : World} : ∀ {ks : List SK} {vs : List Value}, SKAre w ks vs → ks.length = vs.length
  | [], [], _ => rfl
  | _ :: _, _ :: _, ⟨_, b⟩ => by simp [QtQ b]
  | [], _ :: _, h => h.elim
  | _ :: _, [], h => h.elim
def Qht (g : TypeId → Option (List SK)) (c : TypeId → Nat) : Nat → List (Nat × TypeId) → Option (List SK)
  | o, [] => some []
  | o, (p, t) :: r => if p = o then (g t).bind fun a => (Qht g c (o + c t) r).map fun b => a ++ b else none
def shapeOf (P : Program) : Nat → TypeId → Option (List SK)
  | 0, _ => none
  | m + 1, t =>
    match P.underlying t with
    | some .bool => some [.l .b]
    | some .string => some [.l .s]
    | some (.int k) => some [.l (.i k)]
    | some (.slice e) => match Qg0 P m e with
      | some ks => if (ks.length = P.cellsOf e ∧ 0 < ks.length) ∧ 0 < P.bytesOf e then some [.sl ks] else none
      | none => none
    | some (.struct fs) => if Qcp P.cellsOf 0 (fs.toList.map fun f => (f.offset, f.type)) = P.cellsOf t then Qht (shapeOf P m) P.cellsOf 0 (fs.toList.map fun f => (f.offset, f.type)) else none
    | some (.array n e) => if Qcp P.cellsOf 0 ((List.range n).map fun i => (i * P.cellsOf e, e)) = P.cellsOf t then Qht (shapeOf P m) P.cellsOf 0 ((List.range n).map fun i => (i * P.cellsOf e, e)) else none
    | _ => none
theorem QnA {w : World} {g : TypeId → Option (List SK)} {c : TypeId → Nat} {cs : List Value} : ∀ (l : List (Nat × TypeId)) (o : Nat) (ks : List SK),
    Qht g c o l = some ks → Qcp c o l = cs.length → o ≤ cs.length →
    (∀ x ∈ l, ∀ a, g x.2 = some a → SKAre w a ((cs.drop x.1).take (c x.2))) → SKAre w ks (cs.drop o)
  | [], o, ks, h, he, _, _ => by
    simp only [Qht, Option.some.injEq] at h
    subst h
    simp only [Qcp] at he
    rw [List.drop_eq_nil_of_le (by omega)]
    trivial
  | (p, t) :: r, o, ks, h, he, ho, hx => by
    simp only [Qht] at h
    split at h
    · rename_i hp
      subst hp
      obtain ⟨a, ha, h⟩ := Option.bind_eq_some_iff.mp h
      obtain ⟨b, hb, rfl⟩ := Option.map_eq_some_iff.mp h
      simp only [Qcp] at he
      have hge : ∀ (l : List (Nat × TypeId)) (q : Nat), q ≤ Qcp c q l := by
        intro l
        induction l with
        | nil => intro q; exact Nat.le_refl _
        | cons y ys ih => intro q; exact Nat.le_trans (Nat.le_add_right q (c y.2)) (ih _)
      have h1 := hge r (p + c t)
      have i1 := QnA r (p + c t) b hb he (by omega) (fun x hm => hx x (List.mem_cons_of_mem _ hm))
      have i2 := hx (p, t) (List.mem_cons_self ..) a ha
      have e : cs.drop p = (cs.drop p).take (c t) ++ cs.drop (p + c t) := by
        rw [← List.drop_drop]
        exact (List.take_append_drop _ _).symm
      rw [e]
      exact QrV i2 i1
    · cases h
theorem QC8 (a : Addr) (x j : Nat) (h : ((a.add x).add j).spot = none) : (a.add x).add j = ⟨a.block, a.off + (x + j), none⟩ := by
  obtain ⟨b, o, s⟩ := a
  by_cases h1 : x = 0
  · by_cases h2 : j = 0
    · subst h1; subst h2
      simp only [Addr.add, if_true] at h ⊢
      rw [h]; rfl
    · subst h1
      simp only [Addr.add, if_true, if_neg h2, Nat.zero_add]
  · by_cases h2 : j = 0
    · subst h2
      simp only [Addr.add, if_true, if_neg h1, Nat.add_zero]
    · simp only [Addr.add, if_neg h1, if_neg h2, Nat.add_assoc]
theorem Qms {H : Type} {enc : TypeId × Value → H} {P : Program} {w : World} {base : Nat} {spare : Nat → Bool} {held : Bool} :
    ∀ (m : Nat) (t : TypeId) (ks : List SK) (fuel : Nat) (cs : List Value) (x : DataW H × List MemPlace),
    shapeOf P m t = some ks → DataW.trod enc P w base spare held fuel t cs = some x → (∀ n ∈ x.1.weights P t, n ≤ reachBytes) → SKAre w ks cs
  | 0, _, _, _, _, _, h, _, _ => by simp [shapeOf] at h
  | m + 1, t, ks, fuel, cs, x, h, hd, hz => by
    simp only [shapeOf] at h
    split at h
    · rename_i hu
      simp only [Option.some.injEq] at h
      subst h
      obtain ⟨b, rfl, _⟩ := DataW.trod_bool hu hd
      exact ⟨⟨b, rfl⟩, trivial⟩
    · rename_i hu
      simp only [Option.some.injEq] at h
      subst h
      obtain ⟨b, rfl, rfl, hs⟩ := DataW.trod_string hu hd
      exact ⟨⟨b, rfl, by have := hz b.data.toList.length (by simp [DataW.weights]); rwa [Array.length_toList] at this⟩, trivial⟩
    · rename_i k hu
      simp only [Option.some.injEq] at h
      subst h
      obtain ⟨b, rfl, _, hs⟩ := DataW.trod_int hu hd
      exact ⟨⟨b, rfl, hs⟩, trivial⟩
    · rename_i e hu
      split at h
      · rename_i ls hls
        split at h
        · rename_i hc0
          obtain ⟨hc, hby⟩ := hc0
          simp only [Option.some.injEq] at h
          subst h
          rcases DataW.trod_slice hu hd with ⟨rfl, _⟩ | ⟨a, len, cap, elems, rest, n, _, rfl, rfl, hb, hl, hm, hlen, hel, _, _⟩
          · exact ⟨.inl rfl, trivial⟩
          · rw [DataW.weights, hu] at hz
            refine ⟨.inr ⟨a, len, cap, rfl, hl, hm, ?_, fun h0 => ?_, fun i hi => ?_⟩, trivial⟩
            · have h7 := hz _ (List.mem_cons_self ..)
              simp only [List.length_map] at h7
              exact Nat.le_trans (Nat.le_trans (by omega) (Nat.le_mul_of_pos_right _ hby)) h7
            · have h1 := hel 0 (by omega)
              rw [List.getElem?_eq_getElem (by omega), Option.bind_eq_some_iff] at h1
              obtain ⟨cs', h2, _⟩ := h1
              obtain ⟨_, h3, h4⟩ := World.cells?_some h2
              have hjl : 0 < cs'.length := by rw [h3, ← hc.1]; exact hc.2
              have h5 := h4 0 (by omega)
              rw [List.getElem?_eq_getElem hjl] at h5
              have := World.cell?_spot h5
              simpa [Addr.add] using this
            · have h1 := hel i hi
              rw [List.getElem?_eq_getElem (by omega), Option.bind_eq_some_iff] at h1
              obtain ⟨cs', h2, h6⟩ := h1
              obtain ⟨_, h3, h4⟩ := World.cells?_some h2
              refine ⟨cs', QnX m e ls n cs' _ hls h6 (fun z hzm => hz z (List.mem_cons_of_mem _ (List.mem_append_left _ (QjI (List.mem_map_of_mem (List.getElem_mem (by omega))) hzm)))), fun j hj => ?_⟩
              have hjl : j < cs'.length := by rw [h3, ← hc.1]; exact hj
              have h5 := h4 j (by rw [← h3]; exact hjl)
              rw [List.getElem?_eq_getElem hjl] at h5 ⊢
              have hsp := World.cell?_spot h5
              rw [← h5, hc.1, QC8 a _ _ hsp]
        · cases h
      · cases h
    · rename_i fs hu
      split at h
      · rename_i he
        obtain ⟨xs, n, _, rfl, hl, hn, hf⟩ := DataW.trod_struct hu hd
        refine QnA (cs := cs) _ 0 ks h (he.trans hl.symm) (Nat.zero_le _) ?_
        intro y hy a ha
        obtain ⟨f, hfm, rfl⟩ := List.mem_map.mp hy
        obtain ⟨i, hi, hfe⟩ := List.mem_iff_getElem.mp hfm
        have hi' : i < fs.size := by simpa using hi
        have hq := hf i f (by rw [Array.getElem?_eq_getElem hi']; rw [← hfe]; simp)
        rw [List.getElem?_eq_getElem (by omega)] at hq
        refine Qms m f.type a n _ _ ha hq fun z hzm => hz z ?_
        rw [DataW.weights, hu]
        exact mem_weightsEach (i := i) (by rw [List.getElem?_map, List.getElem?_eq_getElem hi, hfe]; rfl) (by rw [List.getElem?_map, List.getElem?_eq_getElem (by omega)]; rfl) hzm
      · cases h
    · rename_i n e hu
      split at h
      · rename_i he
        obtain ⟨xs, q, _, rfl, hl, hn, hf⟩ := DataW.trod_array hu hd
        refine QnA (cs := cs) _ 0 ks h (he.trans hl.symm) (Nat.zero_le _) ?_
        intro y hy a ha
        obtain ⟨i, hfm, rfl⟩ := List.mem_map.mp hy
        have hi : i < n := List.mem_range.mp hfm
        have hq := hf i hi
        rw [List.getElem?_eq_getElem (by omega)] at hq
        refine Qms m e a q _ _ ha hq fun z hzm => hz z ?_
        rw [DataW.weights, hu]
        exact QjI (List.mem_map_of_mem (List.getElem_mem (by omega))) hzm
      · cases h
    · cases h
/-! The machine's values. -/
def VLeaf : LeafK → V → Prop
  | .b, x => ∃ b, x = .bool b
  | .s, x => ∃ s : List UInt8, x = .str s ∧ s.length ≤ reachBytes
  | .i k, x => ∃ n, x = .int k n ∧ (Lit.int k n).wf = true
def VLeaves : List LeafK → List V → Prop
  | [], [] => True
  | k :: ks, x :: xs => VLeaf k x ∧ VLeaves ks xs
  | _, _ => False
def VElem (ks : List LeafK) (x : V) : Prop := VLeaves ks (cells x) ∧ (ks.length = 1 → cells x = [x]) ∧ (ks.length ≠ 1 → x = .agg (cells x))
def VSK : SK → V → Prop
  | .l k, x => VLeaf k x
  | .sl ks, x => x = .nsl ∨ ∃ es, x = .sl ks.length .no es ∧ es.length ≤ reachBytes ∧ ∀ e ∈ es, VElem ks e
def VSKs : List SK → List V → Prop
  | [], [] => True
  | k :: ks, x :: xs => VSK k x ∧ VSKs ks xs
  | _, _ => False
theorem Qv7 {B : Nat} {G : Gh} {w : World} {k : LeafK} {v : Value} (h : QmD k v) : ∃ x, VLeaf k x ∧ Rv B G w x v ∧ QO x := by
  cases k with
  | b => obtain ⟨b, rfl⟩ := h; exact ⟨.bool b, ⟨b, rfl⟩, .bool b, trivial⟩
  | s => obtain ⟨s, rfl, hs⟩ := h; exact ⟨.str s.data.toList, ⟨_, rfl, by rw [Array.length_toList]; exact hs⟩, QGk s, trivial⟩
  | i k => obtain ⟨n, rfl, hn⟩ := h; exact ⟨.int k n, ⟨n, rfl, hn⟩, .int k n, trivial⟩
theorem Qvp {B : Nat} {G : Gh} {w : World} : ∀ {ks : List LeafK} {vs : List Value}, QdK ks vs → ∃ xs, VLeaves ks xs ∧ Rvs B G w xs vs ∧ (∀ c ∈ xs, QO c)
  | [], [], _ => ⟨[], trivial, rvs_nil, by simp⟩
  | k :: ks, v :: vs, ⟨h1, h2⟩ => by
    obtain ⟨x, a1, a2, a3⟩ := Qv7 (B := B) (G := G) (w := w) h1
    obtain ⟨xs, b1, b2, b3⟩ := Qvp h2
    refine ⟨x :: xs, ⟨a1, b1⟩, rvs_cons a2 b2, ?_⟩
    intro c hc
    rcases List.mem_cons.1 hc with rfl | hc
    · exact a3
    · exact b3 c hc
  | [], _ :: _, h => h.elim
  | _ :: _, [], h => h.elim
theorem QvG : ∀ {ks : List LeafK} {xs : List V}, VLeaves ks xs → ks.length = xs.length
  | [], [], _ => rfl
  | _ :: _, _ :: _, ⟨_, b⟩ => by simp [QvG b]
  | [], _ :: _, h => h.elim
  | _ :: _, [], h => h.elim
def pack (xs : List V) : V := match xs with
  | [x] => x
  | xs => .agg xs
theorem QAS {xs : List V} (h : ∀ c ∈ xs, QO c) : cells (pack xs) = xs := by
  match xs, h with
  | [], _ => rfl
  | [x], h =>
    have := h x (by simp)
    cases x <;> first | rfl | exact this.elim
  | a :: b :: r, _ => rfl
theorem QIQ {B : Nat} {G : Gh} {w : World} {a : Addr} {ks : List LeafK} {i : Nat} (h : Qsr w a ks i) :
    ∃ x, VElem ks x ∧ (cells x).length = ks.length ∧ (∀ c ∈ cells x, QO c) ∧ ∀ j y, (cells x)[j]? = some y → ∃ v, w.cell? ⟨a.block, a.off + (i * ks.length + j), none⟩ = some v ∧ Rv B G w y v := by
  obtain ⟨cs, h1, h2⟩ := h
  obtain ⟨xs, a1, a2, a3⟩ := Qvp (B := B) (G := G) (w := w) h1
  have hl := QvG a1
  have e := QAS a3
  refine ⟨pack xs, ⟨by rw [e]; exact a1, fun hk => ?_, fun hk => ?_⟩, by rw [e, hl], by rw [e]; exact a3, fun j y hy => ?_⟩
  · rw [e]
    obtain ⟨x, rfl⟩ := List.length_eq_one_iff.1 (show xs.length = 1 by omega)
    rfl
  · rw [e]
    match xs, hl with
    | [], _ => rfl
    | [x], hl => exact absurd hl hk
    | _ :: _ :: _, _ => rfl
  · rw [e] at hy
    have hj : j < xs.length := (List.getElem?_eq_some_iff.1 hy).1
    have hj' : j < cs.length := by rw [a2.1]; exact hj
    exact ⟨cs[j], by rw [h2 j (by omega), List.getElem?_eq_getElem hj'], a2.2 j y cs[j] hy (List.getElem?_eq_getElem hj')⟩
theorem QEX {α : Type} {n : Nat} {p : Nat → α → Prop} (h : ∀ i, i < n → ∃ x, p i x) : ∃ xs : List α, xs.length = n ∧ ∀ i x, xs[i]? = some x → p i x := by
  induction n with
  | zero => exact ⟨[], rfl, by simp⟩
  | succ n ih =>
    obtain ⟨xs, h1, h2⟩ := ih fun i hi => h i (by omega)
    obtain ⟨x, hx⟩ := h n (by omega)
    refine ⟨xs ++ [x], by simp [h1], fun i y hy => ?_⟩
    rcases Nat.lt_or_ge i n with hi | hi
    · rw [List.getElem?_append_left (by omega)] at hy
      exact h2 i y hy
    · have : i = n := by
        have := (List.getElem?_eq_some_iff.1 hy).1
        simp at this; omega
      subst this
      rw [List.getElem?_append_right (by omega), h1] at hy
      simp at hy; subst hy; exact hx
theorem Qtw {c : Nat} : ∀ {es : List V} {k : Nat} {y : V}, (∀ e ∈ es, (cells e).length = c) → (flat es)[k]? = some y → ∃ i j e, es[i]? = some e ∧ (cells e)[j]? = some y ∧ j < c ∧ k = i * c + j
  | [], k, y, _, h => by simp [flat] at h
  | e :: es, k, y, hc, h => by
    have hce := hc e (by simp)
    have hf : flat (e :: es) = cells e ++ flat es := rfl
    rw [hf] at h
    rcases Nat.lt_or_ge k c with hk | hk
    · rw [List.getElem?_append_left (by omega)] at h
      exact ⟨0, k, e, rfl, h, hk, by simp⟩
    · rw [List.getElem?_append_right (by omega), hce] at h
      obtain ⟨i, j, e', h1, h2, h3, h4⟩ := Qtw (fun x hx => hc x (by simp [hx])) h
      refine ⟨i + 1, j, e', h1, h2, h3, ?_⟩
      rw [Nat.add_mul]; omega
theorem Qxk {w : World} {k : SK} {v : Value} (h : SKIs w k v) : ∃ x, VSK k x ∧ Rv w.heap.size G0 w x v ∧ QO x := by
  cases k with
  | l k => exact Qv7 h
  | sl ks =>
    rcases h with rfl | ⟨a, len, cap, rfl, h1, h2, h2', h3, h4⟩
    · exact ⟨.nsl, .inl rfl, .nsl, trivial⟩
    · obtain ⟨es, e1, e2⟩ := QEX fun i hi => QIQ (B := w.heap.size) (G := G0) (h4 i hi)
      have hmem : ∀ e ∈ es, ∃ i, es[i]? = some e := fun e he => List.getElem?_of_mem he
      have hsz : ∀ e ∈ es, (cells e).length = ks.length := fun e he => by obtain ⟨i, hi⟩ := hmem e he; exact (e2 i e hi).2.1
      refine ⟨.sl ks.length .no es, .inr ⟨es, rfl, by omega, fun e he => by obtain ⟨i, hi⟩ := hmem e he; exact (e2 i e hi).1⟩, ?_, trivial⟩
      have at_ : ∀ k y, (flat es)[k]? = some y → ∃ v, w.cell? ⟨a.block, a.off + k, none⟩ = some v ∧ Rv w.heap.size G0 w y v := by
        intro k y hy
        obtain ⟨i, j, e, g1, g2, g3, rfl⟩ := Qtw hsz hy
        exact (e2 i e g1).2.2.2 j y g2
      subst e1
      refine .sl (fun k => (w.cell? ⟨a.block, a.off + k, none⟩).getD default) hsz (fun hne => h3 (by simpa using hne)) h1 (fun k hk => ?_) (fun c hc => ?_) (fun k x hx => ?_) (fun hf => by cases hf) (fun id hf => by cases hf)
      · obtain ⟨v, hv, _⟩ := at_ k _ (List.getElem?_eq_getElem hk)
        refine ⟨.inl (World.block_lt_of_cell? w ⟨a.block, a.off + k, none⟩ hv), ?_⟩
        simp only [at?, hv, Option.getD_some]
      · obtain ⟨e, he, hce⟩ := List.mem_flatMap.1 hc
        obtain ⟨i, hi⟩ := hmem e he
        exact (e2 i e hi).2.2.1 c hce
      · obtain ⟨v, hv, hr⟩ := at_ k x hx
        simp only [hv, Option.getD_some]; exact hr
theorem Qve {w : World} : ∀ {ks : List SK} {vs : List Value}, SKAre w ks vs → ∃ xs, VSKs ks xs ∧ Rvs w.heap.size G0 w xs vs ∧ (∀ c ∈ xs, QO c)
  | [], [], _ => ⟨[], trivial, rvs_nil, by simp⟩
  | k :: ks, v :: vs, ⟨h1, h2⟩ => by
    obtain ⟨x, a1, a2, a3⟩ := Qxk h1
    obtain ⟨xs, b1, b2, b3⟩ := Qve h2
    refine ⟨x :: xs, ⟨a1, b1⟩, rvs_cons a2 b2, ?_⟩
    intro c hc
    rcases List.mem_cons.1 hc with rfl | hc
    · exact a3
    · exact b3 c hc
  | [], _ :: _, h => h.elim
  | _ :: _, [], h => h.elim
def VPar (ks : List SK) (x : V) : Prop := match ks with
  | [k] => VSK k x
  | ks => ∃ xs, x = .agg xs ∧ VSKs ks xs
theorem open_par {H : Type} {enc : TypeId × Value → H} {P : Program} {w : World} {base : Nat} {spare : Nat → Bool} {held : Bool} {t : TypeId} {v : Value} {d : DataW H} {ps : List MemPlace}
    (m : Nat) {ks : List SK} (hf : shapeOf P m t = some ks) (hd : DataW.Trod enc P w base spare held t v d ps) (hz : ∀ n ∈ d.weights P t, n ≤ reachBytes) (h1 : ks.length = 1 → ∀ cs, v ≠ .agg cs) : ∃ x, VPar ks x ∧ Rv w.heap.size G0 w x v := by
  obtain ⟨fuel, hd⟩ := hd
  have h := Qms m t ks fuel _ _ hf hd hz
  have hl := QtQ h
  obtain ⟨xs, a1, a2, a3⟩ := Qve h
  match ks, hl, a1, h1 with
  | [k], hl, a1, h1 =>
    have hv : v.cells.toList = [v] := by
      cases v <;> first | rfl | exact absurd rfl (h1 rfl _)
    rw [hv] at a2
    match xs, a1, a2 with
    | [x], ⟨b1, _⟩, a2 => exact ⟨x, b1, a2.2 0 x v rfl rfl⟩
  | [], hl, a1, _ =>
    cases v with
    | agg cs => exact ⟨.agg xs, ⟨xs, rfl, a1⟩, Qtr (vs := cs.toList) (by simp) a2 a3⟩
    | _ => simp [Value.cells] at hl
  | k :: k' :: r, hl, a1, _ =>
    cases v with
    | agg cs => exact ⟨.agg xs, ⟨xs, rfl, a1⟩, Qtr (vs := cs.toList) (by simp) a2 a3⟩
    | _ => simp [Value.cells] at hl
end Go.Vm
end
section
namespace Go.Proofs
open Go.Shelf
def Tryz.lays169_ren : Go.Shelf.Ren := ⟨fun | 169 => 71 | n => n, fun | 70 => 101 | 9 => 9 | 0 => 0 | 72 => 103 | 37 => 64 | 127 => 124 | 3 => 3 | 5 => 5 | n => n, fun | n => n⟩
theorem Tryz.lays169 : Go.Proofs.Lays.n169 Tryz.prog Tryz.lays169_ren := {
  mixed := by kernel_rfl
  f169 := Tryz.func71.trans (congrArg some (by kernel_rfl))
  t0 := Tryz.underlying0
  a0 := Tryz.isAgg0
  z0 := Tryz.sizeOf0
  v0 := Tryz.zeroValue0
  t3 := Tryz.underlying3
  a3 := Tryz.isAgg3
  z3 := Tryz.sizeOf3
  v3 := Tryz.zeroValue3
  t9 := Tryz.underlying9
  a9 := Tryz.isAgg9
  z9 := Tryz.sizeOf9
  v9 := Tryz.zeroValue9
  t37 := Tryz.underlying64
  a37 := Tryz.isAgg64
  z37 := Tryz.sizeOf64
  v37 := Tryz.zeroValue64
  t70 := Tryz.underlying101
  a70 := Tryz.isAgg101
  z70 := Tryz.sizeOf101
  v70 := Tryz.zeroValue101
  t72 := Tryz.underlying103
  a72 := Tryz.isAgg103
  z72 := Tryz.sizeOf103
  v72 := Tryz.zeroValue103
  t127 := Tryz.underlying124
  a127 := Tryz.isAgg124
  z127 := Tryz.sizeOf124
  v127 := Tryz.zeroValue124 }
theorem Tryz.Builder_Extra_169 : Builder.Extra Tryz.prog Tryz.lays169_ren := {
  sizeBuilder := by kernel_rfl
  liesBuilder := by kernel_rfl
  t5 := Tryz.underlying5
  a5 := Tryz.isAgg5
  z5 := Tryz.sizeOf5
  v5 := Tryz.zeroValue5
  infoByte := by kernel_rfl
  cellsByte := by kernel_rfl
  sizeByte := by kernel_rfl
  neB5 := by decide }
open Go.RowKit in
theorem Tryz.Builder_String_any (B b : Nat) (l : List UInt8) (w : World) (h : Lib.IsBuilder 103 5 B b (Lib.byteCells l) w) (hBw : B ≤ w.heap.size) :
    Calls Tryz.prog 71 #[.pointer (some ⟨b, 0, none⟩)] w fun e w' => e = .returned (.string ⟨l.toArray⟩) ∧ Below B w w' := Any.Builder_String_any Tryz.lays169 Tryz.Builder_Extra_169 B b l w h hBw
def Tryz.lays156_ren : Go.Shelf.Ren := ⟨fun | 156 => 45 | 165 => 69 | 166 => 70 | 169 => 71 | 240 => 108 | 241 => 109 | 276 => 129 | 277 => 130 | n => n, fun | 31 => 56 | 9 => 9 | 3 => 3 | 4 => 4 | 0 => 0 | 20 => 20 | 72 => 103 | 76 => 106 | 70 => 101 | 37 => 64 | 75 => 105 | 127 => 124 | 164 => 142 | 5 => 5 | 80 => 108 | n => n, fun | n => n⟩
theorem Tryz.lays156 : Go.Proofs.Lays.n156 Tryz.prog Tryz.lays156_ren := {
  mixed := by kernel_rfl
  f156 := Tryz.func45.trans (congrArg some (by kernel_rfl))
  f165 := Tryz.func69.trans (congrArg some (by kernel_rfl))
  f166 := Tryz.func70.trans (congrArg some (by kernel_rfl))
  f169 := Tryz.func71.trans (congrArg some (by kernel_rfl))
  f240 := Tryz.func108.trans (congrArg some (by kernel_rfl))
  f241 := Tryz.func109.trans (congrArg some (by kernel_rfl))
  f276 := Tryz.func129.trans (congrArg some (by kernel_rfl))
  f277 := Tryz.func130.trans (congrArg some (by kernel_rfl))
  t0 := Tryz.underlying0
  a0 := Tryz.isAgg0
  z0 := Tryz.sizeOf0
  v0 := Tryz.zeroValue0
  t3 := Tryz.underlying3
  a3 := Tryz.isAgg3
  z3 := Tryz.sizeOf3
  v3 := Tryz.zeroValue3
  t4 := Tryz.underlying4
  a4 := Tryz.isAgg4
  z4 := Tryz.sizeOf4
  v4 := Tryz.zeroValue4
  t9 := Tryz.underlying9
  a9 := Tryz.isAgg9
  z9 := Tryz.sizeOf9
  v9 := Tryz.zeroValue9
  t20 := Tryz.underlying20
  a20 := Tryz.isAgg20
  z20 := Tryz.sizeOf20
  v20 := Tryz.zeroValue20
  t31 := Tryz.underlying56
  a31 := Tryz.isAgg56
  z31 := Tryz.sizeOf56
  v31 := Tryz.zeroValue56
  t37 := Tryz.underlying64
  a37 := Tryz.isAgg64
  z37 := Tryz.sizeOf64
  v37 := Tryz.zeroValue64
  t70 := Tryz.underlying101
  a70 := Tryz.isAgg101
  z70 := Tryz.sizeOf101
  v70 := Tryz.zeroValue101
  t72 := Tryz.underlying103
  a72 := Tryz.isAgg103
  z72 := Tryz.sizeOf103
  v72 := Tryz.zeroValue103
  t75 := Tryz.underlying105
  a75 := Tryz.isAgg105
  z75 := Tryz.sizeOf105
  v75 := Tryz.zeroValue105
  t76 := Tryz.underlying106
  a76 := Tryz.isAgg106
  z76 := Tryz.sizeOf106
  v76 := Tryz.zeroValue106
  t127 := Tryz.underlying124
  a127 := Tryz.isAgg124
  z127 := Tryz.sizeOf124
  v127 := Tryz.zeroValue124
  t164 := Tryz.underlying142
  a164 := Tryz.isAgg142
  z164 := Tryz.sizeOf142
  v164 := Tryz.zeroValue142 }
theorem Tryz.Builder_Extra_156 : Builder.Extra Tryz.prog Tryz.lays156_ren := {
  sizeBuilder := by kernel_rfl
  liesBuilder := by kernel_rfl
  t5 := Tryz.underlying5
  a5 := Tryz.isAgg5
  z5 := Tryz.sizeOf5
  v5 := Tryz.zeroValue5
  infoByte := by kernel_rfl
  cellsByte := by kernel_rfl
  sizeByte := by kernel_rfl
  neB5 := by decide }
open Go.RowKit in
theorem Tryz.strings_Join_none (a : Option Addr) (c : Nat) (sep : ByteArray) (w : World) :
    Calls Tryz.prog 45 #[.slice a 0 c, .string sep] w fun e w' => e = .returned (.string ⟨#[]⟩) ∧ w' = w := Any.strings_Join_none Tryz.lays156 Tryz.Builder_Extra_156 a c sep w
open Go.RowKit in
theorem Tryz.strings_Join (bk o c : Nat) (xs : List ByteArray) (sep : ByteArray) (w : World) (hcells : ∀ (j : Nat) x, xs[j]? = some x → w.cell? ⟨bk, o + j, none⟩ = some (.string x)) (hbk : bk < w.heap.size) (hN : xs.length ≤ 140737488355328) (hcap : xs.length ≤ c) (hlen : (Lib.join (xs.map (·.data.toList)) sep.data.toList).length ≤ 140737488355328) :
    Calls Tryz.prog 45 #[.slice (some ⟨bk, o, none⟩) xs.length c, .string sep] w fun e w' => e = .returned (.string ⟨(Lib.join (xs.map (·.data.toList)) sep.data.toList).toArray⟩) ∧ Below w.heap.size w w' := Any.strings_Join Tryz.lays156 Tryz.Builder_Extra_156 bk o c xs sep w hcells hbk hN hcap hlen
def Tryz.lays103_ren : Go.Shelf.Ren := ⟨fun | 103 => 122 | 210 => 139 | 206 => 149 | n => n, fun | 9 => 9 | 4 => 4 | 24 => 117 | 3 => 3 | n => n, fun | n => n⟩
theorem Tryz.lays103 : Go.Proofs.Lays.n103 Tryz.prog Tryz.lays103_ren := {
  mixed := by kernel_rfl
  f103 := Tryz.func122.trans (congrArg some (by kernel_rfl))
  f206 := Tryz.func149.trans (congrArg some (by kernel_rfl))
  f210 := Tryz.func139.trans (congrArg some (by kernel_rfl))
  t3 := Tryz.underlying3
  a3 := Tryz.isAgg3
  z3 := Tryz.sizeOf3
  v3 := Tryz.zeroValue3
  t4 := Tryz.underlying4
  a4 := Tryz.isAgg4
  z4 := Tryz.sizeOf4
  v4 := Tryz.zeroValue4
  t9 := Tryz.underlying9
  a9 := Tryz.isAgg9
  z9 := Tryz.sizeOf9
  v9 := Tryz.zeroValue9
  t24 := Tryz.underlying117
  a24 := Tryz.isAgg117
  z24 := Tryz.sizeOf117
  v24 := Tryz.zeroValue117 }
open Go.RowKit in
theorem Tryz.strings_CutPrefix (s p : ByteArray) (w : World) :
    Calls Tryz.prog 122 #[.string s, .string p] w fun e w' => e = .returned (.tuple #[.string ⟨(Lib.trimPrefix s.data.toList p.data.toList).toArray⟩, .bool (Lib.hasPrefix s.data.toList p.data.toList)]) ∧ w' = w := Any.strings_CutPrefix Tryz.lays103 s p w
def Tryz.lays219_ren : Go.Shelf.Ren := ⟨fun | 219 => 138 | 217 => 145 | 225 => 146 | 224 => 147 | 267 => 148 | 266 => 152 | 314 => 153 | n => n, fun | 9 => 9 | 3 => 3 | 4 => 4 | 5 => 5 | 46 => 153 | 146 => 160 | 51 => 159 | n => n, fun | 1 => 0 | n => n⟩
theorem Tryz.lays219 : Go.Proofs.Lays.n219 Tryz.prog Tryz.lays219_ren := {
  mixed := by kernel_rfl
  f217 := Tryz.func145.trans (congrArg some (by kernel_rfl))
  f219 := Tryz.func138.trans (congrArg some (by kernel_rfl))
  f224 := Tryz.func147.trans (congrArg some (by kernel_rfl))
  f225 := Tryz.func146.trans (congrArg some (by kernel_rfl))
  f266 := Tryz.func152.trans (congrArg some (by kernel_rfl))
  f267 := Tryz.func148.trans (congrArg some (by kernel_rfl))
  f314 := Tryz.func153.trans (congrArg some (by kernel_rfl))
  t3 := Tryz.underlying3
  a3 := Tryz.isAgg3
  z3 := Tryz.sizeOf3
  v3 := Tryz.zeroValue3
  t4 := Tryz.underlying4
  a4 := Tryz.isAgg4
  z4 := Tryz.sizeOf4
  v4 := Tryz.zeroValue4
  t5 := Tryz.underlying5
  a5 := Tryz.isAgg5
  z5 := Tryz.sizeOf5
  v5 := Tryz.zeroValue5
  t9 := Tryz.underlying9
  a9 := Tryz.isAgg9
  z9 := Tryz.sizeOf9
  v9 := Tryz.zeroValue9
  t46 := Tryz.underlying153
  a46 := Tryz.isAgg153
  z46 := Tryz.sizeOf153
  v46 := Tryz.zeroValue153
  t51 := Tryz.underlying159
  a51 := Tryz.isAgg159
  z51 := Tryz.sizeOf159
  v51 := Tryz.zeroValue159
  t146 := Tryz.underlying160
  a146 := Tryz.isAgg160
  z146 := Tryz.sizeOf160
  v146 := Tryz.zeroValue160
  g1 := by kernel_rfl }
open Go.RowKit Go.Lib in
theorem Tryz.stringslite_Index_one (s : ByteArray) (c : UInt8) (w : World) :
    Calls Tryz.prog 138 #[.string s, .string ⟨#[c]⟩] w fun e w' => e = .returned (.int .i64 (Lib.indexByte s.data.toList c)) ∧ w' = w := Any.stringslite_Index_one Tryz.lays219 s c w
end Go.Proofs
end
section
set_option linter.unusedVariables false
set_option linter.unusedSimpArgs false
namespace Go.Proofs.YtaahialaegfjgaaGreatDoor.Vh
open Go.Vm Go.Vt
attribute [local congr] QF QI QE QG QD QJ
variable {L : QL} {h : Heap}
def pos (c : UInt8) (s : Bs) : Nat := (s.takeWhile (· != c)).length
theorem Qsq (c : UInt8) (s : Bs) : pos c s ≤ s.length := by
  unfold pos; exact (List.takeWhile_sublist _).length_le
theorem Qjp (c x : UInt8) (r : Bs) : pos c (x :: r) = if x = c then 0 else pos c r + 1 := by
  unfold pos
  rw [List.takeWhile_cons]
  by_cases h : x = c <;> simp [h]
theorem Qsz {c : UInt8} : ∀ {s : Bs} {i : Nat}, i < s.length → (∀ j, j < i → s.getD j 0 ≠ c) → s.getD i 0 = c → pos c s = i
  | x :: r, 0, _, _, h => by rw [Qjp, if_pos (by simpa using h)]
  | x :: r, i + 1, hi, hj, h => by
    rw [Qjp, if_neg (by simpa using hj 0 (by omega)), Qsz (by simpa using hi) (fun j hlt => by simpa using hj (j + 1) (by omega)) (by simpa using h)]
  | [], _, hi, _, _ => by simp at hi
theorem Qr0 {c : UInt8} : ∀ {s : Bs}, (∀ j, j < s.length → s.getD j 0 ≠ c) → pos c s = s.length
  | [], _ => rfl
  | x :: r, hj => by
    rw [Qjp, if_neg (by simpa using hj 0 (by simp)), Qr0 fun j hlt => by simpa using hj (j + 1) (by simpa using hlt)]; rfl
theorem Qxf (c : UInt8) (s : Bs) : Go.Lib.indexByte s c = if pos c s < s.length then (pos c s : Int) else -1 := by
  induction s with
  | nil => rfl
  | cons x r ih =>
    rw [Go.Lib.indexByte, ih, Qjp]
    have hl := Qsq c r
    by_cases h : x = c
    · subst h; simp
    · have hb : (x == c) = false := by simpa using h
      have hb' : ¬ ((x == c) = true) := by rw [hb]; simp
      rw [if_neg hb', if_neg h]
      have e1 : (pos c r + 1 < (x :: r).length) = (pos c r < r.length) := by rw [List.length_cons]; exact propext ⟨fun h => by omega, fun h => by omega⟩
      simp only [e1]
      by_cases h2 : pos c r < r.length
      · have h3 : ¬ (((pos c r : Int) == -1) = true) := by rw [beq_iff_eq]; omega
        simp only [if_pos h2, if_neg h3]; omega
      · simp only [if_neg h2]; rfl
def QgX (c : UInt8) (s : Bs) : V := .tup [.str (s.take (pos c s)), .str (s.drop (pos c s + 1)), .bool (decide (pos c s < s.length))]
def QaZ (L : QL) : Prop := ∀ {s : Bs} {c : UInt8} {h : Heap}, Cf F L Qpl [.str s, .str [c]] h (Pu h (.int .i64 (Go.Lib.indexByte s c)))
theorem QEp {s : Bs} {c : UInt8} (HI : QaZ L) (hs : s.length < 9223372036854775807) : Cf F L QfG [.str s, .str [c]] h (Pu h (QgX c s)) := by
  refine QEI ?_
  simp only [Qqr]
  simp (maxSteps := 4000000) only [vm, vl, Arg.get, Qi, Qa, Qc, Qkc]
  refine Cf.pu HI fun t => ?_
  rw [Qxf]
  have hl := Qsq c s
  by_cases hp : pos c s < s.length
  · rw [if_pos hp]
    have g1 : (pos c s : Int) ≥ 0 := by omega
    have w : IntKind.i64.wrap ((pos c s : Int) + 1) = ((pos c s + 1 : Nat) : Int) := by rw [Qe (by omega) (by omega)]; omega
    have g2 : pos c s ≤ s.length := hl
    have g3 : pos c s + 1 ≤ s.length := hp
    have g4 : List.take s.length s = s := List.take_of_length_le (Nat.le_refl _)
    have g5 : decide (pos c s < s.length) = true := by simpa using hp
    unfold QgX
    rw [g5]
    generalize pos c s = k at *
    have z : (0 : Int) ≤ k := by omega
    simp only [List.length_cons, List.length_nil, Nat.zero_add] at *
    simp (maxSteps := 4000000) only [vm, vl, reduceIte, Nat.zero_le, Qkc, g1, w, g2, g3, g4, z, Int.toNat_natCast]
  · rw [if_neg hp]
    have e : pos c s = s.length := by omega
    have g5 : decide (pos c s < s.length) = false := by simpa using hp
    unfold QgX
    rw [g5, e, List.take_of_length_le (Nat.le_refl _), List.drop_eq_nil_of_le (by omega)]
    simp (maxSteps := 4000000) only [vm, vl, reduceIte, Int.reduceLE, Int.reduceNeg, Int.reduceToNat, Int.reduceGE, Qkc]
theorem QAW {s : Bs} {c : UInt8} (HI : QaZ L) (hs : s.length < 9223372036854775807) : Cf F L Qf2 [.str s, .str [c]] h (Pu h (QgX c s)) := by
  refine QDX ?_
  simp only [QnJ]
  simp (maxSteps := 4000000) only [vm, vl, Arg.get, Qa, Qc]
  refine Cf.pu (QEp HI hs) fun t => ?_
  unfold QgX
  simp (maxSteps := 4000000) only [vm, vl]
def LIndex : FuncId → List V → V → Prop := fun f args v => f = Qpl ∧ ∃ (s : Bs) (c : UInt8), args = [.str s, .str [c]] ∧ v = .int .i64 (Go.Lib.indexByte s c)
theorem QAp (w0 : World) : QhF Tryz.prog w0 LIndex := by
  rintro f args v ⟨rfl, s, c, rfl, rfl⟩
  refine ⟨by kernel_rfl, QqJ fun B G h w vs hr hb hv => ?_⟩
  obtain ⟨a, b, rfl, ha, hs⟩ := QsW hv
  cases hs; cases ha
  refine (Tryz.stringslite_Index_one ⟨s.toArray⟩ c w).mono fun e w' ⟨h1, h2⟩ => ?_
  subst h2
  exact ⟨_, h1, .int .i64 _, Go.RowKit.Below.refl ..⟩
theorem QH8 {L : QL} (hL : ∀ f a v, LIndex f a v → L f a v) : QaZ L :=
  wlib (hL _ _ _ ⟨rfl, _, _, rfl, rfl⟩) ⟨rfl, [], by simp⟩
end Go.Proofs.YtaahialaegfjgaaGreatDoor.Vh
end
section
set_option linter.unusedVariables false
set_option linter.unusedSimpArgs false
namespace Go.Proofs.YtaahialaegfjgaaGreatDoor.Uq
open Go.RowKit
abbrev tB : TypeId := 103
abbrev tU : TypeId := 5
theorem Qut : (Tryz.prog.info? tB).map (·.size) = some 2 := by kernel_rfl
theorem QJI : liesAt Tryz.prog Tryz.prog.depth tB (2 / Tryz.prog.cellsOf tB) 0 tB 1 = true := by kernel_rfl
theorem Qzf : (Tryz.prog.info? tU).map (fun i => (i.zero, i.size, i.bytes)) = some (some (.int .u8 0), 1, 1) := by kernel_rfl
theorem QBf : tB ≠ tU := by decide
theorem uP : Tryz.prog.underlying 101 = some (.pointer tB) := by kernel_rfl
theorem Qvm : Tryz.prog.underlying 142 = some .unsafePointer := by kernel_rfl
theorem uSl : Tryz.prog.underlying 64 = some (.slice tU) := by kernel_rfl
set_option maxHeartbeats 1000000 in
set_option maxRecDepth 100000 in
theorem QJa (b : Nat) (w : World) (h0 : w.cell? ⟨b, 0, none⟩ = some (.pointer (some ⟨b, 0, none⟩))) :
    Calls Tryz.prog 108 #[.pointer (some ⟨b, 0, none⟩)] w fun e w' => e = .returned (.tuple #[]) ∧ w' = w := by
  obtain ⟨j, hj, _⟩ := Option.map_eq_some_iff.1 Qut
  go_enter Tryz.func108, Tryz.ntmps108
  go_wp2
  rw [Lib.run_neq_ptr_same w _ uP hj]
  go_wp2
  go_end0
  exact ⟨rfl, rfl⟩
set_option maxHeartbeats 1000000 in
set_option maxRecDepth 100000 in
theorem QC9 (b : Nat) (w : World) (h0 : w.cell? ⟨b, 0, none⟩ = some (.pointer none)) (hsh : w.shape? b = some (tB, 2)) (hfz : w.frozen? ⟨b, 0, none⟩ = false) :
    Calls Tryz.prog 108 #[.pointer (some ⟨b, 0, none⟩)] w fun e w' => e = .returned (.tuple #[]) ∧ w' = w.setCell ⟨b, 0, none⟩ (.pointer (some ⟨b, 0, none⟩)) := by
  obtain ⟨j, hj, hjs⟩ := Option.map_eq_some_iff.1 Qut
  go_enter Tryz.func108, Tryz.ntmps108
  go_wp2
  rw [Lib.run_to_unsafe w ⟨b, 0, none⟩ uP Qvm hj (by rw [hjs]; decide) hsh (Nat.zero_lt_succ 1)]
  simp only [Result.andThen]
  rw [Oper.upon_value]
  go_wp2
  rw [run_callFunc_extern Tryz.func129 (by kernel_rfl) (by kernel_rfl) (by kernel_rfl) (e := Extern.AbiNoEscape.same) (by kernel_rfl)]
  rw [Lib.run_noEscape]
  simp only [Result.andThen]
  rw [Oper.upon_value]
  go_wp2
  rw [Lib.run_from_unsafe w ⟨b, 0, none⟩ Qvm uP hj hsh QJI]
  simp only [Result.andThen]
  rw [Oper.upon_value]
  go_wp2
  go_end0
  exact ⟨rfl, rfl⟩
theorem QGH (B b : Nat) (bs : List Value) (w : World) (h : Lib.IsBuilder tB tU B b bs w) :
    Calls Tryz.prog 108 #[.pointer (some ⟨b, 0, none⟩)] w fun e w' => e = .returned (.tuple #[]) ∧ (Lib.BuilderAt tB tU B b (.pointer (some ⟨b, 0, none⟩)) bs w' ∧ Below B w w') := by
  rcases h with h | h
  · exact (QC9 b w h.cell0 h.shape h.frozen0).mono fun e w' ⟨h1, h2⟩ => ⟨h1, by subst h2; exact ⟨h.used _, (Below.refl B w).setCell (p := ⟨b, 0, none⟩) h.1 _⟩⟩
  · exact (QJa b w h.cell0).mono fun e w' ⟨h1, h2⟩ => ⟨h1, by subst h2; exact ⟨h, Below.refl B _⟩⟩
set_option maxHeartbeats 2000000 in
set_option maxRecDepth 100000 in
theorem QuL (B b : Nat) (bs : List Value) (c : Int) (w : World) (h : Lib.IsBuilder tB tU B b bs w) (hlen : bs.length + 1 ≤ 140737488355328) (hBw : B ≤ w.heap.size) :
    Calls Tryz.prog 124 #[.pointer (some ⟨b, 0, none⟩), .int .u8 c] w fun e w' => e = .returned .nilIface ∧ (Lib.BuilderAt tB tU B b (.pointer (some ⟨b, 0, none⟩)) (bs ++ [.int .u8 c]) w' ∧ Below B w w') := by
  obtain ⟨i0, hi, hz0, hz1, hz2⟩ := info_parts Qzf
  go_enter Tryz.func124, Tryz.ntmps124
  go_wp2_with (go_at_call 108; refine (QGH B b bs _ h).mono ?_)
  rintro e w1 ⟨rfl, h1, hb1⟩
  obtain ⟨hB, v, hbk, hown, hne⟩ := h1
  have c0 : w1.cell? ⟨b, 0, none⟩ = some (.pointer (some ⟨b, 0, none⟩)) := by rw [Lib.cell_of_heap hbk]; rfl
  have c1 : w1.cell? ⟨b, 1, none⟩ = some v := by rw [Lib.cell_of_heap hbk]; rfl
  have s1 := hb1.size
  go_wp2_with (at_builtin; refine wpList_append_own _ rfl _ _ 64 rfl B tU i0 (.int .u8 0) 1 1 uSl hi hz0 hz1 hz2 rfl (by decide) _ _ _ rfl (hown.alloc _) ⟨w1.heap.size, 0, none⟩ 1 1 [.int .u8 c] rfl rfl ?p1 ?p2 ?p3 ?p4 ?p5 ?_)
  case p1 =>
    intro j u hj
    match j, hj with
    | 0, hj => simp at hj; subst hj; simp [Addr.add]
  case p2 => intro u hu; simp at hu; subst hu; rfl
  case p3 => unfold maxLen; omega
  case p4 => omega
  case p5 => simp; omega
  intro v' w2 hown' hgrow _
  have hlt : b < w1.heap.size := Lib.BuilderAt.lt ⟨hB, v, hbk, hown, hne⟩
  have hb2 : w2.heap[b]? = some (.cells #[.pointer (some ⟨b, 0, none⟩), v] tB (0, 0)) := by
    rw [hgrow.block b (by simp; omega) (fun e => hne e.symm), Lib.alloc_old w1 _ b hlt]
    exact hbk
  have d0 : w2.cell? ⟨b, 0, none⟩ = some (.pointer (some ⟨b, 0, none⟩)) := by rw [Lib.cell_of_heap hb2]; rfl
  have d1 : w2.cell? ⟨b, 1, none⟩ = some v := by rw [Lib.cell_of_heap hb2]; rfl
  have f1 : w2.frozen? ⟨b, 1, none⟩ = false := Lib.frozen_of_heap hb2 1
  obtain ⟨g, cap, rfl⟩ : ∃ g cap, v' = .slice (some ⟨g, 0, none⟩) (bs.length + 1) cap := by
    rcases hown'.2 with ⟨_, h0⟩ | ⟨g, cap, cur, hv, _⟩
    · omega
    · exact ⟨g, cap, hv⟩
  go_wp2
  go_ret
  exact ⟨rfl, Lib.BuilderAt.put hB hb2 (bs' := bs ++ [.int .u8 c]) (by simpa using hown') QBf,
    ((hb1.alloc (by omega) _).grown hgrow (by simp; omega) (fun k hk => (hown.lt k hk).1)).setCell (p := ⟨b, 1, none⟩) hB _⟩
end Go.Proofs.YtaahialaegfjgaaGreatDoor.Uq
end
section
set_option linter.unusedVariables false
set_option linter.unusedSimpArgs false
namespace Go.Proofs.YtaahialaegfjgaaGreatDoor.Uq
open Go.RowKit
def inQ (c : Int) : Bool := (c == 9) || (decide (32 ≤ c) && !decide (c = 127))
set_option maxHeartbeats 400000 in
theorem QtZ (c : Int) (w : World) :
    Calls Tryz.prog 123 #[.int .u8 c] w fun e w' => e = .returned (.bool (inQ c)) ∧ w' = w := by
  go_enter Tryz.func123, Tryz.ntmps123
  unfold inQ
  by_cases k0 : c = 9
  · subst k0; go_wp2; go_ret; exact ⟨rfl, rfl⟩
  · by_cases k1 : c ≥ 32
    · by_cases k2 : c = 127
      · subst k2; go_wp2; go_ret; exact ⟨rfl, rfl⟩
      · go_wp2; go_ret; exact ⟨by simp [k0, k1, k2], rfl⟩
    · go_wp2; go_ret; refine ⟨?_, rfl⟩; simp [k0]; omega
def unqG : List UInt8 → List UInt8 → List UInt8 × Bool
  | [], _ => ([], false)
  | c :: r, bs => if c = 34 then (bs, r.isEmpty) else if c = 92 then (match r with
      | [] => ([], false)
      | d :: r' => if inQ (d.toNat : Int) then unqG r' (bs ++ [d]) else ([], false))
    else if inQ (c.toNat : Int) then unqG r (bs ++ [c]) else ([], false)
theorem QrQ {c : UInt8} {n : Nat} (hn : n < 256) (h : (c.toNat : Int) = n) : c = UInt8.ofNat n := by
  refine UInt8.toNat_inj.1 ?_
  rw [UInt8.toNat_ofNat_of_lt' hn]; omega
theorem QyS {c : UInt8} {r bs : List UInt8} (h1 : ¬ (c.toNat : Int) = 34) (h2 : ¬ (c.toNat : Int) = 92) : unqG (c :: r) bs = if inQ (c.toNat : Int) then unqG r (bs ++ [c]) else ([], false) := by
  rw [unqG.eq_def]
  simp only
  rw [if_neg (by rintro rfl; exact h1 rfl), if_neg (by rintro rfl; exact h2 rfl)]
theorem QzG {c : UInt8} {bs : List UInt8} (h2 : (c.toNat : Int) = 92) : unqG [c] bs = ([], false) := by
  have : c = 92 := QrQ (n := 92) (by decide) h2
  subst this; rfl
theorem QwO {c d : UInt8} {r bs : List UInt8} (h2 : (c.toNat : Int) = 92) : unqG (c :: d :: r) bs = if inQ (d.toNat : Int) then unqG r (bs ++ [d]) else ([], false) := by
  have : c = 92 := QrQ (n := 92) (by decide) h2
  subst this; rw [unqG.eq_def]; rfl
def unqS (l : List UInt8) : List UInt8 × Bool := if Lib.hasPrefix l [34] then unqG (Lib.trimPrefix l [34]) [] else ([], false)
def Qs3 (t : ByteArray) (R : List UInt8 × Bool) (b : Nat) (w : World) (v5 v7 : Value) (w' : World) : Prop :=
  ∃ (k : Nat) (ok : Bool) (bs : List UInt8), k ≤ t.size ∧ v5 = .bool ok ∧ v7 = .int .i64 k ∧ Lib.IsBuilder tB tU b b (Lib.byteCells bs) w' ∧ Below b w w' ∧ bs.length ≤ k ∧
    (ok = true → unqG (t.data.toList.drop k) bs = R) ∧ (ok = false → R = ([], false))
theorem QEf (bs : List UInt8) (c : UInt8) : Lib.byteCells (bs ++ [c]) = Lib.byteCells bs ++ [.int .u8 c.toNat] := by simp [Lib.byteCells]
theorem Qr7 {t : ByteArray} {R : List UInt8 × Bool} {b k : Nat} {w w1 w2 : World} {bs : List UInt8} {c : UInt8} (hk : k ≤ t.size) (hbl : Below b w w1) (hb2 : Below b w1 w2) (hlen : bs.length + 1 ≤ k) (h2 : Lib.BuilderAt tB tU b b (.pointer (some ⟨b, 0, none⟩)) (Lib.byteCells bs ++ [.int .u8 c.toNat]) w2)
    (h1 : (if inQ (c.toNat : Int) then unqG (t.data.toList.drop k) (bs ++ [c]) else ([], false)) = R) : Qs3 t R b w (.bool (inQ (c.toNat : Int))) (.int .i64 k) w2 :=
  ⟨k, _, bs ++ [c], hk, rfl, rfl, .inr (by rw [QEf]; exact h2), hbl.trans hb2, by simpa using hlen, fun h => by rw [if_pos h] at h1; exact h1, fun h => by rw [if_neg (by simp [h])] at h1; exact h1.symm⟩
set_option maxHeartbeats 1000000 in
set_option maxRecDepth 100000 in
theorem unq_calls (s : ByteArray) (w : World) (hs : s.size ≤ 140737488351232) (R : List UInt8 × Bool) (hR : unqS s.data.toList = R) :
    Calls Tryz.prog 100 #[.string s] w fun e w' => e = .returned (.tuple #[.string ⟨R.1.toArray⟩, .bool R.2]) ∧ Below w.heap.size w w' := by
  have hsz : (Lib.trimPrefix s.data.toList [34]).length ≤ 140737488351232 := by
    have : (Lib.trimPrefix s.data.toList [34]).length ≤ s.data.toList.length := by
      unfold Lib.trimPrefix
      split
      · rw [List.length_drop]; omega
      · exact Nat.le_refl _
    have h2 : s.data.toList.length = s.size := by simp
    omega
  unfold unqS at hR
  have HR := Lib.hid hR
  clear hR
  go_enter Tryz.func100, Tryz.ntmps100
  go_wp2_with (go_at_call 122; refine (Tryz.strings_CutPrefix _ _ _).mono ?_)
  generalize Lib.hasPrefix s.data.toList [34] = ok0 at *
  generalize Lib.trimPrefix s.data.toList [34] = l0 at *
  generalize ht : ByteArray.mk l0.toArray = t at *
  have hl : l0 = t.data.toList := by rw [← ht]
  subst hl
  have hn : t.data.toList.length = t.size := by simp
  have hn' : t.size ≤ 140737488351232 := by omega
  have hB := Lib.hid (Lib.fresh_isBuilder tB tU w)
  have hb0 := Lib.hid ((Below.refl w.heap.size w).alloc (Nat.le_refl _) (Obj.cells #[Value.pointer none, Value.slice none 0 0] tB))
  generalize hb : w.heap.size = b at *
  go_loopw [5, 7, 8] (fun v5 v7 _ w' => Qs3 t R b w v5 v7 w') (fun _ i _ _ => t.size - (intOf i).toNat)
  case atStart => exact ⟨0, ok0, [], Nat.zero_le _, rfl, rfl, hB.out, hb0.out, Nat.le_refl _, fun h => by rw [← HR.out, if_pos h]; rfl, fun h => by rw [← HR.out, if_neg (by simp [h])]⟩
  case round =>
    obtain ⟨k, ok, bs, hk, rfl, rfl, hI, hbl, hlen, h1, h2⟩ := hrel
    have HI := Lib.hid hI; have HL := Lib.hid hbl
    clear hI hbl HR
    cases ok with
    | false =>
      have := h2 rfl
      subst this
      clear h1 h2
      go_wp2
      go_ret2
      exact ⟨rfl, HL.out⟩
    | true =>
      replace h1 := h1 rfl
      clear h2
      by_cases hlt : k < t.size
      case neg =>
        have hke : k = t.size := by omega
        rw [List.drop_of_length_le (by omega)] at h1
        subst h1
        go_wp2
        go_ret2
        exact ⟨rfl, HL.out⟩
      have hlt' : k < t.data.toList.length := by omega
      have hd : t.data.toList.drop k = (t[k]'hlt) :: t.data.toList.drop (k + 1) := List.drop_eq_getElem_cons hlt'
      rw [hd] at h1
      have hbw : b ≤ wr.heap.size := by have := HL.out.size; omega
      have H1 := Lib.hid h1
      clear h1 hd ht
      have hcn := (t[k]'hlt).toNat_lt
      by_cases c34 : ((t[k]'hlt).toNat : Int) = 34
      · have hc8 : t[k]'hlt = 34 := UInt8.toNat_inj.1 (by have : (34 : UInt8).toNat = 34 := rfl; omega)
        have h1 := H1.out
        unfold unqG at h1
        rw [if_pos hc8] at h1
        have HR1 := Lib.hid h1
        clear h1 hc8 H1
        go_wp2_with (go_at_call 71; refine (Tryz.Builder_String_any b b bs _ HI.out hbw).mono ?_)
        rintro e w' ⟨rfl, hb2⟩
        go_wp2
        go_ret2
        rw [← HR1.out]
        refine ⟨?_, hb ▸ HL.out.trans hb2⟩
        show Ending.returned (.tuple #[.string ⟨bs.toArray⟩, .bool ((k : Int) == (t.size : Int) - 1)]) = _
        have e1 : ((k : Int) == (t.size : Int) - 1) = (List.drop (k + 1) t.data.toList).isEmpty := by
          rw [Bool.eq_iff_iff, beq_iff_eq, List.isEmpty_iff, List.drop_eq_nil_iff]
          omega
        rw [e1]
      · by_cases c92 : ((t[k]'hlt).toNat : Int) = 92
        · by_cases hlt2 : k + 1 < t.size
          case neg =>
            have hke : k + 1 = t.size := by omega
            have hki : (k : Int) + 1 = (t.size : Int) := by omega
            have h1 := H1.out
            rw [List.drop_of_length_le (by omega), QzG c92] at h1
            subst h1
            clear H1
            go_wp2
            go_ret2
            exact ⟨rfl, hb ▸ HL.out⟩
          have hki : ¬ (k : Int) + 1 = (t.size : Int) := by omega
          have hlt2' : k + 1 < t.data.toList.length := by omega
          have hd : t.data.toList.drop (k + 1) = (t[k + 1]'hlt2) :: t.data.toList.drop (k + 2) := List.drop_eq_getElem_cons hlt2'
          have h1 := H1.out
          rw [hd, QwO c92] at h1
          have H3 := Lib.hid h1
          clear h1 hd H1
          have hI1 := Lib.hid (QtZ ((t[k + 1]'hlt2).toNat : Int) wr)
          have hW := Lib.hid (QuL b b _ ((t[k + 1]'hlt2).toNat : Int) wr HI.out (by rw [Lib.byteCells_length]; omega) hbw)
          go_wp2_with (go_at_call 123; refine hI1.out.mono ?_)
          rintro e w' ⟨rfl, rfl⟩
          go_wp2_with (go_at_call 124; refine hW.out.mono ?_)
          rintro e w2 ⟨rfl, h2, hb2⟩
          go_wp2
          go_roundw
          case rel =>
            have h1 := H3.out
            have := Qr7 (k := k + 2) hlt2 HL.out hb2 (by omega) h2 h1
            have e2 : ((k + 2 : Nat) : Int) = (k : Int) + 1 + 1 := by omega
            rwa [e2] at this
          case measure => simp [intOf]; omega
        · have hI1 := Lib.hid (QtZ ((t[k]'hlt).toNat : Int) wr)
          have hW := Lib.hid (QuL b b _ ((t[k]'hlt).toNat : Int) wr HI.out (by rw [Lib.byteCells_length]; omega) hbw)
          go_wp2_with (go_at_call 123; refine hI1.out.mono ?_)
          rintro e w' ⟨rfl, rfl⟩
          go_wp2_with (go_at_call 124; refine hW.out.mono ?_)
          rintro e w2 ⟨rfl, h2, hb2⟩
          go_wp2
          go_roundw
          case rel =>
            have h1 := H1.out
            rw [QyS c34 c92] at h1
            have := Qr7 (k := k + 1) hlt HL.out hb2 (by omega) h2 h1
            rwa [Int.natCast_add] at this
          case measure => simp [intOf]; omega
end Go.Proofs.YtaahialaegfjgaaGreatDoor.Uq
end
section
set_option linter.unusedVariables false
set_option linter.unusedSimpArgs false
namespace Go.Proofs.YtaahialaegfjgaaGreatDoor.Vh
open Go.Vm Go.Vt
attribute [local congr] QF QI QE QG QD QJ
variable {L : QL} {h : Heap}
def Qiu (p : Bs × Bool) : V := .tup [.str p.1, .bool p.2]
def LUnq : FuncId → List V → V → Prop := fun f args v => f = QkG ∧ ∃ s : Bs, s.length ≤ 140737488351232 ∧ args = [.str s] ∧ v = Qiu (Uq.unqS s)
theorem Qzz (w0 : World) : QhF Tryz.prog w0 LUnq := by
  rintro f args v ⟨rfl, s, hs, rfl, rfl⟩
  refine ⟨by kernel_rfl, QqJ fun B G h w vs hr hb hv => ?_⟩
  obtain ⟨a, rfl, ha⟩ := QHD hv
  cases ha
  refine (Uq.unq_calls ⟨s.toArray⟩ w (by show s.toArray.size ≤ _; simpa using hs) _ rfl).mono fun e w' ⟨h1, h2⟩ => ⟨_, h1, ?_, h2⟩
  refine .tup (vs := [.string ⟨(Uq.unqS s).1.toArray⟩, .bool (Uq.unqS s).2]) rfl fun k x v hx hv => ?_
  match k, hx, hv with
  | 0, hx, hv => cases hx; cases hv; exact .str _
  | 1, hx, hv => cases hx; cases hv; exact .bool _
def Qa1 (L : QL) : Prop := ∀ {s : Bs} {h : Heap}, s.length ≤ 140737488351232 → Cf F L QkG [.str s] h (Pu h (Qiu (Uq.unqS s)))
theorem QA9 {L : QL} (hL : ∀ f a v, LUnq f a v → L f a v) : Qa1 L :=
  fun hs => wlib (hL _ _ _ ⟨rfl, _, hs, rfl, rfl⟩) ⟨rfl, [], by simp⟩
/-! What unquote tells. -/
def Qaw : Bs → Bs → Bs × Bool
  | [], _ => ([], false)
  | c :: r, bs => if c = 34 then (bs, r.isEmpty) else if c = 92 then (match r with
      | [] => ([], false)
      | d :: r' => if Qch d then Qaw r' (bs ++ [d]) else ([], false))
    else if Qch c then Qaw r (bs ++ [c]) else ([], false)
def QbK (s : Bs) : Bs × Bool := if s.head? = some 34 then Qaw (s.drop 1) [] else ([], false)
theorem Qrr (c : UInt8) : Uq.inQ (c.toNat : Int) = Qch c := Qa2 (p := fun c => Uq.inQ (c.toNat : Int) = Qch c) (by decide +kernel) c
theorem QnG : ∀ (n : Nat) (s bs : Bs), s.length ≤ n → Uq.unqG s bs = Qaw s bs
  | _, [], bs, _ => by rw [Uq.unqG.eq_def, Qaw.eq_def]
  | 0, c :: r, bs, h => by simp at h
  | n + 1, c :: r, bs, h => by
    simp at h
    rw [Uq.unqG.eq_def, Qaw.eq_def]
    simp only
    split
    · rfl
    · split
      · cases r with
        | nil => rfl
        | cons d r' => simp only [Qrr]; simp at h; rw [QnG n r' _ (by omega)]
      · rw [Qrr, QnG n r _ h]
theorem QJv (s : Bs) : Uq.unqS s = QbK s := by
  unfold Uq.unqS QbK
  cases s with
  | nil => rfl
  | cons c r =>
    by_cases hc : c = 34
    · subst hc
      rw [if_pos (by simp [Lib.hasPrefix])]
      show _ = Qaw r []
      rw [← QnG _ _ _ (Nat.le_refl _)]
      congr 1
    · rw [if_neg (by simp [Lib.hasPrefix]; exact fun h => hc h.symm), if_neg (by simp [hc])]
theorem Qwm (HU : Qa1 L) {s : Bs} (hs : s.length ≤ 140737488351232) : Cf F L QkG [.str s] h (Pu h (Qiu (QbK s))) := by
  rw [← QJv]; exact HU hs
theorem q34 {c : UInt8} : decide ((c.toNat : Int) = 34) = decide (c = 34) := Qa2 (p := fun c => decide ((c.toNat : Int) = 34) = decide (c = 34)) (by decide +kernel) c
theorem q92 {c : UInt8} : decide ((c.toNat : Int) = 92) = decide (c = 92) := Qa2 (p := fun c => decide ((c.toNat : Int) = 92) = decide (c = 92)) (by decide +kernel) c
def RqP (h : Heap) (R : Bs × Bool) (v : V) (h' : Heap) : Prop := ∃ x, (v = .tup [.str x, .bool R.2] ∧ ∃ t, h' = h ++ t) ∧ (R.2 = true → x = R.1)
theorem QrK {bs : Bs} : Qaw [] bs = ([], false) := by rw [Qaw.eq_def]
theorem Qvq {r bs : Bs} : Qaw (34 :: r) bs = (bs, r.isEmpty) := by rw [Qaw.eq_def]; rfl
theorem QvU {bs : Bs} : Qaw [92] bs = ([], false) := by rw [Qaw.eq_def]; rfl
theorem QuM {d : UInt8} {r bs : Bs} : Qaw (92 :: d :: r) bs = if Qch d then Qaw r (bs ++ [d]) else ([], false) := by rw [Qaw.eq_def]; rfl
theorem QuH {c : UInt8} {r bs : Bs} (h1 : c ≠ 34) (h2 : c ≠ 92) : Qaw (c :: r) bs = if Qch c then Qaw r (bs ++ [c]) else ([], false) := by
  rw [Qaw.eq_def]; simp only; rw [if_neg h1, if_neg h2]
theorem QEt {S : Bs} {R : Bs × Bool} {e : Env} (hs : S.length < 1000000000) (h1 : 1 ≤ S.length) (hR : Qaw (S.drop 1) [] = R) (e0 : e 0 = .str S) (e4 : e 4 = .str []) (e5 : e 5 = .int .i64 1) :
    Wl F L Qqa (QkL L (RqP h R)) e h := by
  refine QBS (fun n e h' => ∃ (i : Nat) (bs : Bs), n = S.length - i ∧ i ≤ S.length ∧ 1 ≤ i ∧ bs.length ≤ i ∧ e 0 = .str S ∧ e 4 = .str bs ∧ e 5 = .int .i64 i ∧ Qaw (S.drop i) bs = R ∧ ∃ t, h' = h ++ t) ?_ (n := S.length - 1) ⟨1, [], rfl, h1, by omega, by simp, e0, e4, e5, hR, [], by simp⟩
  rintro n e h' ⟨i, bs, rfl, hi, hi1, hb, e0, e4, e5, hR, t, rfl⟩
  simp only [Qmn]
  
  have wn := Qe (x := (S.length : Int) - 1) (by omega) (by omega)
  rcases QbQ hi with ⟨hn, rfl, hd⟩ | ⟨c, hl, hl', hc, hd⟩
  · rw [hd, QrK] at hR
    subst hR
    have e1 : decide ((S.length : Int) = (S.length : Int) - 1) = false := by simp; omega
    simp (maxSteps := 4000000) only [vm, vl, Arg.get, Qi, Qa, Qc, reduceIte, reduceCtorEq, Nat.reduceEqDiff, Qbp, QbN, Qbx, Qbz, QbF, e0, e4, e5, hn, wn, e1]
    exact ⟨bs, ⟨rfl, t, rfl⟩, fun h => by cases h⟩
  · have w := Qe (x := (i : Int) + 1) (by omega) (by omega)
    have k34 := q34 (c := c)
    have k92 := q92 (c := c)
    by_cases c34 : c = 34
    · subst c34
      rw [hd, Qvq] at hR
      subst hR
      have e1 : decide ((i : Int) = (S.length : Int) - 1) = (S.drop (i + 1)).isEmpty := by
        rw [Bool.eq_iff_iff, decide_eq_true_iff, List.isEmpty_iff, List.drop_eq_nil_iff]; omega
      have k34' : ((UInt8.toNat 34 : Nat) : Int) = 34 := rfl
      simp (maxSteps := 4000000) only [vm, vl, Arg.get, Qi, Qa, Qc, reduceIte, reduceCtorEq, Nat.reduceEqDiff, Int.reduceEq, Qbp, QbN, Qbx, Qbz, QbF, e0, e4, e5, hl, hl', hc, k34', decide_true, Bool.not_true, wn, e1]
      exact ⟨bs, ⟨rfl, t, rfl⟩, fun _ => rfl⟩
    · have k34' : ¬ (c.toNat : Int) = 34 := by rw [← decide_eq_false_iff_not, k34]; simpa using c34
      by_cases c92 : c = 92
      · subst c92
        have k92' : ((UInt8.toNat 92 : Nat) : Int) = 92 := rfl
        rcases QbQ (s := S) (i := i + 1) hl' with ⟨hn, hie, hd2⟩ | ⟨d, hk, hk', hdv, hd2⟩
        · rw [hd, hd2, QvU] at hR
          subst hR
          have g1 : (i : Int) + 1 ≥ S.length := by omega
          simp (maxSteps := 4000000) only [vm, vl, Arg.get, Qi, Qa, Qc, reduceIte, reduceCtorEq, Nat.reduceEqDiff, Int.reduceEq, Qbp, QbN, Qbx, Qbz, QbF, e0, e4, e5, hl, hl', hc, k34', k92', decide_true, decide_false, Bool.not_true, Bool.not_false, w, g1]
          exact ⟨[], ⟨rfl, t, rfl⟩, fun h => by cases h⟩
        · rw [hd, hd2, QuM] at hR
          have g1 : ¬ (i : Int) + 1 ≥ S.length := by omega
          have w2 := Qe (x := (i : Int) + 1 + 1) (by omega) (by omega)
          have t1 : ((i : Int) + 1 + 1).toNat = i + 2 := by omega
          have t2 : 0 ≤ (i : Int) + 1 + 1 := by omega
          have k3 : i + 1 ≤ i + 2 := by omega
          have k4 : i + 2 ≤ S.length := by omega
          have ec2 : List.drop (i + 1) (List.take (i + 2) S) = [d] := by
            rw [show i + 2 = (i + 1) + 1 by rfl, Qea hk' hd2, List.drop_append]
            simp [Nat.min_eq_left (Nat.le_of_lt hk'), List.drop_eq_nil_of_le]
          have hadd : Qx .add (.str bs) (.str [d]) = some (.str (bs ++ [d])) := Qer (by simp; omega)
          simp (maxSteps := 4000000) only [vm, vl, Arg.get, Qi, Qa, Qc, reduceIte, reduceCtorEq, Nat.reduceEqDiff, Int.reduceEq, Qbp, QbN, Qbx, Qbz, QbF, e0, e4, e5, hl, hl', hc, k34', k92', decide_true, decide_false, Bool.not_true, Bool.not_false, w, g1]
          refine ⟨hk', ?_⟩
          rw [hdv]
          refine Cf.pu Qso fun u => ?_
          cases ht : Qch d with
          | false =>
            rw [ht] at hR
            subst hR
            simp (maxSteps := 4000000) only [vm, vl, reduceIte, Nat.reduceAdd, Qbp, QbN, Qbx, Qbz, QbF]
            exact ⟨[], ⟨rfl, _, rfl⟩, fun h => by cases h⟩
          | true =>
            rw [ht, if_pos rfl] at hR
            simp (maxSteps := 4000000) only [vm, vl, reduceIte, Qbp, QbN, Qbx, Qbz, QbF, w2, t1, t2, k3, k4, ec2, hadd]
            exact ⟨S.length - (i + 2), by omega, i + 2, bs ++ [d], rfl, by omega, by omega, by simp; omega, rfl, rfl, hR, _, rfl⟩
      · have k92' : ¬ (c.toNat : Int) = 92 := by rw [← decide_eq_false_iff_not, k92]; simpa using c92
        rw [hd, QuH c34 c92] at hR
        have g1 : ¬ (i : Int) ≥ S.length := by omega
        have k3 : i ≤ i + 1 := by omega
        have ec : List.drop i (List.take (i + 1) S) = [c] := by
          rw [Qea hl' hd, List.drop_append]
          simp [Nat.min_eq_left (Nat.le_of_lt hl'), List.drop_eq_nil_of_le]
        have hadd : Qx .add (.str bs) (.str [c]) = some (.str (bs ++ [c])) := Qer (by simp; omega)
        simp (maxSteps := 4000000) only [vm, vl, Arg.get, Qi, Qa, Qc, reduceIte, reduceCtorEq, Nat.reduceEqDiff, Qbp, QbN, Qbx, Qbz, QbF, e0, e4, e5, hl, hl', hc, k34', k92', decide_true, decide_false, Bool.not_true, Bool.not_false, w, g1]
        refine Cf.pu Qso fun u => ?_
        cases ht : Qch c with
        | false =>
          rw [ht] at hR
          subst hR
          simp (maxSteps := 4000000) only [vm, vl, reduceIte, Qbp, QbN, Qbx, Qbz, QbF]
          exact ⟨[], ⟨rfl, _, rfl⟩, fun h => by cases h⟩
        | true =>
          rw [ht, if_pos rfl] at hR
          simp (maxSteps := 4000000) only [vm, vl, Qbp, QbN, Qbx, Qbz, QbF, w, hl', k3, ec, hadd]
          exact ⟨hl', S.length - (i + 1), by omega, i + 1, bs ++ [c], rfl, hl', by omega, by simp; omega, rfl, rfl, hR, _, rfl⟩
theorem QDC {s : Bs} (hs : s.length < 1000000000) : Cf F L Qfp [.str s] h (RqP h (QbK s)) := by
  refine QJn ?_
  simp only [Qlh]
  rcases s with _ | ⟨a, r⟩
  · simp (maxSteps := 4000000) only [vm, vl, Arg.get, Qa, Qc, reduceIte, Int.reduceLT, Qbp, QbN, Qbx, Qbz, QbF]
    exact ⟨[], ⟨rfl, [], by simp⟩, fun h => by cases h⟩
  by_cases ha : a = 34
  case neg =>
    have e1 : QbK (a :: r) = ([], false) := by unfold QbK; rw [if_neg (by simp [ha])]
    rw [e1]
    have k34 := q34 (c := a)
    have k34' : ¬ (a.toNat : Int) = 34 := by rw [← decide_eq_false_iff_not, k34]; simpa using ha
    rcases r with _ | ⟨b, r⟩
    · have hl2 : (([a] : Bs).length : Int) < 2 := by simp
      simp (maxSteps := 4000000) only [vm, vl, Arg.get, Qa, Qc, reduceIte, Int.reduceLT, Qbp, QbN, Qbx, Qbz, QbF, hl2]
      exact ⟨[], ⟨rfl, [], by simp⟩, fun h => by cases h⟩
    · have hl2 : ¬ ((a :: b :: r : Bs).length : Int) < 2 := by simp; omega
      generalize hS : (a :: b :: r : Bs) = S at *
      have hS0 : S.getD 0 0 = a := by rw [← hS]; rfl
      have hS1 : (0 : Nat) < S.length := by rw [← hS]; simp
      simp (maxSteps := 4000000) only [vm, vl, Arg.get, Qa, Qc, reduceIte, Int.reduceLE, Int.reduceToNat, Qbp, QbN, Qbx, Qbz, QbF, hl2, hS0, hS1, k34', decide_false, Bool.not_false]
      exact ⟨[], ⟨rfl, [], by simp⟩, fun h => by cases h⟩
  subst ha
  rcases r with _ | ⟨b, r⟩
  · have hl2 : (([34] : Bs).length : Int) < 2 := by simp
    have e1 : QbK [34] = ([], false) := rfl
    rw [e1]
    simp (maxSteps := 4000000) only [vm, vl, Arg.get, Qa, Qc, reduceIte, Int.reduceLT, Qbp, QbN, Qbx, Qbz, QbF, hl2]
    exact ⟨[], ⟨rfl, [], by simp⟩, fun h => by cases h⟩
  have hl2 : ¬ ((34 :: b :: r : Bs).length : Int) < 2 := by simp; omega
  have hR : Qaw ((34 :: b :: r).drop 1) [] = QbK (34 :: b :: r) := rfl
  generalize QbK (34 :: b :: r) = R at *
  generalize hS : (34 :: b :: r : Bs) = S at *
  have hS0 : S.getD 0 0 = 34 := by rw [← hS]; rfl
  have hS1 : (0 : Nat) < S.length := by rw [← hS]; simp
  have k34' : ((UInt8.toNat 34 : Nat) : Int) = 34 := rfl
  simp (maxSteps := 4000000) only [vm, vl, Arg.get, Qa, Qc, reduceIte, Int.reduceLE, Int.reduceToNat, Qbp, QbN, Qbx, Qbz, QbF, hl2, hS0, hS1, k34', decide_true, Bool.not_true]
  exact QEt hs hS1 hR rfl rfl rfl
def Qr (s : Bs) : Bs × Bs × Bool × Bool :=
  let n := s.take (pos 61 s)
  let v := s.drop (pos 61 s + 1)
  if QaO n then (if pos 61 s < s.length then (if QaO v then (n, v, true, true) else if (QbK v).2 then (n, (QbK v).1, true, true) else ([], [], false, false)) else (n, v, false, true)) else ([], [], false, false)
def Qbc (p : Bs × Bs × Bool × Bool) : V := .tup [.str p.1, .str p.2.1, .bool p.2.2.1, .bool p.2.2.2]
theorem QG4 (HI : QaZ L) (HU : Qa1 L) {s : Bs} (hs : s.length ≤ 140737488351232) : Cf F L QeE [.str s] h (Pu h (Qbc (Qr s))) := by
  refine QwD ?_
  simp only [Qqn]
  simp (maxSteps := 4000000) only [vm, vl, Arg.get, Qa, Qc, Qc5, QcW, Qdy]
  refine Cf.pu (QAW HI (by omega)) fun u => ?_
  have b1 : (s.take (pos 61 s)).length ≤ 140737488351232 := by rw [List.length_take]; omega
  have b2 : (s.drop (pos 61 s + 1)).length ≤ 140737488351232 := by rw [List.length_drop]; omega
  unfold Qr QgX
  simp only
  generalize s.take (pos 61 s) = n at *
  generalize s.drop (pos 61 s + 1) = v at *
  simp (maxSteps := 4000000) only [vm, vl, Qc5, QcW, Qdy]
  refine Cf.pu (Qop (by omega)) fun u1 => ?_
  cases t1 : QaO n with
  | false => simp (maxSteps := 4000000) only [vm, vl, reduceIte, Qc5, QcW, Qdy, Qbc, Bool.not_false]
  | true =>
    by_cases hp : pos 61 s < s.length
    case neg =>
      rw [if_neg hp]
      simp (maxSteps := 4000000) only [vm, vl, reduceIte, Qc5, QcW, Qdy, Qbc, Bool.not_true, Bool.not_false, hp, decide_false]
    rw [if_pos hp]
    simp (maxSteps := 4000000) only [vm, vl, Arg.get, reduceIte, Qc5, QcW, Qdy, hp, decide_true, Bool.not_true]
    refine Cf.pu (Qop (by omega)) fun u2 => ?_
    cases t2 : QaO v with
    | true => simp (maxSteps := 4000000) only [vm, vl, reduceIte, Qc5, QcW, Qdy, Qbc]
    | false =>
      simp (maxSteps := 4000000) only [vm, vl, reduceIte, Qc5, QcW, Qdy, QcW]
      refine Cf.pu (Qwm HU (by omega)) fun u3 => ?_
      cases t3 : (QbK v).2 with
      | false => simp (maxSteps := 4000000) only [vm, vl, reduceIte, Qc5, QcW, Qdy, Qiu, t3, Bool.not_false, Qbc]
      | true => simp (maxSteps := 4000000) only [vm, vl, reduceIte, Qc5, QcW, Qdy, Qiu, t3, Bool.not_true, Qbc, Qc5]
end Go.Proofs.YtaahialaegfjgaaGreatDoor.Vh
end
section
set_option linter.unusedVariables false
set_option linter.unusedSimpArgs false
namespace Go.Proofs.YtaahialaegfjgaaGreatDoor.Vh
open Go.Vm Go.Vt
attribute [local congr] QF QI QE QG QD QJ
variable {L : QL} {h : Heap}
theorem QmO (out : List Bs) : flat (out.map V.str) = out.map V.str := by
  induction out with
  | nil => rfl
  | cons a r ih => simp only [List.map_cons, flat, List.flatMap_cons, cells]; exact congrArg _ ih
theorem QFF {h : Heap} {x : Bs} : Qb7 h 1 16 false .nsl (.sl 1 .full [.str x]) = some (.sl 1 (.tip h.length) [.str x], h ++ [.tip 1]) := rfl
theorem QJW {h : Heap} {k : Nat} {out : List Bs} {x : Bs} (hb : h[k]? = some (.tip out.length)) (hr : out.length < 8000000000) :
    Qb7 h 1 16 false (.sl 1 (.tip k) (out.map .str)) (.sl 1 .full [.str x]) = some (.sl 1 (.tip k) ((out ++ [x]).map .str), h.set k (.tip (out.length + 1))) := by
  have e1 : (out.map V.str ++ [V.str x]) = (out ++ [x]).map V.str := by simp
  have r : room ((out.map V.str).length + [V.str x].length) 16 = true := by simp [room]; omega
  have i : QeS h k (flat (out.map V.str)).length = true := by rw [QmO]; simp [QeS, hb]
  rw [QmO] at i
  simp only [Qb7, QaW, if_true, Option.bind_some, r, i, Bool.and_self, e1, QmO]
  simp
def Qog (h h' : Heap) (s : Bs) (out : List Bs) (at_ : Int) : Prop :=
  ∃ lv t, h' = h ++ (O.box [.str s] :: .box [lv] :: .box [.int .i64 at_] :: t) ∧ ((out = [] ∧ lv = .nsl) ∨ (out ≠ [] ∧ ∃ j, lv = .sl 1 (.tip (h.length + (j + 3))) (out.map .str) ∧ t[j]? = some (.tip out.length)))
theorem QrP {s own : Bs} {out : List Bs} {from_ to : Int} {h h' : Heap} (hs : s.length ≤ 8000000000) (h0 : 0 ≤ from_) (h1 : from_ ≤ to) (h2 : to ≤ s.length) (ho : out.length ≤ from_) (ho2 : out.length < 8000000000) (hown : (s.take to.toNat).drop from_.toNat = own)
    (H : Qog h h' s out from_) {K : QK} (hK : ∀ h'', Qog h h'' s (flush out own) (to + 1) → K (.tup []) h'') :
    Cf F L Qep [.int .i64 to, .ptr h.length 0, .ptr (h.length + 2) 0, .ptr (h.length + 1) 0] h' K := by
  obtain ⟨lv, t, rfl, hl⟩ := H
  refine QFp ?_
  simp only [QmF]
  have w := Qe (x := to + 1) (by omega) (by omega)
  have g1 : 0 ≤ from_ := h0
  have g2 : 0 ≤ to := by omega
  have g3 : from_.toNat ≤ to.toNat := by omega
  have g4 : to.toNat ≤ s.length := by omega
  have g5 : own.length < 9223372036854775807 := by rw [← hown]; simp; omega
  simp (maxSteps := 4000000) only [vm, vl, Arg.get, cells, stor, Qi, Qa, Qb, splice, reduceIte, Qhb, g1, g2, g3, g4, hown, w]
  refine Cf.pu (QF6 g5) fun t' => ?_
  by_cases he : trim own = []
  · have q : (trim own == []) = true := by rw [he]; rfl
    have ef : flush out own = out := by simp [flush, he]
    rw [ef] at hK
    simp (maxSteps := 4000000) only [vm, vl, Qhb, q, w]
    refine hK _ ⟨lv, t ++ t', by simp, hl.imp_right fun ⟨hne, j, e1, e2⟩ => ⟨hne, j, e1, Qp e2⟩⟩
  · have q : (trim own == []) = false := by simpa using he
    have ef : flush out own = out ++ [trim own] := by simp [flush, he]
    rw [ef] at hK
    rcases hl with ⟨rfl, rfl⟩ | ⟨hne, j, rfl, hj⟩
    · simp (maxSteps := 4000000) only [vm, vl, Nat.reduceAdd, Qhb, q, w, QFF]
      refine hK _ ⟨_, t ++ (t' ++ [.tip 1]), rfl, .inr ⟨by simp, t.length + t'.length, ?_, ?_⟩⟩
      · simp [Nat.add_assoc]
      · rw [← List.append_assoc, List.getElem?_append_right (by simp)]
        simp
    · have hj' : (h ++ (O.box [.str s] :: .box [V.sl 1 (.tip (h.length + (j + 3))) (out.map V.str)] :: .box [.int .i64 from_] :: (t ++ t')))[h.length + (j + 3)]? = some (.tip out.length) := by
        rw [Qd7]
        simp only [List.getElem?_cons_succ]
        exact Qp hj
      have ha := QJW (x := trim own) hj' ho2
      simp (maxSteps := 4000000) only [vm, vl, Qhb, q, w, ha]
      refine hK _ ⟨_, _, rfl, .inr ⟨by simp, j, rfl, ?_⟩⟩
      have hjl : j < (t ++ t').length := by
        have := (List.getElem?_eq_some_iff.1 hj).1
        simp; omega
      rw [List.getElem?_set_self hjl]
      simp
theorem QJT (out : List Bs) : flush out [] = out := by simp [flush, trim, QX, QaS]
theorem QhD (c : UInt8) (r own : Bs) (q : Bool) (out : List Bs) : Qah (c :: r) own q out =
    if c = 34 then Qah r (own ++ [c]) (!q) out
    else if (q && c == 92) = true then (match r with | [] => none | d :: r' => Qah r' (own ++ [c, d]) q out)
    else if (!q && c == 44) = true then Qah r [] q (flush out own)
    else Qah r (own ++ [c]) q out := by
  cases r with
  | cons d r => rw [Qah]
  | nil =>
    by_cases h1 : c = 34
    · subst h1; cases q <;> simp [Qah]
    · cases q
      · by_cases h2 : c = 44 <;> simp [Qah, h1, h2, QJT]
      · by_cases h2 : c = 92 <;> simp [Qah, h1, h2]
theorem Qkv (out : List Bs) (own : Bs) : (flush out own).length ≤ out.length + 1 := by
  unfold flush; split <;> simp
theorem Qtg {s : Bs} {i f : Nat} {c : UInt8} (hf : f ≤ i) (hl : i < s.length) (hd : s.drop i = c :: s.drop (i + 1)) : (s.take (i + 1)).drop f = (s.take i).drop f ++ [c] := by
  rw [Qea hl hd, List.drop_append_of_le_length (by simp; omega)]
theorem QIk (s : Bs) (i : Nat) : (s.take i).drop i = [] := List.drop_eq_nil_of_le (by simp [List.length_take]; omega)
def Qed (out : List Bs) : V := if out = [] then .nsl else .sl 1 .full (out.map .str)
def Qcm : Option (List Bs) → V
  | none => .tup [.nsl, .bool false]
  | some out => .tup [Qed out, .bool true]
theorem Qx9 {out : List Bs} (hne : out ≠ []) {o : Own} : QfP 1 (.sl 1 o (out.map V.str)) 0 (some out.length) (some out.length) = some (.sl 1 .full (out.map V.str)) := by
  have : List.take out.length (out.map V.str) = out.map V.str := List.take_of_length_le (by simp)
  simp [QfP, this]
theorem u34 {c : UInt8} : ((c.toNat : Int) = 34) = (c = 34) := propext ⟨fun h => by
  have : c.toNat = 34 := by omega
  exact UInt8.toNat_inj.1 (by simpa using this), fun h => by subst h; rfl⟩
theorem u92 {c : UInt8} : ((c.toNat : Int) = 92) = (c = 92) := propext ⟨fun h => by
  have : c.toNat = 92 := by omega
  exact UInt8.toNat_inj.1 (by simpa using this), fun h => by subst h; rfl⟩
theorem u44 {c : UInt8} : ((c.toNat : Int) = 44) = (c = 44) := propext ⟨fun h => by
  have : c.toNat = 44 := by omega
  exact UInt8.toNat_inj.1 (by simpa using this), fun h => by subst h; rfl⟩
def Qwh (h : Heap) (s : Bs) (n : Nat) (e : Env) (h' : Heap) : Prop :=
  ∃ (i f : Nat) (q : Bool) (out : List Bs), n = s.length + 1 - i ∧ f ≤ i ∧ f ≤ s.length ∧ out.length ≤ f ∧ Qog h h' s out f ∧
    e 1 = .ptr h.length 0 ∧ e 4 = .ptr (h.length + 1) 0 ∧ e 6 = .fn Qep [.ptr h.length 0, .ptr (h.length + 2) 0, .ptr (h.length + 1) 0] ∧ e 7 = .bool q ∧ e 8 = .int .i64 i ∧
    ((i ≤ s.length ∧ split s = Qah (s.drop i) ((s.take i).drop f) q out) ∨ (i = s.length + 1 ∧ q = true ∧ split s = none))
theorem Qh3 {s : Bs} (hs : s.length < 8000000000) : Cf F L Qc0 [.str s] h (Pu h (Qcm (split s))) := by
  refine QIu ?_
  simp only [Qp6]
  simp (maxSteps := 4000000) only [vm, vl, Arg.get, cells, stor, splice, Nat.reduceAdd, QcS, Qcl, QbA, QcJ]
  refine QAf (Qwh h s) ?_ (n := s.length + 1) ⟨0, 0, false, [], by simp, by simp, by simp, by simp, ⟨_, _, rfl, .inl ⟨rfl, rfl⟩⟩, rfl, rfl, rfl, rfl, rfl, .inl ⟨by simp, by simp [split]⟩⟩
  rintro n e h' ⟨i, f, q, out, rfl, hf, hfs, hol, H, e1, e4, e6, e7, e8, hst⟩
  simp only [QlB]
  have hb1 : h'[h.length]? = some (.box [.str s]) := by
    obtain ⟨lv, t, rfl, _⟩ := H
    rw [QlM]; rfl
  rcases hst with ⟨hi, hsp⟩ | ⟨rfl, rfl, hsp⟩
  · rcases QbQ hi with ⟨hn, rfl, hd⟩ | ⟨c, hl, hl', hc, hd⟩
    · cases q with
      | true =>
        have : split s = none := by rw [hsp, hd]; rfl
        simp (maxSteps := 4000000) only [vm, vl, Arg.get, Qa, Qc, Qb, reduceIte, QcS, Qcl, QbA, QcJ, e1, e4, e6, e7, e8, hb1, hn]
        rw [this]; exact ⟨rfl, by obtain ⟨lv, t, rfl, _⟩ := H; exact ⟨_, rfl⟩⟩
      | false =>
        have hres : split s = some (flush out ((s.take s.length).drop f)) := by rw [hsp, hd]; rfl
        simp (maxSteps := 4000000) only [vm, vl, Arg.get, Qi, Qa, Qc, Qb, reduceIte, Int.reduceLE, Int.reduceToNat, QcS, Qcl, QbA, QcJ, e1, e4, e6, e7, e8, hb1, hn]
        refine QrP (own := (s.take s.length).drop f) (from_ := f) (by omega) (by omega) (by omega) (by omega) (by omega) (by omega) (by simp) H fun h'' H'' => ?_
        rw [hres]
        generalize flush out ((s.take s.length).drop f) = fo at *
        obtain ⟨lv, t, rfl, hlv⟩ := H''
        rcases hlv with ⟨rfl, rfl⟩ | ⟨hne, j, rfl, hj⟩
        · have e0 : QfP 1 V.nsl 0 (some 0) (some 0) = some .nsl := rfl
          simp (maxSteps := 4000000) only [vm, vl, QcS, Qcl, QbA, QcJ, e0]
          rfl
        · have e0 := Qx9 hne (o := .tip (h.length + (j + 3)))
          simp (maxSteps := 4000000) only [vm, vl, QcS, Qcl, QbA, QcJ, e0]
          simp [Qcm, Qed, hne]
    · have w := Qe (x := (i : Int) + 1) (by omega) (by omega)
      rw [hd, QhD] at hsp
      have own1 := Qtg hf hl' hd
      have k1 : ¬ (92 : UInt8) = 34 := by decide
      have k2 : ¬ (44 : UInt8) = 34 := by decide
      by_cases c1 : c = 34
      · simp (maxSteps := 4000000) only [vm, vl, Arg.get, Qi, Qa, Qc, Qb, reduceIte, Int.reduceLE, Int.reduceToNat, QcS, Qcl, QbA, QcJ, e1, e4, e6, e7, e8, hb1, hl, hl', hc, u34, u92, u44, w, c1]
        refine ⟨s.length + 1 - (i + 1), by omega, i + 1, f, !q, out, rfl, by omega, hfs, hol, H, by simp [upd, e1], by simp [upd, e4], by simp [upd, e6], by simp [upd], by simp [upd], .inl ⟨hl', ?_⟩⟩
        rw [hsp, if_pos c1, own1]
      rw [if_neg c1] at hsp
      cases q with
      | true =>
        by_cases c2 : c = 92
        · have w2 := Qe (x := (i : Int) + 1 + 1) (by omega) (by omega)
          simp (maxSteps := 4000000) only [vm, vl, Arg.get, Qa, Qc, Qb, reduceIte, QcS, Qcl, QbA, QcJ, e1, e4, e6, e7, e8, hb1, hl, hl', hc, u34, u92, u44, w, c1, c2, w2, k1]
          rw [if_pos (by simp [c2])] at hsp
          refine ⟨s.length + 1 - (i + 2), by omega, i + 2, f, true, out, rfl, by omega, hfs, hol, H, by simp [upd, e1], by simp [upd, e4], by simp [upd, e6], by simp [upd, e7], by simp [upd]; omega, ?_⟩
          rcases QbQ (s := s) (i := i + 1) (by omega) with ⟨_, hn, hd1⟩ | ⟨d, _, hl1, _, hd1⟩
          · rw [hd1] at hsp
            exact .inr ⟨by omega, rfl, hsp⟩
          · rw [hd1] at hsp
            refine .inl ⟨by omega, ?_⟩
            rw [hsp, Qtg (by omega) hl1 hd1, own1]
            simp
        · simp (maxSteps := 4000000) only [vm, vl, Arg.get, Qa, Qc, Qb, reduceIte, QcS, Qcl, QbA, QcJ, e1, e4, e6, e7, e8, hb1, hl, hl', hc, u34, u92, u44, w, c1, c2]
          rw [if_neg (by simp [c2]), if_neg (by simp)] at hsp
          refine ⟨s.length + 1 - (i + 1), by omega, i + 1, f, true, out, rfl, by omega, hfs, hol, H, by simp [upd, e1], by simp [upd, e4], by simp [upd, e6], by simp [upd, e7], by simp [upd], .inl ⟨hl', ?_⟩⟩
          rw [hsp, own1]
      | false =>
        rw [if_neg (by simp)] at hsp
        by_cases c2 : c = 44
        · rw [if_pos (by simp [c2])] at hsp
          simp (maxSteps := 4000000) only [vm, vl, Arg.get, Qi, Qa, Qc, Qb, reduceIte, Int.reduceLE, Int.reduceToNat, QcS, Qcl, QbA, QcJ, e1, e4, e6, e7, e8, hb1, hl, hl', hc, u34, u92, u44, w, c1, c2, k2]
          refine QrP (own := (s.take i).drop f) (from_ := f) (to := (i : Int)) (by omega) (by omega) (by omega) (by omega) (by omega) (by omega) (by simp) H fun h'' H'' => ?_
          refine ⟨s.length + 1 - (i + 1), by omega, i + 1, i + 1, false, flush out ((s.take i).drop f), rfl, by omega, hl', ?_, by simpa using H'', by simp [upd, e1], by simp [upd, e4], by simp [upd, e6], by simp [upd, e7], by simp [upd], .inl ⟨hl', ?_⟩⟩
          · have := Qkv out ((s.take i).drop f); omega
          · rw [hsp, QIk]
        · rw [if_neg (by simp [c2])] at hsp
          simp (maxSteps := 4000000) only [vm, vl, Arg.get, Qi, Qa, Qc, Qb, reduceIte, Int.reduceLE, Int.reduceToNat, QcS, Qcl, QbA, QcJ, e1, e4, e6, e7, e8, hb1, hl, hl', hc, u34, u92, u44, w, c1, c2]
          refine ⟨s.length + 1 - (i + 1), by omega, i + 1, f, false, out, rfl, by omega, hfs, hol, H, by simp [upd, e1], by simp [upd, e4], by simp [upd, e6], by simp [upd, e7], by simp [upd], .inl ⟨hl', ?_⟩⟩
          rw [hsp, own1]
  · have hn : ¬ ((s.length + 1 : Nat) : Int) < s.length := by omega
    simp (maxSteps := 4000000) only [vm, vl, Arg.get, Qa, Qc, Qb, reduceIte, QcS, Qcl, QbA, QcJ, e1, e4, e6, e7, e8, hb1, hn, hsp]
    exact ⟨rfl, by obtain ⟨lv, t, rfl, _⟩ := H; exact ⟨_, rfl⟩⟩
end Go.Proofs.YtaahialaegfjgaaGreatDoor.Vh
end
section
set_option linter.unusedVariables false
set_option linter.unusedSimpArgs false
namespace Go.Proofs.YtaahialaegfjgaaGreatDoor.Vh
open Go.Vm Go.Vt
def Runs (x : Bs) : Prop := ∀ r own out, Qah (x ++ r) own false out = Qah r (own ++ x) false out
theorem Runs.nil : Runs [] := fun r own out => by simp
theorem Runs.app {a b : Bs} (ha : Runs a) (hb : Runs b) : Runs (a ++ b) := fun r own out => by rw [List.append_assoc, ha, hb, List.append_assoc]
theorem Runs.one {c : UInt8} (h1 : c ≠ 34) (h2 : c ≠ 44) : Runs [c] := fun r own out => by
  rw [List.singleton_append, QhD, if_neg h1, if_neg (by simp), if_neg (by simp [h2])]
def Firm (x : Bs) : Prop := (∃ c r, x = c :: r ∧ QaD c = false) ∧ ∃ r c, x = r ++ [c] ∧ QaD c = false
theorem Firm.trim {x : Bs} (h : Firm x) : trim x = x := by
  obtain ⟨⟨c, r, rfl, h1⟩, r', c', h2, h3⟩ := h
  unfold Vt.trim
  rw [h2, Qo0 h3, ← h2, Qg6 h1]
theorem Firm.ne {x : Bs} (h : Firm x) : x ≠ [] := by
  obtain ⟨⟨c, r, rfl, h1⟩, _⟩ := h
  simp
end Go.Proofs.YtaahialaegfjgaaGreatDoor.Vh
end
