/- Unary operations, conversions of numbers, cuts, loads, lookups, len, min, max. -/
import Derived.Test.YtfihnnebffkbfaaDoorVmInsB
namespace Go.Vm
set_option linter.unusedVariables false
set_option linter.unusedSimpArgs false

section
variable {P : Program} {B : Nat} {G : Gh} {h h' : Heap} {w : World} {n : Nat} {e : Env} {a : Act} {o : Oper} {v : V}

theorem o_unOp {op : UnOp} {t : TypeId} {x : Operand} {i : Ins} (hop : o.op = .unOp op t x) (hc : insC P n o = some i) (hs : stepI i e h = some (v, h')) (he : EnvRel B G w n e a.tmps) (hr : Rel B G h w) : Outc P B G h w o a v h' := by
  simp only [insC, hop] at hc
  obtain ⟨g, hg, rfl⟩ := map_some hc
  have r := argC_rv he hg
  simp only [stepI] at hs
  obtain ⟨u, hu, h2⟩ := map_some hs
  injection h2 with h1 h2; subst h1; subst h2
  unfold unV at hu
  split at hu <;> first | (cases hu; done) | skip
  · rename_i k m eg
    rw [eg] at r
    generalize hx : a.eval x = q at r
    cases r
    split at hu <;> first | (cases hu; done) | skip
    · injection hu with hu; subst hu
      exact Outc.same hr (by simp [execOp, hop, hx, Op.unary, Op.intArith]) (.int _ _)
    · injection hu with hu; subst hu
      exact Outc.same hr (by simp [execOp, hop, hx, Op.unary, Op.intBits]; rfl) (by simp only [bitsI]; exact .int _ _)
  · rename_i b eg
    rw [eg] at r
    generalize hx : a.eval x = q at r
    cases r
    split at hu <;> first | (cases hu; done) | skip
    injection hu with hu; subst hu
    exact Outc.same hr (by simp [execOp, hop, hx, Op.unary]) (.bool _)

/-- Bounds of a cut. -/
def BO (l : Option Nat) (x : Option Value) : Prop :=
  match l, x with
  | none, none => True
  | some k, some v => ∃ kk m, v = .int kk m ∧ 0 ≤ m ∧ m.toNat = k
  | _, _ => False

theorem argO_bo {x : Option Operand} {g : Option Arg} {l : Option Nat} (he : EnvRel B G w n e a.tmps) (hg : argO n x = some g) (hl : boundO e g = some l) : BO l (x.map a.eval) := by
  cases x with
  | none =>
    simp [argO] at hg; subst hg
    simp [boundO] at hl; subst hl
    simp [BO]
  | some x =>
    simp only [argO] at hg
    obtain ⟨g', hg', rfl⟩ := map_some hg
    have r := argC_rv he hg'
    simp only [boundO] at hl
    split at hl <;> first | (cases hl; done) | skip
    rename_i k m em
    split at hl <;> first | (cases hl; done) | skip
    rename_i h0
    injection hl with hl; subst hl
    rw [em] at r
    simp only [Option.map_some]
    generalize a.eval x = q at r
    cases r
    exact ⟨_, _, rfl, h0, rfl⟩

theorem bounds_run {sl : Bool} {len cap : Nat} {low high mx : Option Value} {l r m : Option Nat} (h1 : BO l low) (h2 : BO r high) (h3 : BO m mx) (hm : m = none ∨ r ≠ none)
    (ha : m.getD cap ≤ cap) (hb : r.getD len ≤ m.getD cap) (hc : l.getD 0 ≤ r.getD len) :
    (Instr.sliceBounds sl len cap low high mx).run P w = .ok (l.getD 0, r.getD len, m.getD cap) w := by
  have sb : ∀ {k y : Nat} {v : Value} {c : BoundsCode}, (∃ kk z, v = .int kk z ∧ 0 ≤ z ∧ z.toNat = k) → k ≤ y → (Instr.sliceBound v y c).run P w = .ok k w := by
    rintro k y v c ⟨kk, z, rfl, hz, rfl⟩ hle
    have : z ≤ (y : Int) := by omega
    simp [Instr.sliceBound, asIntOf, hz, this]
  cases m with
  | none =>
    cases mx with
    | some _ => exact h3.elim
    | none =>
      cases r with
      | none =>
        cases high with
        | some _ => exact h2.elim
        | none =>
          cases l with
          | none => cases low with
            | some _ => exact h1.elim
            | none => simp [Instr.sliceBounds]
          | some k => cases low with
            | none => exact h1.elim
            | some lv => simp at hc; simp [Instr.sliceBounds, sb h1 hc]
      | some kr =>
        cases high with
        | none => exact h2.elim
        | some hv =>
          simp at hb hc
          cases l with
          | none => cases low with
            | some _ => exact h1.elim
            | none => simp [Instr.sliceBounds, sb h2 hb]
          | some k => cases low with
            | none => exact h1.elim
            | some lv => simp at hc; simp [Instr.sliceBounds, sb h2 hb, sb h1 hc]
  | some km =>
    cases mx with
    | none => exact h3.elim
    | some mv =>
      cases r with
      | none => exact absurd rfl (hm.resolve_left (by simp))
      | some kr =>
        cases high with
        | none => exact h2.elim
        | some hv =>
          simp at ha hb hc
          cases l with
          | none => cases low with
            | some _ => exact h1.elim
            | none => simp [Instr.sliceBounds, sb h2 hb, sb h3 ha]
          | some k => cases low with
            | none => exact h1.elim
            | some lv => simp at hc; simp [Instr.sliceBounds, sb h2 hb, sb h1 hc, sb h3 ha]

theorem extract_bytes (s : List UInt8) (l r : Nat) : (⟨s.toArray⟩ : ByteArray).extract l r = ⟨((s.take r).drop l).toArray⟩ := by
  apply ByteArray.ext
  simp [List.take_drop]
  by_cases hle : l ≤ r
  · rw [show l + (r - l) = r by omega]
  · rw [List.drop_eq_nil_of_le (by simp; omega), List.drop_eq_nil_of_le (by simp; omega)]

theorem o_slice {t : TypeId} {x : Operand} {lo hi mx : Option Operand} {i : Ins} (hop : o.op = .slice t x lo hi mx) (hc : insC P n o = some i) (hs : stepI i e h = some (v, h')) (he : EnvRel B G w n e a.tmps) (hr : Rel B G h w) : Outc P B G h w o a v h' := by
  simp only [insC, hop] at hc
  split at hc <;> first | (cases hc; done) | skip
  rename_i gx glo ghi gmx e1 e2 e3 e4
  have r1 := argC_rv he e1
  split at hc <;> first | (cases hc; done) | skip
  · rename_i hu
    split at hc <;> first | (cases hc; done) | skip
    injection hc with hc; subst hc
    have hmx : mx = none := by
      cases mx with
      | none => rfl
      | some m => simp [argO] at e4
    subst hmx
    simp only [stepI] at hs
    split at hs <;> first | (cases hs; done) | skip
    rename_i s es
    cases eb : boundO e glo with
    | none => simp [eb] at hs
    | some l =>
      cases ec : boundO e ghi with
      | none => simp [eb, ec] at hs
      | some r =>
        simp only [eb, ec, Option.bind_some] at hs
        split at hs <;> first | (cases hs; done) | skip
        rename_i hle
        injection hs with hs
        injection hs with h1 h2; subst h1; subst h2
        rw [es] at r1
        generalize hx : a.eval x = q at r1
        cases r1
        have hb := bounds_run (P := P) (w := w) (sl := false) (len := s.length) (cap := s.length) (m := none) (mx := none) (argO_bo he e2 eb) (argO_bo he e3 ec) (by simp [BO]) (.inl rfl) (by simp) (by simpa using hle.2) hle.1
        refine Outc.same hr (val := .string ⟨((s.take (r.getD s.length)).drop (l.getD 0)).toArray⟩) ?_ (.str _)
        have hsz : (⟨s.toArray⟩ : ByteArray).size = s.length := by simp [ByteArray.size]
        simp [execOp, hop, Instr.sliceAt, Instr.slice, run_underlying hu, hx, hsz, hb, extract_bytes]
  · rename_i el hu
    split at hc <;> first | (cases hc; done) | skip
    rename_i sz esz
    split at hc <;> first | (cases hc; done) | skip
    rename_i hsz0
    injection hc with hc; subst hc
    simp only [stepI] at hs
    cases eb : boundO e glo with
    | none => simp [eb] at hs
    | some l =>
    cases ec : boundO e ghi with
    | none => simp [eb, ec] at hs
    | some r =>
    cases ed : boundO e gmx with
    | none => simp [eb, ec, ed] at hs
    | some m =>
    simp only [eb, ec, ed, Option.bind_some] at hs
    obtain ⟨u, hu2, h2⟩ := map_some hs
    injection h2 with h1 h2; subst h1; subst h2
    have b1 := argO_bo he e2 eb
    have b2 := argO_bo he e3 ec
    have b3 := argO_bo he e4 ed
    generalize hxx : gx.get e = gxv at hu2 r1
    generalize hx : a.eval x = q at r1
    unfold slslV at hu2
    split at hu2 <;> first | (cases hu2; done) | skip
    · -- nil
      cases r1
      have fin : l.getD 0 = 0 → r.getD 0 = 0 → (m = none ∨ m = some 0) → (m = none ∨ r ≠ none) → Outc P B G h w o a .nsl h := by
        intro hl hrr hm hm2
        have hm0 : m.getD 0 = 0 := by rcases hm with rfl | rfl <;> rfl
        have hb := bounds_run (P := P) (w := w) (sl := true) (len := 0) (cap := 0) b1 b2 b3 hm2 (by omega) (by omega) (by omega)
        refine Outc.same hr (val := .slice none 0 0) ?_ .nsl
        simp [execOp, hop, Instr.sliceAt, Instr.slice, run_underlying hu, hx, hb, run_sizeT esz, hl, hrr, hm0]
      split at hu2 <;> first | (cases hu2; done) | skip
      all_goals (split at hu2 <;> first | (cases hu2; done) | skip)
      all_goals (rename_i hl; injection hu2 with hu2; subst hu2)
      · exact fin hl rfl (.inl rfl) (.inl rfl)
      · exact fin hl rfl (.inl rfl) (.inl rfl)
      · exact fin hl rfl (.inr rfl) (.inr (by simp))
    · -- a slice of elements
      rename_i sz' own es
      split at hu2
      · cases hu2
      rename_i hszz'
      have hszz : sz' = sz := Classical.byContradiction fun h => hszz' h
      cases r1 with
      | sl vs hsz hsp hcap hcc h1 hrr hfull htip =>
        rename_i ad cap
        have fl := flat_length hsz
        -- a cut from k on, of r elements' end
        have cut : ∀ (k q c : Nat) (own' : Own), k ≤ q → q ≤ es.length → q ≤ c → (k = 0 → (own' = own ∧ q = es.length ∧ c = cap) ∨ own' = .no ∨ (own' = .full ∧ c = q)) → (k ≠ 0 → own' = .no ∨ (own' = .full ∧ c = q)) → 
            Rv B G w (.sl sz' own' ((es.take q).drop k)) (.slice (some (if c = k then ad else ad.add (k * sz'))) (q - k) (c - k)) := by
          intro k q c own' hkq hqe hqc ho1 ho2
          have hlen : ((es.take q).drop k).length = q - k := by simp; omega
          have hmem : ∀ x ∈ (es.take q).drop k, x ∈ es := fun x hx => List.mem_of_mem_take (List.mem_of_mem_drop hx)
          have hsz2 : ∀ x ∈ (es.take q).drop k, (cells x).length = sz' := fun x hx => hsz x (hmem x hx)
          have hfl : ∀ j, j < (flat ((es.take q).drop k)).length → (flat ((es.take q).drop k))[j]? = (flat es)[k * sz' + j]? := by
            intro j hj
            have e1 : flat es = flat (es.take k) ++ (flat ((es.take q).drop k) ++ flat (es.drop q)) := by
              rw [← flat_append, ← flat_append]
              congr 1
              rw [List.drop_take, ← List.append_assoc]
              have : es.take k ++ (es.drop k).take (q - k) = es.take q := by
                rw [← List.take_add]; congr 1; omega
              rw [this, List.take_append_drop]
            have e2 : (flat (es.take k)).length = k * sz' := by
              rw [flat_length (fun x hx => hsz x (List.mem_of_mem_take hx)), List.length_take, Nat.min_eq_left (by omega)]
            rw [e1, List.getElem?_append_right (by omega), e2, show k * sz' + j - k * sz' = j by omega, List.getElem?_append_left hj]
          have hadd : (if c = k then ad else ad.add (k * sz')).block = ad.block ∧ (0 < (flat ((es.take q).drop k)).length → (if c = k then ad else ad.add (k * sz')).off = ad.off + k * sz') := by
            by_cases hck : c = k
            · rw [if_pos hck]
              refine ⟨rfl, fun h0 => ?_⟩
              rw [flat_length hsz2, hlen, show q - k = 0 by omega] at h0
              simp at h0
            · rw [if_neg hck]
              unfold Addr.add
              split
              · rename_i hz; rw [hz]; exact ⟨rfl, fun _ => rfl⟩
              · exact ⟨rfl, fun _ => rfl⟩
          rw [← hlen]
          refine .sl (fun j => vs (k * sz' + j)) hsz2 ?_ (by rw [hlen]; omega) ?_ ?_ ?_ ?_ ?_
          · intro hne
            have hne' : es ≠ [] := by rintro rfl; simp at hne
            have := hsp hne'
            split
            · exact this
            · unfold Addr.add; split
              · exact this
              · rfl
          · intro j hj
            obtain ⟨ha1, ha2⟩ := hadd
            rw [ha1, ha2 (by omega)]
            have h3 := hfl j hj
            have h4 : k * sz' + j < (flat es).length := (List.getElem?_eq_some_iff.1 (h3.symm.trans (List.getElem?_eq_getElem hj))).1
            have := hcc _ h4
            rwa [← Nat.add_assoc] at this
          · intro c hc
            obtain ⟨x, hx, hcx⟩ := List.mem_flatMap.1 hc
            exact h1 c (mem_flat (hmem x hx) c hcx)
          · intro j y hy
            have hj := (List.getElem?_eq_some_iff.1 hy).1
            exact hrr _ _ ((hfl j hj).symm.trans hy)
          · intro hf
            rw [hlen]
            by_cases hk0 : k = 0
            · rcases ho1 hk0 with ⟨ho, hq, hcq⟩ | ho | ⟨_, ho⟩
              · rw [ho] at hf; have := hfull hf; omega
              · rw [ho] at hf; cases hf
              · omega
            · rcases ho2 hk0 with ho | ⟨_, ho⟩
              · rw [ho] at hf; cases hf
              · omega
          · intro id hid
            by_cases hk0 : k = 0
            · rcases ho1 hk0 with ⟨ho, hq, hcq⟩ | ho | ⟨ho, _⟩
              · subst hk0; subst hq; subst hcq
                rw [ho] at hid
                obtain ⟨t', ht, hn, hf⟩ := htip id hid
                refine ⟨t', ht, by simpa using hn, fun hh => ?_⟩
                obtain ⟨a1, a2, a3⟩ := hf (by simpa using hh)
                refine ⟨?_, by simpa using a2, a3⟩
                rw [a1]; simp [Addr.add]
              · rw [ho] at hid; cases hid
              · rw [ho] at hid; cases hid
            · rcases ho2 hk0 with ho | ⟨ho, _⟩ <;> (rw [ho] at hid; cases hid)
        have fin : ∀ (own' : Own), (m = none ∨ r ≠ none) → m.getD cap ≤ cap → r.getD es.length ≤ m.getD cap → l.getD 0 ≤ r.getD es.length → r.getD es.length ≤ es.length →
            (l.getD 0 = 0 → (own' = own ∧ r.getD es.length = es.length ∧ m.getD cap = cap) ∨ own' = .no ∨ (own' = .full ∧ m.getD cap = r.getD es.length)) → (l.getD 0 ≠ 0 → own' = .no ∨ (own' = .full ∧ m.getD cap = r.getD es.length))→
            Outc P B G h w o a (.sl sz' own' ((es.take (r.getD es.length)).drop (l.getD 0))) h := by
          intro own' hm2 ha hb hc hd ho1 ho2
          subst hszz
          have hbr := bounds_run (P := P) (w := w) (sl := true) b1 b2 b3 hm2 ha hb hc
          refine Outc.same hr ?_ (cut _ _ (m.getD cap) own' hc hd hb ho1 ho2)
          simp [execOp, hop, Instr.sliceAt, Instr.slice, run_underlying hu, hx, hbr, run_sizeT esz]
          split <;> rfl
        split at hu2 <;> first | (cases hu2; done) | skip
        · split at hu2 <;> first | (cases hu2; done) | skip
          rename_i hle
          injection hu2 with hu2; subst hu2
          have := fin (if l.getD 0 = 0 then own else .no) (.inl rfl) (by simp) (by simpa using hcap) (by simpa using hle) (by simp) (fun h0 => .inl ⟨by rw [if_pos h0], by simp, by simp⟩) (fun h0 => .inl (by rw [if_neg h0]))
          simpa using this
        · rename_i r'
          split at hu2 <;> first | (cases hu2; done) | skip
          rename_i hle
          injection hu2 with hu2; subst hu2
          exact fin .no (.inl rfl) (by simp) (by simpa using Nat.le_trans hle.2 hcap) (by simpa using hle.1) (by simpa using hle.2) (fun h0 => .inr (.inl rfl)) (fun h0 => .inl rfl)
        · rename_i r' m'
          split at hu2 <;> first | (cases hu2; done) | skip
          rename_i hle
          injection hu2 with hu2; subst hu2
          have own2 : (if r' = m' then Own.full else Own.no) = .no ∨ ((if r' = m' then Own.full else Own.no) = .full ∧ m' = r') := by
            by_cases hrm : r' = m'
            · exact .inr ⟨by rw [if_pos hrm], hrm.symm⟩
            · exact .inl (by rw [if_neg hrm])
          exact fin (if r' = m' then .full else .no) (.inr (by simp)) (by simpa using Nat.le_trans hle.2.2 hcap) (by simpa using hle.2.1) (by simpa using hle.1) (by simpa using Nat.le_trans hle.2.1 hle.2.2)
            (fun h0 => .inr own2) (fun h0 => own2)
    · -- a slice in a box
      rename_i sz' id len
      split at hu2
      · cases hu2
      rename_i hszz'
      have hszz : sz' = sz := Classical.byContradiction fun h => hszz' h
      subst hszz
      cases r1 with
      | hsl hb hl hn =>
        rename_i b nn cap
        split at hu2 <;> first | (cases hu2; done) | skip
        · split at hu2 <;> first | (cases hu2; done) | skip
          rename_i hl0
          injection hu2 with hu2; subst hu2
          have hbr := bounds_run (P := P) (w := w) (sl := true) (len := len) (cap := cap) b1 b2 b3 (.inl rfl) (by simp) (by simpa using hl) (by simp [hl0])
          refine Outc.same hr (val := .slice (some ⟨b, 0, none⟩) len cap) ?_ (.hsl hb hl hn)
          simp [execOp, hop, Instr.sliceAt, Instr.slice, run_underlying hu, hx, hbr, run_sizeT esz, hl0, Addr.add]
        · rename_i r'
          split at hu2 <;> first | (cases hu2; done) | skip
          rename_i hl0
          injection hu2 with hu2; subst hu2
          have hbr := bounds_run (P := P) (w := w) (sl := true) (len := len) (cap := cap) b1 b2 b3 (.inl rfl) (by simp) (by simp; omega) (by simp [hl0.1])
          refine Outc.same hr (val := .slice (some ⟨b, 0, none⟩) r' cap) ?_ (.hsl hb (by omega) hn)
          simp [execOp, hop, Instr.sliceAt, Instr.slice, run_underlying hu, hx, hbr, run_sizeT esz, hl0.1, Addr.add]
        · rename_i r' m'
          split at hu2 <;> first | (cases hu2; done) | skip
          rename_i hl0
          injection hu2 with hu2; subst hu2
          have hbr := bounds_run (P := P) (w := w) (sl := true) (len := len) (cap := cap) b1 b2 b3 (.inr (by simp)) (by simp; omega) (by simp; omega) (by simp [hl0.1])
          refine Outc.same hr (val := .slice (some ⟨b, 0, none⟩) r' m') ?_ (.hsl hb hl0.2.1 (Nat.le_trans (Nat.mul_le_mul_right _ (by omega)) hn))
          simp [execOp, hop, Instr.sliceAt, Instr.slice, run_underlying hu, hx, hbr, run_sizeT esz, hl0.1, Addr.add]

end
end Go.Vm
