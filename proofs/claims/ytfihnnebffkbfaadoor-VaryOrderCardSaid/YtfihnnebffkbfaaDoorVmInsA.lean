/- Instructions that leave the world alone. -/
import Derived.Test.YtfihnnebffkbfaaDoorVmRun
namespace Go.Vm
set_option linter.unusedVariables false
set_option linter.unusedSimpArgs false

section
variable {P : Program} {B : Nat} {G : Gh} {h h' : Heap} {w : World} {n : Nat} {e : Env} {a : Act} {o : Oper} {v : V}

def Outc (P : Program) (B : Nat) (G : Gh) (h : Heap) (w : World) (o : Oper) (a : Act) (v : V) (h' : Heap) : Prop :=
  ∃ nx w' G' val, (execOp a.eval o).run P w = .ok nx w' ∧ (nx = .value val ∨ (nx = .skip ∧ val = undef)) ∧ Rv B G' w' v val ∧ Rel B G' h' w' ∧ Evo B G h w G' h' w'

theorem Outc.same (hr : Rel B G h w) {val : Value} (hx : (execOp a.eval o).run P w = .ok (.value val) w) (hv : Rv B G w v val) : Outc P B G h w o a v h :=
  ⟨_, w, G, val, hx, .inl rfl, hv, hr, .refl hr.wf⟩

theorem map_some {α β : Type} {f : α → β} {x : Option α} {y : β} (h : x.map f = some y) : ∃ z, x = some z ∧ f z = y := by
  cases x with
  | none => cases h
  | some z => exact ⟨z, rfl, Option.some.inj h⟩

/-! ### move, pick, nilCheck, makeFunc, extract -/

theorem o_move {x : Operand} {i : Ins} (hop : o.op = .move x ∨ o.op = .assign x) (hc : insC P n o = some i) (hs : stepI i e h = some (v, h')) (he : EnvRel B G w n e a.tmps) (hr : Rel B G h w) : Outc P B G h w o a v h' := by
  have hc' : (argC n x).map Ins.mv = some i := by rcases hop with hop | hop <;> simpa [insC, hop] using hc
  obtain ⟨g, hg, rfl⟩ := map_some hc'
  simp [stepI] at hs
  obtain ⟨rfl, rfl⟩ := hs
  refine Outc.same hr (val := a.eval x) ?_ (argC_rv he hg)
  rcases hop with hop | hop <;> simp [execOp, hop]

theorem o_pick {c x y : Operand} {i : Ins} (hop : o.op = .pick c x y) (hc : insC P n o = some i) (hs : stepI i e h = some (v, h')) (he : EnvRel B G w n e a.tmps) (hr : Rel B G h w) : Outc P B G h w o a v h' := by
  simp only [insC, hop] at hc
  split at hc
  · rename_i gc gx gy e1 e2 e3
    injection hc with hc; subst hc
    simp only [stepI] at hs
    split at hs
    · rename_i t et
      injection hs with hs
      injection hs with h1 h2; subst h1; subst h2
      have r1 := argC_rv he e1
      rw [et] at r1
      cases hb : a.eval c with
      | bool b =>
        rw [hb] at r1
        cases r1
        refine Outc.same hr (val := if t then a.eval x else a.eval y) ?_ ?_
        · cases t <;> simp [execOp, hop, hb, asBool]
        · cases t
          · exact argC_rv he e3
          · exact argC_rv he e2
      | _ => rw [hb] at r1; cases r1
    · cases hs
  · cases hc

theorem o_nilck {x : Operand} {i : Ins} (hop : o.op = .nilCheck x) (hc : insC P n o = some i) (hs : stepI i e h = some (v, h')) (he : EnvRel B G w n e a.tmps) (hr : Rel B G h w) : Outc P B G h w o a v h' := by
  simp only [insC, hop] at hc
  obtain ⟨g, hg, rfl⟩ := map_some hc
  have r := argC_rv he hg
  simp only [stepI] at hs
  split at hs
  all_goals (first | (cases hs; done) | skip)
  all_goals
    rename_i eg
    injection hs with hs
    injection hs with h1 h2; subst h1; subst h2
    rw [eg] at r
    refine Outc.same hr (val := a.eval x) ?_ r
    generalize hx : a.eval x = u at r ⊢
    cases r <;> simp [execOp, hop, hx]

theorem o_makeFunc {fn : Fn} {fs cs : Array Operand} {i : Ins} (hop : o.op = .makeFunc fn fs cs) (hc : insC P n o = some i) (hs : stepI i e h = some (v, h')) (he : EnvRel B G w n e a.tmps) (hr : Rel B G h w) : Outc P B G h w o a v h' := by
  cases fn with
  | func f =>
    simp only [insC, hop] at hc
    split at hc
    · rename_i h0
      obtain ⟨gs, hg, rfl⟩ := map_some hc
      simp [stepI] at hs
      obtain ⟨rfl, rfl⟩ := hs
      have r := argsC_rv he hg
      have hfs : fs = #[] := by simpa using h0
      subst hfs
      refine Outc.same hr (val := .func (.func f) #[] (cs.toList.map a.eval).toArray) ?_ (.fn r.1 r.2)
      simp [execOp, hop, Instr.makeFunc]
      cases cs; simp
    · cases hc
  | _ => simp [insC, hop] at hc

theorem o_extract {x : Operand} {k : Nat} {i : Ins} (hop : o.op = .extract x k) (hc : insC P n o = some i) (hs : stepI i e h = some (v, h')) (he : EnvRel B G w n e a.tmps) (hr : Rel B G h w) : Outc P B G h w o a v h' := by
  simp only [insC, hop] at hc
  obtain ⟨g, hg, rfl⟩ := map_some hc
  have r := argC_rv he hg
  simp only [stepI] at hs
  split at hs
  · rename_i vs eg
    obtain ⟨u, hu, h2⟩ := map_some hs
    injection h2 with h1 h2; subst h1; subst h2
    rw [eg] at r
    generalize hx : a.eval x = q at r
    cases r with
    | tup hl hrr =>
      rename_i us
      have hk : k < us.length := by rw [hl]; exact (List.getElem?_eq_some_iff.1 hu).1
      refine Outc.same hr (val := us[k]) ?_ (hrr k _ _ hu (List.getElem?_eq_getElem hk))
      simp [execOp, hop, Instr.extract, hx, hk]
  · cases hs

/-! ### Parts of structs and arrays -/

/-- A part of cells that are known, by value. -/
theorem part_run {t : TypeId} {g : Bool} {s off : Nat} (hg : aggT P t = some g) (hsz : sizeT P t = some s) {cs : List V} {vs : List Value} (hv : Rvs B G w cs vs) (h1 : ∀ c ∈ cs, oneC c)
    {x : V} (hp : part cs off s g = some x) : ∃ u, (Go.part t vs.toArray off).run P w = .ok u w ∧ Rv B G w x u := by
  unfold part at hp
  split at hp
  · rename_i hle
    cases g with
    | true =>
      simp at hp
      subst hp
      refine ⟨.agg ((vs.drop off).take s).toArray, ?_, .agg ?_ ?_ ?_⟩
      · simp [Go.part, run_aggT hg, run_sizeT hsz]
      · simp [hv.1]
      · intro c hc
        exact h1 c (List.mem_of_mem_drop (List.mem_of_mem_take hc))
      · intro k y u hy hu
        rw [List.getElem?_take] at hy hu
        split at hy <;> rename_i hk
        · rw [if_pos hk] at hu
          rw [List.getElem?_drop] at hy hu
          exact hv.2 _ _ _ hy hu
        · cases hy
    | false =>
      simp at hp
      obtain ⟨rfl, hx⟩ := hp
      have hk : off < vs.length := by rw [hv.1]; omega
      refine ⟨vs[off], ?_, hv.2 off x _ hx (List.getElem?_eq_getElem hk)⟩
      simp [Go.part, run_aggT hg, hk]
  · cases hp

theorem o_field {t : TypeId} {x : Operand} {k : Nat} {i : Ins} (hop : o.op = .field t x k) (hc : insC P n o = some i) (hs : stepI i e h = some (v, h')) (he : EnvRel B G w n e a.tmps) (hr : Rel B G h w) : Outc P B G h w o a v h' := by
  simp only [insC, hop] at hc
  split at hc <;> first | (cases hc; done) | skip
  rename_i fs hu
  split at hc <;> first | (cases hc; done) | skip
  rename_i fd hf
  split at hc <;> first | (cases hc; done) | skip
  rename_i g s gx e1 e2 e3
  injection hc with hc; subst hc
  have r := argC_rv he e3
  simp only [stepI] at hs
  split at hs
  · rename_i cs eg
    obtain ⟨u, hp, h2⟩ := map_some hs
    injection h2 with h1 h2; subst h1; subst h2
    rw [eg] at r
    generalize hx : a.eval x = q at r
    cases r with
    | agg hl h1 hrr =>
      obtain ⟨u', hu', hr'⟩ := part_run e1 e2 (w := w) ⟨hl, hrr⟩ h1 hp
      refine Outc.same hr (val := u') ?_ hr'
      simp [execOp, hop, Instr.field, run_underlying hu, hf, hx, asAgg, hu']
  · cases hs

theorem o_index {t : TypeId} {x j : Operand} {i : Ins} (hop : o.op = .index t x j) (hc : insC P n o = some i) (hs : stepI i e h = some (v, h')) (he : EnvRel B G w n e a.tmps) (hr : Rel B G h w) : Outc P B G h w o a v h' := by
  simp only [insC, hop] at hc
  split at hc <;> first | (cases hc; done) | skip
  rename_i gx gj e1 e2
  have r1 := argC_rv he e1
  have r2 := argC_rv he e2
  split at hc <;> first | (cases hc; done) | skip
  · rename_i hu
    injection hc with hc; subst hc
    simp only [stepI] at hs
    split at hs <;> first | (cases hs; done) | skip
    rename_i s kk m es ej
    split at hs
    · cases hs
    · rename_i hm
      obtain ⟨b, hb, h2⟩ := map_some hs
      injection h2 with h1 h2; subst h1; subst h2
      rw [es] at r1; rw [ej] at r2
      generalize hx : a.eval x = q at r1
      generalize hy : a.eval j = q2 at r2
      cases r1; cases r2
      have hk : m.toNat < s.length := (List.getElem?_eq_some_iff.1 hb).1
      refine Outc.same hr (val := .int .u8 b.toNat) ?_ (.int _ _)
      have hb' : (⟨s.toArray⟩ : ByteArray)[m.toNat]? = some b := by
        rw [getElem?_pos (⟨s.toArray⟩ : ByteArray) m.toNat (by simpa [ByteArray.size] using hk)]
        have := List.getElem?_eq_some_iff.1 hb
        obtain ⟨_, h3⟩ := this
        simp [ByteArray.getElem_eq_getElem_data, h3]
      simp [execOp, hop, Instr.index, run_underlying hu, hx, hy, asIntOf, show (0 : Int) ≤ m by omega, hb']
  · rename_i k et hu
    split at hc <;> first | (cases hc; done) | skip
    rename_i g s e3 e4
    injection hc with hc; subst hc
    simp only [stepI] at hs
    split at hs <;> first | (cases hs; done) | skip
    rename_i kk m ej
    split at hs <;> first | (cases hs; done) | skip
    rename_i hm
    split at hs <;> first | (cases hs; done) | skip
    rename_i cs ec
    obtain ⟨u, hp, h2⟩ := map_some hs
    injection h2 with h1 h2; subst h1; subst h2
    rw [ec] at r1; rw [ej] at r2
    generalize hx : a.eval x = q at r1
    generalize hy : a.eval j = q2 at r2
    cases r2
    cases r1 with
    | agg hl h1 hrr =>
      obtain ⟨u', hu', hr'⟩ := part_run e3 e4 (w := w) ⟨hl, hrr⟩ h1 hp
      refine Outc.same hr (val := u') ?_ hr'
      simp [execOp, hop, Instr.index, run_underlying hu, hx, hy, asIntOf, hm, run_sizeT e4, hu']

/-! ### Addresses -/

theorem o_fieldAddr {t : TypeId} {x : Operand} {k : Nat} {i : Ins} (hop : o.op = .fieldAddr t x k) (hc : insC P n o = some i) (hs : stepI i e h = some (v, h')) (he : EnvRel B G w n e a.tmps) (hr : Rel B G h w) : Outc P B G h w o a v h' := by
  simp only [insC, hop] at hc
  split at hc <;> first | (cases hc; done) | skip
  rename_i fs hu
  split at hc <;> first | (cases hc; done) | skip
  rename_i fd hf
  split at hc <;> first | (cases hc; done) | skip
  rename_i s gx e2 e3
  split at hc
  · cases hc
  rename_i hs0
  injection hc with hc; subst hc
  have r := argC_rv he e3
  simp only [stepI] at hs
  split at hs <;> first | (cases hs; done) | skip
  · rename_i id off eg
    injection hs with hs
    injection hs with h1 h2; subst h1; subst h2
    rw [eg] at r
    generalize hx : a.eval x = q at r
    cases r with
    | ptr hb =>
      refine Outc.same hr ?_ (.ptr hb)
      simp [execOp, hop, Instr.fieldAt, run_underlying hu, hf, hx, Instr.sureAddr, fieldPlace, run_sizeT e2, hs0, add_at]
  · rename_i cs eg
    injection hs with hs
    injection hs with h1 h2; subst h1; subst h2
    rw [eg] at r
    generalize hx : a.eval x = q at r
    cases r with
    | iptr vs hcc h1 hrr =>
      rename_i b off
      refine Outc.same hr (val := .pointer (some ⟨b, off + fd.offset, none⟩)) ?_ (.iptr (fun k => vs (k + fd.offset)) ?_ ?_ ?_)
      · simp [execOp, hop, Instr.fieldAt, run_underlying hu, hf, hx, Instr.sureAddr, fieldPlace, run_sizeT e2, hs0, add_at]
      · intro k hk
        have := hcc (k + fd.offset) (by simp at hk; omega)
        rwa [show off + (k + fd.offset) = off + fd.offset + k by omega] at this
      · exact fun c hc => h1 c (List.mem_of_mem_drop hc)
      · intro k y hy
        rw [List.getElem?_drop, Nat.add_comm] at hy
        exact hrr _ _ hy

theorem o_indexAddr {t : TypeId} {x j : Operand} {i : Ins} (hop : o.op = .indexAddr t x j) (hc : insC P n o = some i) (hs : stepI i e h = some (v, h')) (he : EnvRel B G w n e a.tmps) (hr : Rel B G h w) : Outc P B G h w o a v h' := by
  simp only [insC, hop] at hc
  split at hc <;> first | (cases hc; done) | skip
  rename_i gx gj e1 e2
  have r1 := argC_rv he e1
  have r2 := argC_rv he e2
  split at hc <;> first | (cases hc; done) | skip
  · rename_i et hu
    split at hc <;> first | (cases hc; done) | skip
    rename_i s e3
    split at hc <;> first | (cases hc; done) | skip
    rename_i hs0
    injection hc with hc; subst hc
    simp only [stepI] at hs
    split at hs <;> first | (cases hs; done) | skip
    rename_i kk m ej
    split at hs
    · cases hs
    rename_i hm
    rw [ej] at r2
    generalize hy : a.eval j = q2 at r2
    cases r2
    split at hs <;> first | (cases hs; done) | skip
    · rename_i s' own es ex
      split at hs <;> first | (cases hs; done) | skip
      rename_i hss
      subst hss
      obtain ⟨el, hel, h2⟩ := map_some hs
      injection h2 with h1 h2; subst h1; subst h2
      rw [ex] at r1
      generalize hx : a.eval x = q at r1
      cases r1 with
      | sl vs hsz hsp hcap hcc h1 hrr hfull htip =>
        rename_i ad cap
        have hk := (List.getElem?_eq_some_iff.1 hel).1
        have hmem : el ∈ es := List.mem_of_getElem? hel
        have hspot : ad.spot = none := hsp (by rintro rfl; simp at hk)
        have had : ad = ⟨ad.block, ad.off, none⟩ := by cases ad; simp_all
        have hfl : ∀ k, k < (cells el).length → (flat es)[m.toNat * s' + k]? = (cells el)[k]? := fun k hk' => flat_get hsz hel hk'
        refine Outc.same hr (val := .pointer (some ⟨ad.block, ad.off + m.toNat * s', none⟩)) ?_ (.iptr (fun k => vs (m.toNat * s' + k)) ?_ ?_ ?_)
        · have hm2 : m < (es.length : Int) := by omega
          simp [execOp, hop, Instr.indexAt, run_underlying hu, hx, hy, asIntOf, show (0 : Int) ≤ m by omega, hm2, run_sizeT e3]
          rw [had, add_at]
        · intro k hk'
          have h3 := hfl k hk'
          have h4 : m.toNat * s' + k < (flat es).length := (List.getElem?_eq_some_iff.1 (h3.trans (List.getElem?_eq_getElem hk'))).1
          have := hcc _ h4
          rwa [← Nat.add_assoc] at this
        · exact fun c hc => h1 c (mem_flat hmem c hc)
        · intro k y hy'
          have hk' := (List.getElem?_eq_some_iff.1 hy').1
          exact hrr _ _ ((hfl k hk').trans hy')
    · rename_i s' id len ex
      split at hs <;> first | (cases hs; done) | skip
      rename_i hss
      obtain ⟨rfl, hlen⟩ := hss
      injection hs with hs
      injection hs with h1 h2; subst h1; subst h2
      rw [ex] at r1
      generalize hx : a.eval x = q at r1
      cases r1 with
      | hsl hb hl hn =>
        refine Outc.same hr ?_ (.ptr (off := m.toNat * s') hb)
        have hm2 : m < (len : Int) := by omega
        simp [execOp, hop, Instr.indexAt, run_underlying hu, hx, hy, asIntOf, show (0 : Int) ≤ m by omega, hm2, run_sizeT e3, add_at]
  · rename_i k et hu
    split at hc <;> first | (cases hc; done) | skip
    rename_i s e3
    split at hc <;> first | (cases hc; done) | skip
    rename_i hs0
    injection hc with hc; subst hc
    simp only [stepI] at hs
    split at hs <;> first | (cases hs; done) | skip
    rename_i kk m ej
    split at hs <;> first | (cases hs; done) | skip
    rename_i hm
    rw [ej] at r2
    generalize hy : a.eval j = q2 at r2
    cases r2
    split at hs <;> first | (cases hs; done) | skip
    · rename_i id off ex
      injection hs with hs
      injection hs with h1 h2; subst h1; subst h2
      rw [ex] at r1
      generalize hx : a.eval x = q at r1
      cases r1 with
      | ptr hb =>
        refine Outc.same hr ?_ (.ptr (off := off + m.toNat * s) hb)
        simp [execOp, hop, Instr.indexAt, run_underlying hu, hx, hy, asIntOf, hm, run_sizeT e3, add_at, Instr.sureAddr]
    · rename_i cs ex
      injection hs with hs
      injection hs with h1 h2; subst h1; subst h2
      rw [ex] at r1
      generalize hx : a.eval x = q at r1
      cases r1 with
      | iptr vs hcc h1 hrr =>
        rename_i b off
        refine Outc.same hr (val := .pointer (some ⟨b, off + m.toNat * s, none⟩)) ?_ (.iptr (fun k => vs (k + m.toNat * s)) ?_ ?_ ?_)
        · simp [execOp, hop, Instr.indexAt, run_underlying hu, hx, hy, asIntOf, hm, run_sizeT e3, add_at, Instr.sureAddr]
        · intro k hk
          have := hcc (k + m.toNat * s) (by simp at hk; omega)
          rwa [show off + (k + m.toNat * s) = off + m.toNat * s + k by omega] at this
        · exact fun c hc => h1 c (List.mem_of_mem_drop hc)
        · intro k y hy
          rw [List.getElem?_drop, Nat.add_comm] at hy
          exact hrr _ _ hy

end
end Go.Vm
