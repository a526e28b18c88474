/- Loads, lookups, len, min, max, conversions of numbers. -/
import Derived.Test.YtfihnnebffkbfaaDoorVmInsC
namespace Go.Vm
set_option linter.unusedVariables false
set_option linter.unusedSimpArgs false

section
variable {P : Program} {B : Nat} {G : Gh} {h h' : Heap} {w : World} {n : Nat} {e : Env} {a : Act} {o : Oper} {v : V}

theorem Row.at {b n : Nat} {cs : List V} (hrow : Row B G w b n cs) {k : Nat} {x : V} (hx : cs[k]? = some x) : ∃ v, at? w b k = some v ∧ Rv B G w x v ∧ oneC x := by
  obtain ⟨arr, T, fz, h1, h2, h3, h4, h5, h6⟩ := hrow.out
  obtain ⟨v, hv, hr⟩ := h6 k x hx
  exact ⟨v, by simp [at?, World.cell?, h1, hv], hr, h5 x (List.mem_of_getElem? hx)⟩

/-- Cells that are known one by one, as a list. -/
theorem gather {b o : Nat} : ∀ {cs : List V}, (∀ k x, cs[k]? = some x → ∃ v, at? w b (o + k) = some v ∧ Rv B G w x v) →
    ∃ vs, Rvs B G w cs vs ∧ ∀ (k : Nat) (v : Value), vs[k]? = some v → at? w b (o + k) = some v
  | cs, hk => by
    refine ⟨(List.range cs.length).map fun k => (at? w b (o + k)).getD undef, ⟨by simp, fun k x v hx hv => ?_⟩, fun k v hv => ?_⟩
    · obtain ⟨u, hu, hr⟩ := hk k x hx
      have hlt := (List.getElem?_eq_some_iff.1 hx).1
      simp [hlt, hu] at hv
      subst hv; exact hr
    · rw [List.getElem?_map] at hv
      by_cases hlt : k < cs.length
      · obtain ⟨u, hu, hr⟩ := hk k _ (List.getElem?_eq_getElem hlt)
        simp [hlt, hu] at hv
        subst hv; exact hu
      · simp [hlt] at hv

theorem part_of {cs : List V} {off s : Nat} {g : Bool} {x : V} (hp : part cs off s g = some x) :
    off + s ≤ cs.length ∧ (g = true → x = .agg ((cs.drop off).take s)) ∧ (g = false → s = 1 ∧ (cs.drop off).take s = [x]) := by
  unfold part at hp
  split at hp <;> first | (cases hp; done) | skip
  rename_i hle
  refine ⟨hle, fun hg => ?_, fun hg => ?_⟩
  · subst hg; simpa using hp.symm
  · subst hg
    simp at hp
    obtain ⟨rfl, hx⟩ := hp
    refine ⟨rfl, ?_⟩
    apply List.ext_getElem?
    intro k
    cases k with
    | zero => rw [List.getElem?_take, if_pos (by omega), List.getElem?_drop]; simpa using hx
    | succ k => rw [List.getElem?_take, if_neg (by omega)]; simp

/-- A load of cells that are known. -/
theorem load_known {t : TypeId} {g : Bool} {s : Nat} (hg : aggT P t = some g) (hs : sizeT P t = some s) {b o : Nat} {cs : List V} {off : Nat} {x : V}
    (hk : ∀ k y, cs[k]? = some y → ∃ v, at? w b (o + k) = some v ∧ Rv B G w y v ∧ oneC y) (hp : part cs off s g = some x) :
    ∃ u, (loadVar t ⟨b, o + off, none⟩).run P w = .ok u w ∧ Rv B G w x u := by
  obtain ⟨hle, hg1, hg2⟩ := part_of hp
  have hk' : ∀ k y, ((cs.drop off).take s)[k]? = some y → ∃ v, at? w b (o + off + k) = some v ∧ Rv B G w y v := by
    intro k y hy
    rw [List.getElem?_take] at hy
    split at hy
    · rw [List.getElem?_drop] at hy
      obtain ⟨v, h1, h2, _⟩ := hk _ y hy
      exact ⟨v, by rw [Nat.add_assoc]; exact h1, h2⟩
    · cases hy
  obtain ⟨vs, hv, hat⟩ := gather hk'
  have hlen : vs.length = s := by rw [hv.1]; simp; omega
  obtain ⟨u, hu, hu1, hu2⟩ := run_load hg hs w b (o + off) vs hlen (fun hf => (hg2 hf).1) hat
  refine ⟨u, hu, ?_⟩
  cases g with
  | true =>
    rw [hg1 rfl, hu1 rfl]
    refine .agg hv.1 (fun c hc => ?_) hv.2
    obtain ⟨k, hk1, rfl⟩ := List.mem_iff_getElem.1 (List.mem_of_mem_drop (List.mem_of_mem_take hc))
    exact (hk k _ (List.getElem?_eq_getElem hk1)).elim fun _ h => h.2.2
  | false =>
    have h1 := (hg2 rfl).2
    have h2 := hu2 rfl
    rw [h1, h2] at hv
    exact hv.2 0 x u rfl rfl

theorem loadV_run {t : TypeId} {g : Bool} {s : Nat} (hg : aggT P t = some g) (hs : sizeT P t = some s) (hr : Rel B G h w) {x y : V} {u : Value} (hl : loadV h g s x = some y) (hx : Rv B G w x u) :
    ∃ ad z, u = .pointer (some ad) ∧ (loadVar t ad).run P w = .ok z w ∧ Rv B G w y z := by
  unfold loadV at hl
  split at hl <;> first | (cases hl; done) | skip
  · rename_i id off
    split at hl <;> first | (cases hl; done) | skip
    rename_i cs ho
    cases hx with
    | ptr hb =>
      rename_i b nn
      have hrow := hr.obj id _ ho b nn hb
      obtain ⟨z, hz, hrz⟩ := load_known (P := P) (w := w) (b := b) (o := 0) hg hs (fun k y hy => by rw [Nat.zero_add]; exact hrow.at hy) hl
      exact ⟨_, z, rfl, by simpa using hz, hrz⟩
  · rename_i cs
    cases hx with
    | iptr vs hc h1 hrr =>
      rename_i b off
      obtain ⟨z, hz, hrz⟩ := load_known (P := P) (w := w) (b := b) (o := off) hg hs (fun k y hy => ⟨_, (hc k (List.getElem?_eq_some_iff.1 hy).1).2, hrr k y hy, h1 y (List.mem_of_getElem? hy)⟩) hl
      exact ⟨_, z, rfl, by simpa using hz, hrz⟩

theorem o_load {t : TypeId} {x : Operand} {i : Ins} (hop : o.op = .load t x) (hc : insC P n o = some i) (hs : stepI i e h = some (v, h')) (he : EnvRel B G w n e a.tmps) (hr : Rel B G h w) : Outc P B G h w o a v h' := by
  simp only [insC, hop] at hc
  split at hc <;> first | (cases hc; done) | skip
  rename_i g s gx e1 e2 e3
  injection hc with hc; subst hc
  simp only [stepI] at hs
  obtain ⟨u, hu, h2⟩ := map_some hs
  injection h2 with h1 h2; subst h1; subst h2
  obtain ⟨ad, z, hx, hz, hrz⟩ := loadV_run e1 e2 hr hu (argC_rv he e3)
  refine Outc.same hr (val := z) ?_ hrz
  simp [execOp, hop, Instr.loadAt, hx, Instr.sureAddr, hz]

theorem o_convert {t u : TypeId} {x : Operand} {i : Ins} (hop : o.op = .convert t u x) (hc : insC P n o = some i) (hs : stepI i e h = some (v, h')) (he : EnvRel B G w n e a.tmps) (hr : Rel B G h w)
    (hq1 : ∀ g, i ≠ .toStr g) (hq2 : ∀ g, i ≠ .toBytes g) (hq3 : ∀ g, i ≠ .mark g) : Outc P B G h w o a v h' := by
  simp only [insC, hop] at hc
  split at hc <;> first | (cases hc; done) | skip
  · rename_i k1 k gx e1 e2 e3
    injection hc with hc; subst hc
    have r := argC_rv he e3
    simp only [stepI] at hs
    split at hs <;> first | (cases hs; done) | skip
    rename_i kk m em
    injection hs with hs
    injection hs with h1 h2; subst h1; subst h2
    rw [em] at r
    generalize hx : a.eval x = q at r
    cases r
    exact Outc.same hr (by simp [execOp, hop, hx, convert, run_underlying e1, run_underlying e2, Conv.intToInt]) (.int _ _)
  · rename_i gx e1 e2 e3
    injection hc with hc; subst hc
    have r := argC_rv he e3
    simp only [stepI] at hs
    split at hs <;> first | (cases hs; done) | skip
    rename_i s es
    injection hs with hs
    injection hs with h1 h2; subst h1; subst h2
    rw [es] at r
    generalize hx : a.eval x = q at r
    cases r
    exact Outc.same hr (val := .string ⟨s.toArray⟩) (by simp [execOp, hop, hx, convert, run_underlying e1, run_underlying e2]) (.str _)
  · split at hc <;> first | (cases hc; done) | skip
    injection hc with hc; exact absurd hc.symm (hq1 _)
  · split at hc <;> first | (cases hc; done) | skip
    injection hc with hc; exact absurd hc.symm (hq2 _)
  · split at hc <;> first | (cases hc; done) | skip
    split at hc <;> first | (cases hc; done) | skip
    injection hc with hc; exact absurd hc.symm (hq3 _)

/-! ### Maps: reading -/

theorem findNow_run {c : LK} {kind : TypeDesc} (hk : (c = .i ∧ ∃ kk, kind = .int kk) ∨ (c = .s ∧ kind = .string)) {k : V} {kv : Value} (rk : Rv B G w k kv) :
    ∀ {es : List (V × V)} {l : List MapEntry} {i : Nat} {r : Option (Nat × V)}, Ents B G w es l → findE c k es i = some r →
      ∃ r', Instr.findNow kind kv l i = some r' ∧ (match r, r' with
        | none, none => True
        | some (j, x), some (j', y) => j = j' ∧ Rv B G w x y ∧ i ≤ j ∧ ∃ p, es[j - i]? = some p ∧ p.2 = x ∧ eqLeaf c k p.1 = some true
        | _, _ => False)
  | [], l, i, r, hE, hf => by
    simp [findE] at hf; subst hf
    have : l = [] := by have := hE.1; simpa using this
    subst this
    exact ⟨none, rfl, trivial⟩
  | x :: es, l, i, r, hE, hf => by
    cases l with
    | nil => have := hE.1; simp at this
    | cons y l =>
      simp only [findE] at hf
      have h0 := hE.2 0 x y rfl rfl
      cases e1 : eqLeaf c k x.1 with
      | none => simp [e1] at hf
      | some b =>
        simp only [e1, Option.bind_some] at hf
        have hsame : Instr.sameNow kind kv y.key = some b := by
          have r2 := h0.1
          rcases hk with ⟨rfl, kk, rfl⟩ | ⟨rfl, rfl⟩
          · unfold eqLeaf at e1
            split at e1 <;> first | (cases e1; done) | skip
            all_goals (first | contradiction | skip)
            rename_i q1 q2 q3 q4 hq
            split at e1 <;> first | (cases e1; done) | skip
            rename_i hkk
            subst hkk
            rw [hq] at r2
            cases rk
            generalize y.key = z at r2
            cases r2
            simp at e1; subst e1
            simp only [Instr.sameNow, if_true]
            congr 1
          · unfold eqLeaf at e1
            split at e1 <;> first | (cases e1; done) | skip
            all_goals (first | contradiction | skip)
            rename_i q1 q2 hq
            rw [hq] at r2
            cases rk
            generalize y.key = z at r2
            cases r2
            simp at e1; subst e1
            simp only [Instr.sameNow]
            congr 1
            rw [beq_toListBytes, bytes_toList, bytes_toList]
        cases b with
        | true =>
          simp at hf; subst hf
          exact ⟨some (i, y.val), by simp [Instr.findNow, hsame], rfl, h0.2, Nat.le_refl _, x, by simp, rfl, e1⟩
        | false =>
          simp at hf
          have hE' : Ents B G w es l := ⟨by have := hE.1; simpa using this, fun k p q hp hq => hE.2 (k + 1) p q hp hq⟩
          obtain ⟨r', h1, h2⟩ := findNow_run hk rk hE' hf
          refine ⟨r', by simp [Instr.findNow, hsame, h1], ?_⟩
          cases r with
          | none => cases r' with
            | none => trivial
            | some q => exact h2.elim
          | some p => cases r' with
            | none => exact h2.elim
            | some q =>
              obtain ⟨a1, a2, a3, p', a4, a5, a6⟩ := h2
              refine ⟨a1, a2, by omega, p', ?_, a5, a6⟩
              rw [show p.1 - i = (p.1 - (i + 1)) + 1 by omega]
              simpa using a4

theorem checkKey_run {c : LK} {kt : TypeId} (hk : (c = .i ∧ ∃ kk, P.underlying kt = some (.int kk)) ∨ (c = .s ∧ P.underlying kt = some .string)) {k : V} {kv : Value} (rk : Rv B G w k kv) {es : List (V × V)} {i : Nat} {r : Option (Nat × V)}
    (b : Bool) (d : Nat) : (Instr.checkKey b (d + 1) kt kv).run P w = .ok () w := by
  rcases hk with ⟨rfl, kk, hu⟩ | ⟨rfl, hu⟩ <;> cases rk <;> simp [Instr.checkKey, run_underlying hu]

theorem o_lookup {t : TypeId} {m k : Operand} {ok : Bool} {i : Ins} (hop : o.op = .lookup t m k ok) (hc : insC P n o = some i) (hs : stepI i e h = some (v, h')) (he : EnvRel B G w n e a.tmps) (hr : Rel B G h w) : Outc P B G h w o a v h' := by
  simp only [insC, hop] at hc
  split at hc <;> first | (cases hc; done) | skip
  rename_i kt el hu
  have main : ∀ {c : LK} {z : Value} {zv : V} {gm gk : Arg}, ((c = .i ∧ ∃ kk, P.underlying kt = some (.int kk)) ∨ (c = .s ∧ P.underlying kt = some .string)) → (P.info? el).bind (·.zero) = some z → ofConst z = some zv → argC n m = some gm → argC n k = some gk →
      i = .lookup c zv ok gm gk → Outc P B G h w o a v h' := by
    intro c z zv gm gk hk hz hzv e1 e2 hi
    subst hi
    have r1 := argC_rv he e1
    have r2 := argC_rv he e2
    have hzr : (zeroValue el).run P w = .ok z w := by
      cases ei : P.info? el with
      | none => simp [ei] at hz
      | some inf => simp [ei] at hz; simp [zeroValue, run_info ei, hz]
    have rz : Rv B G w zv z := ofConst_rv hzv
    have tupR : ∀ {x : V} {y : Value} {b : Bool}, Rv B G w x y → Rv B G w (.tup [x, .bool b]) (.tuple #[y, .bool b]) := by
      intro x y b hxy
      have hh := rvs_cons hxy (rvs_cons (.bool b) rvs_nil)
      exact .tup hh.1 hh.2
    generalize hm : a.eval m = qm at r1
    generalize hkk : a.eval k = qk at r2
    have ck : ∀ b, (Instr.checkKey b 10000 kt qk).run P w = .ok () w := fun b => checkKey_run (es := []) (i := 0) (r := none) hk r2 b 9999
    have fin : ∀ {x : V} {y : Value} (b : Bool), Rv B G w x y → v = (if ok then .tup [x, .bool b] else x) → h' = h → (∀ (z : Value), z = (if ok then .tuple #[y, .bool b] else y) → (execOp a.eval o).run P w = .ok (.value z) w) → Outc P B G h w o a v h' := by
      intro x y b hxy hv hh hrun
      subst hh; subst hv
      refine Outc.same hr (hrun _ rfl) ?_
      cases ok
      · exact hxy
      · exact tupR hxy
    have und : ∃ kind, P.underlying kt = some kind ∧ ((c = .i ∧ ∃ kk, kind = .int kk) ∨ (c = .s ∧ kind = .string)) := by
      rcases hk with ⟨rfl, kk, hu'⟩ | ⟨rfl, hu'⟩
      · exact ⟨_, hu', .inl ⟨rfl, kk, rfl⟩⟩
      · exact ⟨_, hu', .inr ⟨rfl, rfl⟩⟩
    obtain ⟨kind, hkind, hkc⟩ := und
    simp only [stepI] at hs
    split at hs <;> first | (cases hs; done) | skip
    · rename_i em
      injection hs with hs
      injection hs with h1 h2
      rw [em] at r1
      cases r1
      refine fin false rz (by rw [← h1]) h2.symm fun zz hzz => ?_
      subst hzz
      simp [execOp, hop, Instr.lookup, run_underlying hu, hm, hkk, ck, Instr.findKey, run_underlying hkind, Instr.findNow, hzr]
    · rename_i id em
      split at hs <;> first | (cases hs; done) | skip
      rename_i es ho
      obtain ⟨r, hf, h2⟩ := map_some hs
      rw [em] at r1
      cases r1 with
      | map hb =>
        rename_i b nn
        obtain ⟨l, clock, hl, hE⟩ := hr.obj id _ ho b nn hb
        obtain ⟨r', hr1, hr2⟩ := findNow_run hkc r2 hE hf
        have hgo : (getObj b).run P w = .ok (.map l clock) w := by simp [getObj, Sem.run, hl]
        cases r with
        | none =>
          cases r' with
          | some q => exact hr2.elim
          | none =>
            injection h2 with h3 h4
            refine fin false rz (by rw [← h3]) h4.symm fun zz hzz => ?_
            subst hzz
            simp [execOp, hop, Instr.lookup, run_underlying hu, hm, hkk, ck, Instr.findKey, run_underlying hkind, hzr, hgo, hr1]
        | some p =>
          cases r' with
          | none => exact hr2.elim
          | some q =>
            obtain ⟨p1, p2⟩ := p
            obtain ⟨q1, q2⟩ := q
            injection h2 with h3 h4
            refine fin true hr2.2.1 (by rw [← h3]) h4.symm fun zz hzz => ?_
            subst hzz
            simp [execOp, hop, Instr.lookup, run_underlying hu, hm, hkk, ck, Instr.findKey, run_underlying hkind, hzr, hgo, hr1]
  split at hc <;> first | (cases hc; done) | skip
  · rename_i hu' hz e1 e2
    obtain ⟨zv, hzv, hi⟩ := map_some hc
    exact main (.inr ⟨rfl, hu'⟩) hz hzv e1 e2 hi.symm
  · rename_i hu' hz e1 e2
    obtain ⟨zv, hzv, hi⟩ := map_some hc
    exact main (.inl ⟨rfl, _, hu'⟩) hz hzv e1 e2 hi.symm

/-! ### len, min, max -/

theorem run_bi {c : Call} {b : Builtin} (hop : o.op = .call c) (hb : c.callee = .builtin b) :
    ∃ cs, (execOp a.eval o).run P w = (builtin b c.argTypes o.type cs (c.args.map a.eval)).run P w :=
  ⟨_, by simp [execOp, hop, resolve, hb, invoke]; rfl⟩

theorem toList_one {α : Type} {x : Array α} {y : α} (h : x.toList = [y]) : x = #[y] := by
  apply Array.ext'; simpa using h
theorem toList_two {α : Type} {x : Array α} {y z : α} (h : x.toList = [y, z]) : x = #[y, z] := by
  apply Array.ext'; simpa using h

theorem o_len {c : Call} {i : Ins} (hop : o.op = .call c) (hb : c.callee = .builtin .len) (hc : insC P n o = some i) (hs : stepI i e h = some (v, h')) (he : EnvRel B G w n e a.tmps) (hr : Rel B G h w) : Outc P B G h w o a v h' := by
  simp only [insC, hop, callC, hb] at hc
  split at hc <;> first | (cases hc; done) | skip
  all_goals (first | contradiction | skip)
  rename_i x t hbb e1 e2
  have ha := toList_one e1
  have ht := toList_one e2
  have hrun : ∀ k : Int, (Builtin.len_ #[t] o.type #[a.eval x]).run P w = .ok (.int .i64 k) w → (execOp a.eval o).run P w = .ok (.value (.int .i64 k)) w := by
    intro k hk
    obtain ⟨cs, hcs⟩ := run_bi (P := P) (w := w) (a := a) hop hb
    rw [hcs, ha, ht]
    simp [builtin, hk]
  have arr : ∀ {k : Nat}, i = .lenArr k → (Builtin.len_ #[t] o.type #[a.eval x]).run P w = .ok (.int .i64 k) w → Outc P B G h w o a v h' := by
    rintro k rfl hx
    simp [stepI] at hs
    obtain ⟨rfl, rfl⟩ := hs
    exact Outc.same hr (hrun _ hx) (.int _ _)
  have main : ∀ {gx : Arg} {k : Nat}, argC n x = some gx → i = .len k gx → ((k = 0 ∧ P.underlying t = some .string) ∨ (k = 1 ∧ ∃ el, P.underlying t = some (.slice el)) ∨ (k = 2 ∧ ∃ q el, P.underlying t = some (.map q el))) → Outc P B G h w o a v h' := by
    rintro gx k e3 rfl hu
    have r := argC_rv he e3
    have fin : ∀ m : Int, v = .int .i64 m → h' = h → (Builtin.len_ #[t] o.type #[a.eval x]).run P w = .ok (.int .i64 m) w → Outc P B G h w o a v h' := by
      rintro m rfl rfl hx
      exact Outc.same hr (hrun _ hx) (.int _ _)
    simp only [stepI] at hs
    generalize hx : a.eval x = q at r fin
    split at hs <;> first | (cases hs; done) | skip
    · rename_i s es
      injection hs with hs
      injection hs with h1 h2
      rw [es] at r
      cases r
      have hu' := hu.resolve_right (by rintro (⟨hh, _⟩ | ⟨hh, _⟩) <;> cases hh)
      exact fin _ h1.symm h2.symm (by rw [show (s.length : Int) = ((⟨s.toArray⟩ : ByteArray).size : Int) by simp [ByteArray.size]]; simp [Builtin.len_, run_underlying hu'.2, goInt])
    · rename_i es
      injection hs with hs
      injection hs with h1 h2
      rw [es] at r
      cases r
      obtain ⟨_, el, hu'⟩ := (hu.resolve_left (by rintro ⟨hh, _⟩; cases hh)).resolve_right (by rintro ⟨hh, _⟩; cases hh)
      exact fin _ h1.symm h2.symm (by simp [Builtin.len_, run_underlying hu', goInt])
    · rename_i sz own es ex
      injection hs with hs
      injection hs with h1 h2
      rw [ex] at r
      cases r
      obtain ⟨_, el, hu'⟩ := (hu.resolve_left (by rintro ⟨hh, _⟩; cases hh)).resolve_right (by rintro ⟨hh, _⟩; cases hh)
      exact fin _ h1.symm h2.symm (by simp [Builtin.len_, run_underlying hu', goInt])
    · rename_i sz id len ex
      injection hs with hs
      injection hs with h1 h2
      rw [ex] at r
      cases r
      obtain ⟨_, el, hu'⟩ := (hu.resolve_left (by rintro ⟨hh, _⟩; cases hh)).resolve_right (by rintro ⟨hh, _⟩; cases hh)
      exact fin _ h1.symm h2.symm (by simp [Builtin.len_, run_underlying hu', goInt])
    · rename_i es
      injection hs with hs
      injection hs with h1 h2
      rw [es] at r
      cases r
      obtain ⟨_, q, el, hu'⟩ := (hu.resolve_left (by rintro ⟨hh, _⟩; cases hh)).resolve_left (by rintro ⟨hh, _⟩; cases hh)
      exact fin _ h1.symm h2.symm (by simp [Builtin.len_, run_underlying hu', goInt])
    · rename_i id ex
      split at hs <;> first | (cases hs; done) | skip
      rename_i es ho
      injection hs with hs
      injection hs with h1 h2
      rw [ex] at r
      cases r with
      | map hb =>
        rename_i b nn
        obtain ⟨l, clock, hl, hE⟩ := hr.obj id _ ho b nn hb
        have hgo : (getObj b).run P w = .ok (.map l clock) w := by simp [getObj, Sem.run, hl]
        obtain ⟨_, q, el, hu'⟩ := (hu.resolve_left (by rintro ⟨hh, _⟩; cases hh)).resolve_left (by rintro ⟨hh, _⟩; cases hh)
        have hlen : l.size = es.length := by have := hE.1; simpa using this
        exact fin _ h1.symm h2.symm (by simp [Builtin.len_, run_underlying hu', goInt, hgo, hlen])
  split at hc <;> first | (cases hc; done) | skip
  · rename_i hu
    obtain ⟨gx, e3, hi⟩ := map_some hc
    exact main e3 hi.symm (.inl ⟨rfl, hu⟩)
  · rename_i el hu
    obtain ⟨gx, e3, hi⟩ := map_some hc
    exact main e3 hi.symm (.inr (.inl ⟨rfl, el, hu⟩))
  · rename_i k el hu
    obtain ⟨gx, e3, hi⟩ := map_some hc
    exact main e3 hi.symm (.inr (.inr ⟨rfl, k, el, hu⟩))
  · rename_i k el hu
    injection hc with hc
    exact arr hc.symm (by simp [Builtin.len_, run_underlying hu, goInt])
  · rename_i el hu
    split at hc <;> first | (cases hc; done) | skip
    rename_i k el' hu'
    injection hc with hc
    exact arr hc.symm (by simp [Builtin.len_, run_underlying hu, run_underlying hu', goInt])

theorem mnV_run : ∀ {xs : List V} {vs : List Value} {x : V}, mnV xs = some x → Rvs B G w xs vs → ∃ u, (Builtin.min_ #[] 0 vs.toArray).run P w = .ok u w ∧ Rv B G w x u := by
  have key : ∀ (r : List V) (rv : List Value) (k : IntKind) (m : Int) {x : V}, mnV (.int k m :: r) = some x → Rvs B G w r rv → ∃ u, (rv.foldlM Builtin.min2 (.int k m)).run P w = .ok u w ∧ Rv B G w x u := by
    intro r
    induction r with
    | nil =>
      intro rv k m x hx hv
      have : rv = [] := by have := hv.1; simpa using this
      subst this
      simp [mnV] at hx; subst hx
      exact ⟨_, by simp, .int _ _⟩
    | cons y r ih =>
      intro rv k m x hx hv
      cases rv with
      | nil => have := hv.1; simp at this
      | cons u rv =>
        have r0 := hv.2 0 y u rfl rfl
        have hv' : Rvs B G w r rv := ⟨by have := hv.1; simpa using this, fun k p q hp hq => hv.2 (k + 1) p q hp hq⟩
        cases y <;> (try (simp [mnV] at hx; done))
        rename_i k' m'
        cases r0
        simp only [mnV] at hx
        obtain ⟨z, hz, hrz⟩ := ih rv k _ hx hv'
        exact ⟨z, by simp [List.foldlM_cons, Builtin.min2, hz], hrz⟩
  intro xs vs x hx hv
  cases xs with
  | nil => simp [mnV] at hx
  | cons y r =>
    cases vs with
    | nil => have := hv.1; simp at this
    | cons u rv =>
      have r0 := hv.2 0 y u rfl rfl
      have hv' : Rvs B G w r rv := ⟨by have := hv.1; simpa using this, fun k p q hp hq => hv.2 (k + 1) p q hp hq⟩
      cases y <;> (try (cases r <;> simp [mnV] at hx; done))
      cases r0
      obtain ⟨z, hz, hrz⟩ := key r rv _ _ hx hv'
      exact ⟨z, by simp [Builtin.min_, hz], hrz⟩

theorem mxV_run : ∀ {xs : List V} {vs : List Value} {x : V}, mxV xs = some x → Rvs B G w xs vs → ∃ u, (Builtin.max_ #[] 0 vs.toArray).run P w = .ok u w ∧ Rv B G w x u := by
  have key : ∀ (r : List V) (rv : List Value) (k : IntKind) (m : Int) {x : V}, mxV (.int k m :: r) = some x → Rvs B G w r rv → ∃ u, (rv.foldlM Builtin.max2 (.int k m)).run P w = .ok u w ∧ Rv B G w x u := by
    intro r
    induction r with
    | nil =>
      intro rv k m x hx hv
      have : rv = [] := by have := hv.1; simpa using this
      subst this
      simp [mxV] at hx; subst hx
      exact ⟨_, by simp, .int _ _⟩
    | cons y r ih =>
      intro rv k m x hx hv
      cases rv with
      | nil => have := hv.1; simp at this
      | cons u rv =>
        have r0 := hv.2 0 y u rfl rfl
        have hv' : Rvs B G w r rv := ⟨by have := hv.1; simpa using this, fun k p q hp hq => hv.2 (k + 1) p q hp hq⟩
        cases y <;> (try (simp [mxV] at hx; done))
        rename_i k' m'
        cases r0
        simp only [mxV] at hx
        obtain ⟨z, hz, hrz⟩ := ih rv k _ hx hv'
        exact ⟨z, by simp [List.foldlM_cons, Builtin.max2, hz], hrz⟩
  intro xs vs x hx hv
  cases xs with
  | nil => simp [mxV] at hx
  | cons y r =>
    cases vs with
    | nil => have := hv.1; simp at this
    | cons u rv =>
      have r0 := hv.2 0 y u rfl rfl
      have hv' : Rvs B G w r rv := ⟨by have := hv.1; simpa using this, fun k p q hp hq => hv.2 (k + 1) p q hp hq⟩
      cases y <;> (try (cases r <;> simp [mxV] at hx; done))
      cases r0
      obtain ⟨z, hz, hrz⟩ := key r rv _ _ hx hv'
      exact ⟨z, by simp [Builtin.max_, hz], hrz⟩

theorem o_min {c : Call} {i : Ins} (hop : o.op = .call c) (hb : c.callee = .builtin .min) (hc : insC P n o = some i) (hs : stepI i e h = some (v, h')) (he : EnvRel B G w n e a.tmps) (hr : Rel B G h w) : Outc P B G h w o a v h' := by
  simp only [insC, hop, callC, hb] at hc
  obtain ⟨gs, e1, rfl⟩ := map_some hc
  simp only [stepI] at hs
  obtain ⟨u, hu, h2⟩ := map_some hs
  injection h2 with h1 h2; subst h1; subst h2
  obtain ⟨z, hz, hrz⟩ := mnV_run (P := P) hu (argsC_rv he e1)
  obtain ⟨cs, hcs⟩ := run_bi (P := P) (w := w) (a := a) hop hb
  refine Outc.same hr (val := z) ?_ hrz
  have : Builtin.min_ c.argTypes o.type (c.args.map a.eval) = Builtin.min_ #[] 0 (c.args.toList.map a.eval).toArray := by
    simp [Builtin.min_]
  rw [hcs]
  simp [builtin, this, hz]

theorem o_max {c : Call} {i : Ins} (hop : o.op = .call c) (hb : c.callee = .builtin .max) (hc : insC P n o = some i) (hs : stepI i e h = some (v, h')) (he : EnvRel B G w n e a.tmps) (hr : Rel B G h w) : Outc P B G h w o a v h' := by
  simp only [insC, hop, callC, hb] at hc
  obtain ⟨gs, e1, rfl⟩ := map_some hc
  simp only [stepI] at hs
  obtain ⟨u, hu, h2⟩ := map_some hs
  injection h2 with h1 h2; subst h1; subst h2
  obtain ⟨z, hz, hrz⟩ := mxV_run (P := P) hu (argsC_rv he e1)
  obtain ⟨cs, hcs⟩ := run_bi (P := P) (w := w) (a := a) hop hb
  refine Outc.same hr (val := z) ?_ hrz
  have : Builtin.max_ c.argTypes o.type (c.args.map a.eval) = Builtin.max_ #[] 0 (c.args.toList.map a.eval).toArray := by
    simp [Builtin.max_]
  rw [hcs]
  simp [builtin, this, hz]

end
end Go.Vm
