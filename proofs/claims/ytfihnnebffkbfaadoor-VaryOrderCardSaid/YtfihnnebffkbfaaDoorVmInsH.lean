/- append, copy, a text of bytes. -/
import Derived.Test.YtfihnnebffkbfaaDoorVmInsG
namespace Go.Vm
set_option linter.unusedVariables false
set_option linter.unusedSimpArgs false

section
variable {P : Program} {B : Nat} {G : Gh} {h h' : Heap} {w : World} {n : Nat} {e : Env} {a : Act} {o : Oper} {v : V}

theorem flat_one : ∀ {es : List V}, (∀ c ∈ es, oneC c) → flat es = es
  | [], _ => rfl
  | c :: es, h1 => by
    have hc : cells c = [c] := by
      have := h1 c (by simp)
      cases c <;> first | rfl | exact this.elim
    have ih := flat_one (es := es) (fun x hx => h1 x (by simp [hx]))
    simp only [flat, List.flatMap_cons] at ih ⊢
    rw [hc, ih]; rfl

theorem rvs_take {as : List V} {l : List Value} {m : Nat} (ha : Rvs B G w as l) : Rvs B G w (as.take m) (l.take m) :=
  ⟨by simp [ha.1], fun k x v hx hv => by
    rw [List.getElem?_take] at hx hv
    split at hx <;> rename_i hk
    · rw [if_pos hk] at hv
      exact ha.2 k x v hx hv
    · cases hx⟩

theorem at?_heap {w w' : World} {b k : Nat} (hh : w'.heap = w.heap) : at? w' b k = at? w b k := by simp only [at?, World.cell?, hh]

/-- What is appended or copied: its elements, as the model reads them. -/
theorem src_run (P : Program) {sz : Nat} {y : V} {es : List V} {u : Value} (hr : Rel B G h w) (hy : srcElems h sz y = some es) (hu : Rv B G w y u) :
    (Builtin.lenOf u).run P w = .ok es.length w ∧ (∀ x ∈ es, (cells x).length = sz) ∧ (∀ c ∈ flat es, oneC c) ∧
    ∃ vs, Rvs B G w (flat es) vs ∧ ∀ w', w'.heap = w.heap → ∀ k, k ≤ es.length → (Builtin.firstCells sz k u).run P w' = .ok (vs.take (k * sz)).toArray w' := by
  unfold srcElems at hy
  split at hy <;> first | (cases hy; done) | skip
  · injection hy with hy; subst hy
    cases hu
    exact ⟨rfl, fun x hx => by simp at hx, fun c hc => by simp [flat] at hc, [], rvs_nil, fun w' hh k hk => by simp [Builtin.firstCells]⟩
  · rename_i s own es'
    split at hy <;> first | (cases hy; done) | skip
    rename_i hss
    injection hy with hy; subst hy; subst hss
    cases hu with
    | sl vs hsz hsp hcap hcc h1 hrr hfull htip =>
      rename_i ad cap
      have hk : ∀ k x, (flat es')[k]? = some x → ∃ v, at? w ad.block (ad.off + k) = some v ∧ Rv B G w x v := fun k x hx =>
        ⟨vs k, (hcc k (List.getElem?_eq_some_iff.1 hx).1).2, hrr k x hx⟩
      obtain ⟨us, hus, hat⟩ := gather hk
      refine ⟨rfl, hsz, h1, us, hus, fun w' hh k hk => ?_⟩
      have hfl := flat_length hsz
      have hul : us.length = es'.length * s := by rw [hus.1, hfl]
      have hlen : (us.take (k * s)).length = k * s := by
        rw [List.length_take, hul]
        exact Nat.min_eq_left (Nat.mul_le_mul_right s hk)
      by_cases hes : es' = []
      · subst hes
        have : k = 0 := by simpa using hk
        subst this
        simp [Builtin.firstCells, loadCells, loadCellsFrom]
      · have had : ad = ⟨ad.block, ad.off, none⟩ := by have := hsp hes; cases ad; simp_all
        simp only [Builtin.firstCells]
        rw [had]
        exact run_cells P w' _ _ _ _ hlen (fun j v hv => (at?_heap hh).trans <| hat j v (by
          rw [List.getElem?_take] at hv
          split at hv
          · exact hv
          · cases hv))
  · rename_i l
    split at hy <;> first | (cases hy; done) | skip
    rename_i hs1
    injection hy with hy; subst hy; subst hs1
    cases hu
    have h1 : ∀ c ∈ l.map ofByte, oneC c := fun c hc => by obtain ⟨b, _, rfl⟩ := List.mem_map.1 hc; trivial
    refine ⟨by simp [Builtin.lenOf, ByteArray.size], fun x hx => by obtain ⟨b, _, rfl⟩ := List.mem_map.1 hx; rfl, by rw [flat_one h1]; exact h1, l.map (fun b => .int .u8 b.toNat), ?_, fun w' hh k hk => ?_⟩
    · rw [flat_one h1]
      refine ⟨by simp, fun k x v hx hv => ?_⟩
      rw [List.getElem?_map] at hx hv
      obtain ⟨b, hb, rfl⟩ := map_some hx
      rw [hb] at hv
      simp at hv; subst hv
      exact .int _ _
    · simp only [Builtin.firstCells, extract_bytes]
      simp [List.map_take]
  · rename_i s id len
    split at hy <;> first | (cases hy; done) | skip
    rename_i hss
    obtain ⟨rfl, rfl⟩ := hss
    split at hy <;> first | (cases hy; done) | skip
    rename_i cs ho
    split at hy <;> first | (cases hy; done) | skip
    rename_i hle
    injection hy with hy; subst hy
    cases hu with
    | hsl hb hl hn =>
      rename_i b nn cap
      have hrow := hr.obj id _ ho b nn hb
      have h1 : ∀ c ∈ cs.take len, oneC c := fun c hc => by
        obtain ⟨arr, T, fz, _, _, _, _, h5, _⟩ := hrow.out
        exact h5 c (List.mem_of_mem_take hc)
      have hk : ∀ k x, (cs.take len)[k]? = some x → ∃ v, at? w b (0 + k) = some v ∧ Rv B G w x v := fun k x hx => by
        rw [List.getElem?_take] at hx
        split at hx
        · obtain ⟨v, h2, h3, _⟩ := hrow.at hx
          exact ⟨v, by rw [Nat.zero_add]; exact h2, h3⟩
        · cases hx
      obtain ⟨us, hus, hat⟩ := gather hk
      have hlt : (cs.take len).length = len := by simp; omega
      refine ⟨by simp [Builtin.lenOf]; omega, fun x hx => ?_, by rw [flat_one h1]; exact h1, us, by rw [flat_one h1]; exact hus, fun w' hh k hk => ?_⟩
      · have := h1 x hx
        cases x <;> first | rfl | exact this.elim
      · have hul : us.length = len := by rw [hus.1, hlt]
        simp only [Builtin.firstCells]
        exact run_cells P w' _ _ _ _ (by simp; omega) (fun j v hv => (at?_heap hh).trans <| hat j v (by
          rw [List.getElem?_take] at hv
          split at hv
          · exact hv
          · cases hv))

theorem none_len {x : V} {l c : Nat} (r : Rv B G w x (.slice none l c)) : l = 0 := by
  generalize hq : Value.slice none l c = q at r
  cases r <;> first | (cases hq; done) | (injection hq with h1 h2; done) | (injection hq with h1 h2 h3; done) | skip

/-! ### A text of bytes -/

theorem push_bytes : ∀ (ns : List Int) (s : ByteArray), ns.foldl (fun r n => r.push (UInt8.ofNat n.toNat)) s = ⟨(s.data.toList ++ ns.map fun n => UInt8.ofNat n.toNat).toArray⟩
  | [], s => by simp
  | n :: ns, s => by
    rw [List.foldl_cons, push_bytes ns]
    simp [ByteArray.push]

theorem toBytesL_spec : ∀ {es : List V} {bs : List UInt8}, toBytesL es = some bs → ∃ ns : List Int, es = ns.map (V.int .u8) ∧ bs = ns.map fun n => UInt8.ofNat n.toNat
  | [], bs, hb => by simp [toBytesL] at hb; subst hb; exact ⟨[], rfl, rfl⟩
  | v :: r, bs, hb => by
    simp only [toBytesL] at hb
    cases e1 : toByte v with
    | none => simp [e1] at hb
    | some b =>
      cases e2 : toBytesL r with
      | none => simp [e1, e2] at hb
      | some bs' =>
        simp [e1, e2] at hb
        subst hb
        obtain ⟨ns, h1, h2⟩ := toBytesL_spec e2
        unfold toByte at e1
        split at e1 <;> first | (cases e1; done) | skip
        rename_i m
        injection e1 with e1
        exact ⟨m :: ns, by simp [h1], by simp [h2, e1]⟩

theorem rvs_ints : ∀ {ns : List Int} {vs : List Value}, Rvs B G w (ns.map (V.int .u8)) vs → vs = ns.map (Value.int .u8)
  | [], vs, hv => by have := hv.1; simpa using this
  | m :: ns, vs, hv => by
    cases vs with
    | nil => have := hv.1; simp at this
    | cons u vs =>
      have r0 := hv.2 0 _ u rfl rfl
      have hv' : Rvs B G w (ns.map (V.int .u8)) vs := ⟨by have := hv.1; simpa using this, fun k p q hp hq => hv.2 (k + 1) p q hp hq⟩
      cases r0
      simp [rvs_ints hv']

theorem o_toStr {t u : TypeId} {x : Operand} {g : Arg} (hop : o.op = .convert t u x) (hc : insC P n o = some (.toStr g)) (hs : stepI (.toStr g) e h = some (v, h')) (he : EnvRel B G w n e a.tmps) (hr : Rel B G h w) : Outc P B G h w o a v h' := by
  simp only [insC, hop] at hc
  split at hc <;> first | (cases hc; done) | skip
  · rename_i el gx e1 e2 e3
    split at hc <;> first | (cases hc; done) | skip
    rename_i hel
    injection hc with hc
    injection hc with hc; subst hc
    have r := argC_rv he e3
    simp only [stepI] at hs
    split at hs
    · cases hs
    rename_i hns
    cases ee : srcElems h 1 (gx.get e) with
    | none => simp [ee] at hs
    | some es =>
      simp only [ee, Option.bind_some] at hs
      obtain ⟨bs, hbs, h2⟩ := map_some hs
      injection h2 with h1 h2; subst h1; subst h2
      obtain ⟨hl, hsz, hone, vs, hvs, hfc⟩ := src_run P hr ee r
      obtain ⟨ns, rfl, rfl⟩ := toBytesL_spec hbs
      have h1 : ∀ c ∈ ns.map (V.int .u8), oneC c := fun c hc => by obtain ⟨b, _, rfl⟩ := List.mem_map.1 hc; trivial
      rw [flat_one h1] at hvs
      have hvs' := rvs_ints hvs
      have hfc' := hfc w rfl _ (Nat.le_refl _)
      rw [Nat.mul_one, List.take_of_length_le (by rw [hvs'] ; simp)] at hfc'
      generalize hx : a.eval x = q at r hl hfc'
      have hval : ∃ ad len cap, q = .slice ad len cap := by
        generalize gx.get e = gv at r ee hns
        unfold srcElems at ee
        split at ee <;> first | (cases ee; done) | skip
        · cases r; exact ⟨_, _, _, rfl⟩
        · cases r; exact ⟨_, _, _, rfl⟩
        · exact absurd rfl (hns _)
        · cases r; exact ⟨_, _, _, rfl⟩
      obtain ⟨ad, len, cap, rfl⟩ := hval
      have hlen : len = ns.length := by
        simp [Builtin.lenOf] at hl; exact hl
      subst hlen
      refine Outc.same hr (val := .string ⟨(ns.map fun n => UInt8.ofNat n.toNat).toArray⟩) ?_ (.str _)
      simp only [execOp, hop, hx, Sem.run_bind, run_convert_bytes_string w t u el ad ns.length cap e1 hel e2]
      cases ad with
      | none =>
        have : ns = [] := by
          have := none_len r
          simpa using this
        subst this
        simp [Conv.bytesToString]; rfl
      | some ad =>
        simp only [Builtin.firstCells, List.length_map, Nat.mul_one] at hfc'
        rw [run_bytesToString w ad ns.length cap ns (by rw [hfc', hvs'])]
        rw [push_bytes]
        simp
  · split at hc <;> cases hc
  · split at hc <;> first | (cases hc; done) | (split at hc <;> cases hc)

end
end Go.Vm
