/- Several texts in one: VmInsH, VmInsI, VmSound, VmCongr, VmDraw. -/
import Derived.Test.YtaahialaegfjgaaDoorPk0
section
namespace Go.Vm
set_option linter.unusedVariables false
set_option linter.unusedSimpArgs false
section
variable {P : Program} {B : Nat} {G : Gh} {h h' : Heap} {w : World} {n : Nat} {e : Env} {a : Act} {o : Oper} {v : V}
theorem flat_one : ∀ {es : List V}, (∀ c ∈ es, oneC c) → flat es = es
  | [], _ => rfl
  | c :: es, h1 => by
    have hc : cells c = [c] := by
      have := h1 c (by simp)
      cases c <;> first | rfl | exact this.elim
    have ih := flat_one (es := es) (fun x hx => h1 x (by simp [hx]))
    simp only [flat, List.flatMap_cons] at ih ⊢
    rw [hc, ih]; rfl
theorem rvs_take {as : List V} {l : List Value} {m : Nat} (ha : Rvs B G w as l) : Rvs B G w (as.take m) (l.take m) :=
  ⟨by simp [ha.1], fun k x v hx hv => by
    rw [List.getElem?_take] at hx hv
    split at hx <;> rename_i hk
    · rw [if_pos hk] at hv
      exact ha.2 k x v hx hv
    · cases hx⟩
theorem at?_heap {w w' : World} {b k : Nat} (hh : w'.heap = w.heap) : at? w' b k = at? w b k := by simp only [at?, World.cell?, hh]
/-- What is appended or copied: its elements, as the model reads them. -/
theorem src_run (P : Program) {sz : Nat} {y : V} {es : List V} {u : Value} (hr : Rel B G h w) (hy : srcElems h sz y = some es) (hu : Rv B G w y u) :
    (Builtin.lenOf u).run P w = .ok es.length w ∧ (∀ x ∈ es, (cells x).length = sz) ∧ (∀ c ∈ flat es, oneC c) ∧
    ∃ vs, Rvs B G w (flat es) vs ∧ ∀ w', w'.heap = w.heap → ∀ k, k ≤ es.length → (Builtin.firstCells sz k u).run P w' = .ok (vs.take (k * sz)).toArray w' := by
  unfold srcElems at hy
  split at hy <;> first | (cases hy; done) | skip
  · injection hy with hy; subst hy
    cases hu
    exact ⟨rfl, fun x hx => by simp at hx, fun c hc => by simp [flat] at hc, [], rvs_nil, fun w' hh k hk => by simp [Builtin.firstCells]⟩
  · rename_i s own es'
    split at hy <;> first | (cases hy; done) | skip
    rename_i hss
    injection hy with hy; subst hy; subst hss
    cases hu with
    | sl vs hsz hsp hcap hcc h1 hrr hfull htip =>
      rename_i ad cap
      have hk : ∀ k x, (flat es')[k]? = some x → ∃ v, at? w ad.block (ad.off + k) = some v ∧ Rv B G w x v := fun k x hx =>
        ⟨vs k, (hcc k (List.getElem?_eq_some_iff.1 hx).1).2, hrr k x hx⟩
      obtain ⟨us, hus, hat⟩ := gather hk
      refine ⟨rfl, hsz, h1, us, hus, fun w' hh k hk => ?_⟩
      have hfl := flat_length hsz
      have hul : us.length = es'.length * s := by rw [hus.1, hfl]
      have hlen : (us.take (k * s)).length = k * s := by
        rw [List.length_take, hul]
        exact Nat.min_eq_left (Nat.mul_le_mul_right s hk)
      by_cases hes : es' = []
      · subst hes
        have : k = 0 := by simpa using hk
        subst this
        simp [Builtin.firstCells, loadCells, loadCellsFrom]
      · have had : ad = ⟨ad.block, ad.off, none⟩ := by have := hsp hes; cases ad; simp_all
        simp only [Builtin.firstCells]
        rw [had]
        exact run_cells P w' _ _ _ _ hlen (fun j v hv => (at?_heap hh).trans <| hat j v (by
          rw [List.getElem?_take] at hv
          split at hv
          · exact hv
          · cases hv))
  · rename_i l
    split at hy <;> first | (cases hy; done) | skip
    rename_i hs1
    injection hy with hy; subst hy; subst hs1
    cases hu
    have h1 : ∀ c ∈ l.map ofByte, oneC c := fun c hc => by obtain ⟨b, _, rfl⟩ := List.mem_map.1 hc; trivial
    refine ⟨by simp [Builtin.lenOf, ByteArray.size], fun x hx => by obtain ⟨b, _, rfl⟩ := List.mem_map.1 hx; rfl, by rw [flat_one h1]; exact h1, l.map (fun b => .int .u8 b.toNat), ?_, fun w' hh k hk => ?_⟩
    · rw [flat_one h1]
      refine ⟨by simp, fun k x v hx hv => ?_⟩
      rw [List.getElem?_map] at hx hv
      obtain ⟨b, hb, rfl⟩ := map_some hx
      rw [hb] at hv
      simp at hv; subst hv
      exact .int _ _
    · simp only [Builtin.firstCells, extract_bytes]
      simp [List.map_take]
  · rename_i s id len
    split at hy <;> first | (cases hy; done) | skip
    rename_i hss
    obtain ⟨rfl, rfl⟩ := hss
    split at hy <;> first | (cases hy; done) | skip
    rename_i cs ho
    split at hy <;> first | (cases hy; done) | skip
    rename_i hle
    injection hy with hy; subst hy
    cases hu with
    | hsl hb hl hn =>
      rename_i b nn cap
      have hrow := hr.obj id _ ho b nn hb
      have h1 : ∀ c ∈ cs.take len, oneC c := fun c hc => by
        obtain ⟨arr, T, fz, _, _, _, _, h5, _⟩ := hrow.out
        exact h5 c (List.mem_of_mem_take hc)
      have hk : ∀ k x, (cs.take len)[k]? = some x → ∃ v, at? w b (0 + k) = some v ∧ Rv B G w x v := fun k x hx => by
        rw [List.getElem?_take] at hx
        split at hx
        · obtain ⟨v, h2, h3, _⟩ := hrow.at hx
          exact ⟨v, by rw [Nat.zero_add]; exact h2, h3⟩
        · cases hx
      obtain ⟨us, hus, hat⟩ := gather hk
      have hlt : (cs.take len).length = len := by simp; omega
      refine ⟨by simp [Builtin.lenOf]; omega, fun x hx => ?_, by rw [flat_one h1]; exact h1, us, by rw [flat_one h1]; exact hus, fun w' hh k hk => ?_⟩
      · have := h1 x hx
        cases x <;> first | rfl | exact this.elim
      · have hul : us.length = len := by rw [hus.1, hlt]
        simp only [Builtin.firstCells]
        exact run_cells P w' _ _ _ _ (by simp; omega) (fun j v hv => (at?_heap hh).trans <| hat j v (by
          rw [List.getElem?_take] at hv
          split at hv
          · exact hv
          · cases hv))
theorem none_len {x : V} {l c : Nat} (r : Rv B G w x (.slice none l c)) : l = 0 := by
  generalize hq : Value.slice none l c = q at r
  cases r <;> first | (cases hq; done) | (injection hq with h1 h2; done) | (injection hq with h1 h2 h3; done) | skip
/-! ### A text of bytes -/
theorem push_bytes : ∀ (ns : List Int) (s : ByteArray), ns.foldl (fun r n => r.push (UInt8.ofNat n.toNat)) s = ⟨(s.data.toList ++ ns.map fun n => UInt8.ofNat n.toNat).toArray⟩
  | [], s => by simp
  | n :: ns, s => by
    rw [List.foldl_cons, push_bytes ns]
    simp [ByteArray.push]
theorem toBytesL_spec : ∀ {es : List V} {bs : List UInt8}, toBytesL es = some bs → ∃ ns : List Int, es = ns.map (V.int .u8) ∧ bs = ns.map fun n => UInt8.ofNat n.toNat
  | [], bs, hb => by simp [toBytesL] at hb; subst hb; exact ⟨[], rfl, rfl⟩
  | v :: r, bs, hb => by
    simp only [toBytesL] at hb
    cases e1 : toByte v with
    | none => simp [e1] at hb
    | some b =>
      cases e2 : toBytesL r with
      | none => simp [e1, e2] at hb
      | some bs' =>
        simp [e1, e2] at hb
        subst hb
        obtain ⟨ns, h1, h2⟩ := toBytesL_spec e2
        unfold toByte at e1
        split at e1 <;> first | (cases e1; done) | skip
        rename_i m
        injection e1 with e1
        exact ⟨m :: ns, by simp [h1], by simp [h2, e1]⟩
theorem rvs_ints : ∀ {ns : List Int} {vs : List Value}, Rvs B G w (ns.map (V.int .u8)) vs → vs = ns.map (Value.int .u8)
  | [], vs, hv => by have := hv.1; simpa using this
  | m :: ns, vs, hv => by
    cases vs with
    | nil => have := hv.1; simp at this
    | cons u vs =>
      have r0 := hv.2 0 _ u rfl rfl
      have hv' : Rvs B G w (ns.map (V.int .u8)) vs := ⟨by have := hv.1; simpa using this, fun k p q hp hq => hv.2 (k + 1) p q hp hq⟩
      cases r0
      simp [rvs_ints hv']
theorem o_toStr {t u : TypeId} {x : Operand} {g : Arg} (hop : o.op = .convert t u x) (hc : insC P n o = some (.toStr g)) (hs : stepI (.toStr g) e h = some (v, h')) (he : EnvRel B G w n e a.tmps) (hr : Rel B G h w) : Outc P B G h w o a v h' := by
  simp only [insC, hop] at hc
  split at hc <;> first | (cases hc; done) | skip
  · rename_i el gx e1 e2 e3
    split at hc <;> first | (cases hc; done) | skip
    rename_i hel
    injection hc with hc
    injection hc with hc; subst hc
    have r := argC_rv he e3
    simp only [stepI] at hs
    split at hs
    · cases hs
    rename_i hns
    cases ee : srcElems h 1 (gx.get e) with
    | none => simp [ee] at hs
    | some es =>
      simp only [ee, Option.bind_some] at hs
      obtain ⟨bs, hbs, h2⟩ := map_some hs
      injection h2 with h1 h2; subst h1; subst h2
      obtain ⟨hl, hsz, hone, vs, hvs, hfc⟩ := src_run P hr ee r
      obtain ⟨ns, rfl, rfl⟩ := toBytesL_spec hbs
      have h1 : ∀ c ∈ ns.map (V.int .u8), oneC c := fun c hc => by obtain ⟨b, _, rfl⟩ := List.mem_map.1 hc; trivial
      rw [flat_one h1] at hvs
      have hvs' := rvs_ints hvs
      have hfc' := hfc w rfl _ (Nat.le_refl _)
      rw [Nat.mul_one, List.take_of_length_le (by rw [hvs'] ; simp)] at hfc'
      generalize hx : a.eval x = q at r hl hfc'
      have hval : ∃ ad len cap, q = .slice ad len cap := by
        generalize gx.get e = gv at r ee hns
        unfold srcElems at ee
        split at ee <;> first | (cases ee; done) | skip
        · cases r; exact ⟨_, _, _, rfl⟩
        · cases r; exact ⟨_, _, _, rfl⟩
        · exact absurd rfl (hns _)
        · cases r; exact ⟨_, _, _, rfl⟩
      obtain ⟨ad, len, cap, rfl⟩ := hval
      have hlen : len = ns.length := by
        simp [Builtin.lenOf] at hl; exact hl
      subst hlen
      refine Outc.same hr (val := .string ⟨(ns.map fun n => UInt8.ofNat n.toNat).toArray⟩) ?_ (.str _)
      simp only [execOp, hop, hx, Sem.run_bind, run_convert_bytes_string w t u el ad ns.length cap e1 hel e2]
      cases ad with
      | none =>
        have : ns = [] := by
          have := none_len r
          simpa using this
        subst this
        simp [Conv.bytesToString]; rfl
      | some ad =>
        simp only [Builtin.firstCells, List.length_map, Nat.mul_one] at hfc'
        rw [run_bytesToString w ad ns.length cap ns (by rw [hfc', hvs'])]
        rw [push_bytes]
        simp
  · split at hc <;> cases hc
  · split at hc <;> first | (cases hc; done) | (split at hc <;> cases hc)
end
end Go.Vm
end
section
namespace Go.Vm
set_option linter.unusedVariables false
set_option linter.unusedSimpArgs false
section
variable {P : Program} {B : Nat} {G : Gh} {h h' : Heap} {w : World} {n : Nat} {e : Env} {a : Act} {o : Oper} {v : V}
theorem growBy_le (nl : Nat) : ∀ (r c : Nat), c < nl → 256 ≤ c → Builtin.growBy nl r c ≤ 2 * nl
  | 0, c, h1, _ => by simp only [Builtin.growBy]; omega
  | r + 1, c, h1, h2 => by
    simp only [Builtin.growBy]
    split
    · omega
    · by_cases h3 : c + (c + 768) / 4 < nl
      · exact growBy_le nl r _ h3 (by omega)
      · have : Builtin.growBy nl r (c + (c + 768) / 4) = c + (c + 768) / 4 := by
          cases r with
          | zero => rfl
          | succ r => simp only [Builtin.growBy]; rw [if_pos (by omega)]
        rw [this]; omega
theorem nextcap_le {need cap : Nat} (hlt : cap < need) : Builtin.nextslicecap need cap ≤ 2 * need := by
  unfold Builtin.nextslicecap
  split
  · omega
  · split
    · omega
    · exact growBy_le need 4 cap hlt (by omega)
theorem zeroCells_size (z : Array Value) (n : Nat) : (Builtin.zeroCells z n).size = n * z.size := by simp [Builtin.zeroCells]
/-- What every append begins with. -/
structure AppTy (P : Program) (t u el : TypeId) (sz bt : Nat) (z : Value) : Prop where
  ht : P.underlying t = some (.slice el)
  hu : ∃ d, P.underlying u = some d ∧ ∀ k, d ≠ .int k
  hsz : sizeT P el = some sz
  hi : ∃ inf, P.info? el = some inf ∧ inf.bytes = bt
  hz : ∀ w, (zeroValue el).run P w = .ok z w
  hzl : z.cells.size = sz
  sz0 : 0 < sz
  bt0 : 0 < bt
variable {t u el : TypeId} {sz bt : Nat} {z : Value}
/-- append, where there is room. -/
theorem app_fits (hT : AppTy P t u el sz bt z) {ty : TypeId} {base : Option Addr} {l c m : Nat} {x : Value} {new : Array Value} (hl : (Builtin.lenOf x).run P w = .ok m w)
    (hfit : l + m ≤ c) (hn : (Builtin.firstCells sz m x).run P w = .ok new w) {w' : World}
    (hst : (match base with | none => w' = w | some ad => (storeCells (ad.add (l * sz)) new.toList).run P w = .ok () w')) :
    (Builtin.append_ #[t, u] ty #[.slice base l c, x]).run P w = .ok (.slice base (l + m) c) w' := by
  obtain ⟨d, hu, hd⟩ := hT.hu
  obtain ⟨inf, hi1, hi2⟩ := hT.hi
  have hm : (match d with | .int _ => true | _ => false) = false := by cases d <;> first | rfl | exact absurd rfl (hd _)
  cases base with
  | none =>
    simp only at hst; subst hst
    simp [Builtin.append_, run_underlying hT.ht, run_sizeT hT.hsz, run_underlying hu]
    cases d <;> first | (simp [hl, hfit, hn]; done) | exact absurd rfl (hd _)
  | some ad =>
    simp only at hst
    simp [Builtin.append_, run_underlying hT.ht, run_sizeT hT.hsz, run_underlying hu]
    cases d <;> first | (simp [hl, hfit, hn, hst]; done) | exact absurd rfl (hd _)
/-- append, where there is none: a new row. -/
theorem app_grows (hT : AppTy P t u el sz bt z) {ty : TypeId} {base : Option Addr} {l c m : Nat} {x : Value} {new old : Array Value} (hl : (Builtin.lenOf x).run P w = .ok m w)
    (hfit : c < l + m) (hroom : room (l + m) bt = true) (hn : ∀ w' : World, w'.heap = w.heap → (Builtin.firstCells sz m x).run P w' = .ok new w') (ho : ∀ w' : World, w'.heap = w.heap → (Builtin.firstCells sz l (.slice base l c)).run P w' = .ok old w') :
    ∃ cap, l + m ≤ cap ∧ (Builtin.append_ #[t, u] ty #[.slice base l c, x]).run P w =
      .ok (.slice (some ⟨w.heap.size, 0, none⟩) (l + m) cap) { w with drawn := w.drawn + 1, heap := w.heap.push (.cells (old ++ new ++ Builtin.zeroCells z.cells (cap - (l + m))) el) } := by
  obtain ⟨d, hu, hd⟩ := hT.hu
  obtain ⟨inf, hi1, hi2⟩ := hT.hi
  simp only [room, decide_eq_true_eq] at hroom
  have hb0 := hT.bt0
  have h1 : l + m ≤ (l + m) * bt := Nat.le_mul_of_pos_right _ hb0
  have h2 : Builtin.nextslicecap (l + m) c * bt ≤ 281474976710656 := by
    have := Nat.mul_le_mul_right bt (nextcap_le hfit)
    rw [Nat.mul_assoc] at this
    omega
  refine ⟨l + m + w.tape w.drawn (.appendCap (l + m) c el) % (2 ^ 63 - (l + m)), by omega, ?_⟩
  have hn' := hn w.drew rfl
  have ho' := ho w.drew rfl
  have hng : ¬ (l + m ≤ c) := by omega
  have hb : inf.bytes ≠ 0 := by omega
  have h2' : ¬ (281474976710656 < Builtin.nextslicecap (l + m) c * inf.bytes) := by rw [hi2]; omega
  simp [Builtin.append_, run_underlying hT.ht, run_sizeT hT.hsz, run_underlying hu]
  cases d <;> first | exact absurd rfl (hd _) | skip
  all_goals simp [hl, hng, run_info hi1, hb, h2', Question.forced, Question.cut, hn', ho', hT.hz, newRow]
  all_goals rfl
theorem row_get {arr tail : Array Value} {xs : List V} (hv : Rvs B G w xs arr.toList) {k : Nat} {x : V} (hx : xs[k]? = some x) : ∃ u, (arr ++ tail)[k]? = some u ∧ Rv B G w x u := by
  have hlt : k < arr.size := by have := (List.getElem?_eq_some_iff.1 hx).1; have := hv.1; simp at this; omega
  exact ⟨arr[k], by rw [Array.getElem?_append_left hlt]; exact Array.getElem?_eq_getElem hlt, hv.2 k x arr[k] hx (by simp [hlt])⟩
/-- The new row of an append, as a value. -/
theorem newRow_ok {mu : Bool} {es : List V} {arr tail : Array Value} {T : TypeId} {cap : Nat} (hr : Rel B G h w) (hv : Rvs B G w (flat es) arr.toList) (h1 : ∀ c ∈ flat es, oneC c) (hsz : ∀ x ∈ es, (cells x).length = sz)
    (hcap : es.length ≤ cap) (harr : (arr ++ tail).size = cap * sz) :
    ∃ G', Rel B G' (newRowV h sz mu es).2 { w with drawn := w.drawn + 1, heap := w.heap.push (.cells (arr ++ tail) T) } ∧ Evo B G h w G' (newRowV h sz mu es).2 { w with drawn := w.drawn + 1, heap := w.heap.push (.cells (arr ++ tail) T) } ∧
      Rv B G' { w with drawn := w.drawn + 1, heap := w.heap.push (.cells (arr ++ tail) T) } (newRowV h sz mu es).1 (.slice (some ⟨w.heap.size, 0, none⟩) es.length cap) := by
  have hal : arr.size = (flat es).length := by have := hv.1; simpa using this
  have hle2 : (flat es).length ≤ (arr ++ tail).size := by simp; omega
  cases mu with
  | true =>
    simp only [newRowV, if_true]
    obtain ⟨hrel, hevo⟩ := push_blk (o := .box (flat es)) (n := (arr ++ tail).size) hr (w' := { w with drawn := w.drawn + 1, heap := w.heap.push (.cells (arr ++ tail) T) }) ⟨rfl, rfl, rfl⟩ rfl (by
      intro hle b m hb
      have : (b, m) = (w.heap.size, (arr ++ tail).size) := by simpa [Gh.addBlk] using hb.symm
      injection this with e1 e2
      subst e1; subst e2
      refine ⟨arr ++ tail, T, (0, 0), push_new rfl, rfl, .inl rfl, hle2, h1, fun k x hk => ?_⟩
      obtain ⟨u, hu, hru⟩ := row_get (tail := tail) hv hk
      exact ⟨u, hu, hru.mono hle⟩)
    exact ⟨_, hrel, hevo, .hsl (n := (arr ++ tail).size) (b := w.heap.size) (by simp [Gh.addBlk]) hcap (by omega)⟩
  | false =>
    simp only [newRowV, Bool.false_eq_true, if_false]
    obtain ⟨hrel, hevo⟩ := push_tip (n := (flat es).length) (cap := cap) (sz := sz) hr (w' := { w with drawn := w.drawn + 1, heap := w.heap.push (.cells (arr ++ tail) T) }) ⟨rfl, rfl, rfl⟩ rfl
      ⟨arr ++ tail, T, (0, 0), rfl, by omega, fun o _ => by simp⟩
    refine ⟨_, hrel, hevo, .sl (fun k => ((arr ++ tail)[k]?).getD undef) hsz (fun _ => rfl) hcap (fun k hk => ?_) h1 (fun k x hk => ?_) (fun hf => by cases hf) (fun id hid => ?_)⟩
    · refine ⟨.inr ⟨0 + (flat es).length, by simp [Gh.addTip], by show 0 + k < _; omega⟩, ?_⟩
      have hb := push_new (w := w) (w' := { w with drawn := w.drawn + 1, heap := w.heap.push (.cells (arr ++ tail) T) }) (ob := .cells (arr ++ tail) T) rfl
      have hlt : k < (arr ++ tail).size := by omega
      simp only [at?, World.cell?, hb]
      simp only [Option.isSome_none, Bool.false_eq_true, if_false, Nat.zero_add]
      rw [Array.getElem?_eq_getElem hlt]; rfl
    · obtain ⟨u, hu, hru⟩ := row_get (tail := tail) hv hk
      rw [hu]
      exact hru.mono hevo.le
    · injection hid with hid
      subst hid
      exact ⟨⟨(flat es).length, w.heap.size, 0, cap, sz⟩, by simp [Gh.addTip], Nat.le_refl _, fun _ => ⟨rfl, rfl, rfl⟩⟩
theorem o_append {c : Call} {i : Ins} (hop : o.op = .call c) (hb : c.callee = .builtin .append) (hc : insC P n o = some i) (hs : stepI i e h = some (v, h')) (he : EnvRel B G w n e a.tmps) (hr : Rel B G h w) : Outc P B G h w o a v h' := by
  simp only [insC, hop, callC, hb] at hc
  split at hc <;> first | (cases hc; done) | skip
  all_goals (first | contradiction | skip)
  rename_i x y t u hbb e1 e2
  have ha := toList_two e1
  have ht := toList_two e2
  split at hc <;> first | (cases hc; done) | skip
  rename_i el hu
  split at hc <;> first | (cases hc; done) | skip
  rename_i d' dl sz bt zs gx gy hnint e3 edl e4 e5 e6 e7 e8
  split at hc <;> first | (cases hc; done) | skip
  rename_i hcond
  simp only [not_or] at hcond
  obtain ⟨hs0, hb0, hzl⟩ := hcond
  have hzl : zs.length = sz := Classical.byContradiction fun hh => hzl hh
  injection hc with hc
  subst hc
  generalize hmu : (isU8 dl || _) = mu at hs
  have r1 := argC_rv he e7
  have r2 := argC_rv he e8
  obtain ⟨cs, hcs⟩ := run_bi (P := P) (w := w) (a := a) hop hb
  rw [ha, ht] at hcs
  rw [show (#[x, y].map a.eval) = #[a.eval x, a.eval y] from by simp] at hcs
  generalize a.eval x = qx at r1 hcs
  generalize a.eval y = qy at r2 hcs
  obtain ⟨z, hzr, hzz⟩ := zeroT_run e6 w
  have hT : AppTy P t u el sz bt z := by
    refine ⟨hu, ⟨d', e3, fun k hk => ?_⟩, e4, ?_, ?_, ?_, by omega, by omega⟩
    · subst hk; exact hnint _ rfl
    · unfold bytesT at e5
      obtain ⟨inf, h1, h2⟩ := map_some e5
      exact ⟨inf, h1, h2⟩
    · intro w'
      obtain ⟨z', hz', hzz'⟩ := zeroT_run e6 w'
      have : z' = z := by
        unfold zeroT at e6
        split at e6 <;> first | (cases e6; done) | skip
        rename_i inf ei
        split at e6 <;> first | (cases e6; done) | skip
        rename_i zv ez
        have a1 : ∀ w, (zeroValue el).run P w = .ok zv w := fun w => by simp [zeroValue, run_info ei, ez]
        have b1 := (a1 w).symm.trans hzr
        have b2 := (a1 w').symm.trans hz'
        injection b1 with b1
        injection b2 with b2
        exact b2.symm.trans b1
      subst this
      exact hz'
    · have := (hzz B G w).1.1
      simp at this; omega
  simp only [stepI, appV] at hs
  cases esrc : srcElems h sz (gy.get e) with
  | none => simp [esrc] at hs
  | some new =>
  simp only [esrc, Option.bind_some] at hs
  obtain ⟨hl2, hsz2, hone2, nvs, hnvs, hnf⟩ := src_run P hr esrc r2
  have hnvl : nvs.length = new.length * sz := by rw [hnvs.1, flat_length hsz2]
  have hnf2 : ∀ w', w'.heap = w.heap → (Builtin.firstCells sz new.length qy).run P w' = .ok nvs.toArray w' := fun w' hh => by
    have := hnf w' hh _ (Nat.le_refl _)
    rwa [List.take_of_length_le (by omega)] at this
  -- a new row, behind elements that are there
  have grow : ∀ {h2 : Heap} {es : List V} {base : Option Addr} {cap : Nat}, Rel B G h2 w → qx = .slice base es.length cap → cap < es.length + new.length → room (es.length + new.length) bt = true → (∀ x ∈ es, (cells x).length = sz) → (∀ c ∈ flat es, oneC c) →
      (∃ ovs, Rvs B G w (flat es) ovs ∧ ∀ w', w'.heap = w.heap → (Builtin.firstCells sz es.length qx).run P w' = .ok ovs.toArray w') →
      ∃ cap' arr, es.length + new.length ≤ cap' ∧ (execOp a.eval o).run P w = .ok (.value (.slice (some ⟨w.heap.size, 0, none⟩) (es.length + new.length) cap')) { w with drawn := w.drawn + 1, heap := w.heap.push (.cells (arr ++ Builtin.zeroCells z.cells (cap' - (es.length + new.length))) el) } ∧
        Rvs B G w (flat (es ++ new)) arr.toList ∧ (arr ++ Builtin.zeroCells z.cells (cap' - (es.length + new.length))).size = cap' * sz := by
    intro h2 es base cap hr2 hq hcap hroom hsz1 hone1 hold
    obtain ⟨ovs, hovs, hof⟩ := hold
    subst hq
    obtain ⟨cap', hc1, hc2⟩ := app_grows (w := w) hT (ty := o.type) (base := base) (c := cap) hl2 hcap hroom hnf2 hof
    refine ⟨cap', ovs.toArray ++ nvs.toArray, hc1, by rw [hcs]; simp [builtin, hc2], ?_, ?_⟩
    · rw [flat_append]
      have := rvs_append hovs hnvs
      simpa using this
    · have hol : ovs.length = es.length * sz := by rw [hovs.1, flat_length hsz1]
      simp only [Array.size_append, List.size_toArray, zeroCells_size, hT.hzl, hol, hnvl]
      rw [← Nat.add_mul, ← Nat.add_mul]
      congr 1
      omega
  split at hs <;> first | (cases hs; done) | skip
  · -- nil
    rename_i ex
    rw [ex] at r1
    cases r1
    split at hs
    · rename_i hemp
      injection hs with hs
      injection hs with h1 h2; subst h1; subst h2
      have : new = [] := by simpa using hemp
      subst this
      refine Outc.same hr (val := .slice none 0 0) ?_ .nsl
      have := app_fits (w := w) (w' := w) hT (ty := o.type) (base := none) (l := 0) (c := 0) hl2 (by simp) (hnf2 w rfl) rfl
      rw [hcs]; simp [builtin, this]
    · rename_i hemp
      split at hs <;> first | (cases hs; done) | skip
      rename_i hroom
      injection hs with hs
      have hpos : 0 < new.length := by cases new <;> simp_all
      obtain ⟨cap', arr, hc1, hrun, hv, harr⟩ := grow (es := []) hr rfl (by simpa using hpos) (by simpa using hroom) (fun x hx => by simp at hx) (fun c hc => by simp [flat] at hc) ⟨[], rvs_nil, fun w' hh => by simp [Builtin.firstCells]⟩
      simp only [List.nil_append, List.length_nil, Nat.zero_add] at hv hrun hc1 harr
      obtain ⟨G', hg1, hg2, hg3⟩ := newRow_ok (mu := mu) (T := el) hr hv hone2 hsz2 hc1 harr
      rw [hs] at hg1 hg2 hg3
      exact ⟨_, _, G', _, hrun, .inl rfl, hg3, hg1, hg2⟩
  · -- a slice of elements
    rename_i s own es ex
    split at hs <;> first | (cases hs; done) | skip
    rename_i hss
    subst hss
    have hsrc : srcElems h s (.sl s own es) = some es := by simp [srcElems]
    rw [ex] at r1
    obtain ⟨hl1, hsz1, hone1, ovs, hovs, hof⟩ := src_run P hr hsrc r1
    have hovl : ovs.length = es.length * s := by rw [hovs.1, flat_length hsz1]
    have hof2 : ∀ w', w'.heap = w.heap → (Builtin.firstCells s es.length qx).run P w' = .ok ovs.toArray w' := fun w' hh => by
      have := hof w' hh _ (Nat.le_refl _)
      rwa [List.take_of_length_le (by omega)] at this
    have hone3 : ∀ c ∈ flat (es ++ new), oneC c := fun c hc => by
      rw [flat_append] at hc
      rcases List.mem_append.1 hc with hc | hc
      · exact hone1 c hc
      · exact hone2 c hc
    have hsz3 : ∀ x ∈ es ++ new, (cells x).length = s := fun x hx => by
      rcases List.mem_append.1 hx with hx | hx
      · exact hsz1 x hx
      · exact hsz2 x hx
    have r1' := r1
    cases r1 with
    | sl vs hsz hsp hcap hcc h1 hrr hfull htip =>
      rename_i ad cap
      split at hs <;> first | (cases hs; done) | skip
      · -- without spare places
        have hcf := hfull rfl
        split at hs
        · rename_i hemp
          injection hs with hs
          injection hs with h1 h2; subst h1; subst h2
          have : new = [] := by simpa using hemp
          subst this
          have hnv0 : nvs = [] := by have := hnvl; simpa using this
          subst hnv0
          refine Outc.same hr (val := .slice (some ad) es.length cap) ?_ r1'
          have := app_fits (w := w) (w' := w) hT (ty := o.type) (base := some ad) (l := es.length) (c := cap) hl2 (by simp; omega) (hnf2 w rfl) (by simp [storeCells])
          rw [hcs]; simp at this; simp [builtin, this]
        · rename_i hemp
          split at hs <;> first | (cases hs; done) | skip
          rename_i hroom
          injection hs with hs
          have hpos : 0 < new.length := by cases new <;> simp_all
          obtain ⟨cap', arr, hc1, hrun, hv, harr⟩ := grow (es := es) hr rfl (by omega) hroom hsz1 hone1 ⟨ovs, hovs, hof2⟩
          have hlen : (es ++ new).length = es.length + new.length := by simp
          obtain ⟨G', hg1, hg2, hg3⟩ := newRow_ok (mu := mu) (T := el) hr hv hone3 hsz3 (by rw [hlen]; exact hc1) harr
          rw [hs] at hg1 hg2 hg3
          rw [hlen] at hg3
          exact ⟨_, _, G', _, hrun, .inl rfl, hg3, hg1, hg2⟩
      · -- the tip of a row
        rename_i id
        split at hs <;> first | (cases hs; done) | skip
        rename_i hcond
        simp only [Bool.and_eq_true] at hcond
        obtain ⟨hroom, htp⟩ := hcond
        have hid : h[id]? = some (.tip (flat es).length) := by
          unfold isTip at htp
          split at htp
          · rename_i m hm
            rw [hm]
            simp at htp; rw [htp]
          · cases htp
        injection hs with hs
        injection hs with h1' h2'; subst h1'; subst h2'
        obtain ⟨tp, htp1, htp2, htp3⟩ := htip id rfl
        obtain ⟨htn, arr0, T0, fz0, hrow1, hrow2, hrow3⟩ := hr.obj id _ hid tp htp1
        obtain ⟨hade, hcape, hsze⟩ := htp3 htn.symm
        subst hade
        have hfl1 := flat_length hsz1
        have hlenE : (es ++ new).length = es.length + new.length := by simp
        have hflE : (flat (es ++ new)).length = (es.length + new.length) * s := by rw [flat_length hsz3, hlenE]
        by_cases hfit : es.length + new.length ≤ cap
        · -- in its place
          have hbound : tp.off + es.length * s + nvs.length ≤ arr0.size := by
            have : (es.length + new.length) * s ≤ tp.cap * tp.sz := by
              rw [← hcape, ← hsze]; exact Nat.mul_le_mul_right s hfit
            rw [Nat.add_mul] at this
            omega
          have hone4 : ∀ u ∈ nvs, u.oneCell' = true := by
            intro u hm
            obtain ⟨k, hk, rfl⟩ := List.mem_iff_getElem.1 hm
            have hk' : k < (flat new).length := by rw [← hnvs.1]; exact hk
            exact one_of_rv (hnvs.2 k _ _ (List.getElem?_eq_getElem hk') (List.getElem?_eq_getElem hk)) (hone2 _ (List.getElem_mem hk'))
          obtain ⟨w', hw1, hw2, hw3, hw4, arr', hw5, hw6, hw7⟩ := storeCells_run P (o := tp.off + es.length * s) nvs 0 arr0 w hrow1 hrow3 (by omega) hone4
          have hrun := app_fits (w := w) (w' := w') hT (ty := o.type) (base := some ⟨tp.blk, tp.off, none⟩) (l := es.length) (c := cap) hl2 hfit (hnf2 w rfl) (by simp only [add_at]; exact hw1)
          have hat0 : ∀ k, k < tp.off + es.length * s → at? w' tp.blk k = at? w tp.blk k := by
            intro k hk
            have := hw7 k
            rw [if_neg (by omega)] at this
            simp only [at?, World.cell?, hw5, hrow1]
            simp [this]
          obtain ⟨hrel, hevo⟩ := grow_in (n := (flat (es ++ new)).length) hr hw2 htp1 (by rw [htn, hflE, hfl1]; exact Nat.mul_le_mul_right s (by omega)) hw3 hw4 (by rw [htn, hfl1]; exact hat0)
            ⟨arr', T0, fz0, hw5, by rw [hw6]; exact hrow2, by rw [hw6]; exact hrow3⟩ ⟨_, hid⟩
          refine ⟨_, w', _, .slice (some ⟨tp.blk, tp.off, none⟩) (es.length + new.length) cap, by rw [hcs]; simp [builtin, hrun], .inl rfl, ?_, hrel, hevo⟩
          have hwnew := hnvs.mono hevo.le
          rw [← hlenE]
          refine .sl (fun k => if k < (flat es).length then vs k else nvs.getD (k - (flat es).length) undef) hsz3 (fun _ => rfl) (by rw [hlenE]; exact hfit) (fun k hk => ?_) hone3 (fun k x hx => ?_) (fun hf => by cases hf) (fun id' hid' => ?_)
          · refine ⟨.inr ⟨tp.off + (flat (es ++ new)).length, by simp [Gh.addTip], by show tp.off + k < _; omega⟩, ?_⟩
            show at? w' tp.blk (tp.off + k) = _
            by_cases hk2 : k < (flat es).length
            · rw [if_pos hk2, hat0 (tp.off + k) (by omega)]
              exact (hcc k hk2).2
            · rw [if_neg hk2]
              have h7 := hw7 (tp.off + k)
              rw [if_pos (by rw [hflE, Nat.add_mul] at hk; omega)] at h7
              simp only [at?, World.cell?, hw5]
              simp only [Option.isSome_none, Bool.false_eq_true, if_false]
              have hk3 : k - (flat es).length < nvs.length := by rw [hflE, Nat.add_mul] at hk; omega
              rw [h7, show tp.off + k - (tp.off + es.length * s + 0) = k - (flat es).length by omega, List.getD_eq_getElem?_getD, List.getElem?_eq_getElem hk3]; rfl
          · rw [flat_append] at hx
            by_cases hk2 : k < (flat es).length
            · rw [List.getElem?_append_left hk2] at hx
              simp only [hk2, if_true]
              exact (hrr k x hx).mono hevo.le
            · rw [List.getElem?_append_right (by omega)] at hx
              simp only [hk2, if_false]
              have hk3 : k - (flat es).length < nvs.length := by rw [hnvs.1]; exact (List.getElem?_eq_some_iff.1 hx).1
              rw [List.getD_eq_getElem?_getD, List.getElem?_eq_getElem hk3]
              exact hwnew.2 _ x _ hx (List.getElem?_eq_getElem hk3)
          · injection hid' with hid'
            subst hid'
            exact ⟨{ tp with n := (flat (es ++ new)).length }, by simp [Gh.addTip], Nat.le_refl _, fun _ => ⟨rfl, hcape, hsze⟩⟩
        · -- into a new row
          obtain ⟨cap', arr, hc1, hrun, hv, harr⟩ := grow (es := es) hr rfl (by omega) hroom hsz1 hone1 ⟨ovs, hovs, hof2⟩
          generalize Builtin.zeroCells z.cells (cap' - (es.length + new.length)) = tail at hrun harr
          have hpos : 0 < new.length := by omega
          have hal : arr.size = (flat (es ++ new)).length := by have := hv.1; simpa using this
          obtain ⟨hrel, hevo⟩ := grow_new (n := (flat (es ++ new)).length) (cap := cap') (sz := s) hr (w' := { w with drawn := w.drawn + 1, heap := w.heap.push (.cells (arr ++ tail) el) }) ⟨rfl, rfl, rfl⟩ htp1
            (by rw [htn, hflE, hfl1]; exact Nat.mul_lt_mul_of_pos_right (by omega) (by omega)) rfl ⟨_, _, (0, 0), rfl, by omega, fun o _ => by simp⟩ ⟨_, hid⟩
          refine ⟨_, _, _, _, hrun, .inl rfl, ?_, hrel, hevo⟩
          rw [← hlenE]
          refine .sl (fun k => ((arr ++ tail)[k]?).getD undef) hsz3 (fun _ => rfl) (by rw [hlenE]; exact hc1) (fun k hk => ?_) hone3 (fun k x hx => ?_) (fun hf => by cases hf) (fun id' hid' => ?_)
          · refine ⟨.inr ⟨0 + (flat (es ++ new)).length, by simp [Gh.addTip], by show 0 + k < _; omega⟩, ?_⟩
            have hb := push_new (w := w) (w' := { w with drawn := w.drawn + 1, heap := w.heap.push (.cells (arr ++ tail) el) }) (ob := .cells (arr ++ tail) el) rfl
            have hlt : k < (arr ++ tail).size := by simp; omega
            simp only [at?, World.cell?, hb]
            simp only [Option.isSome_none, Bool.false_eq_true, if_false, Nat.zero_add]
            rw [Array.getElem?_eq_getElem hlt]; rfl
          · obtain ⟨u, hu, hru⟩ := row_get (tail := tail) hv hx
            rw [hu]
            exact hru.mono hevo.le
          · injection hid' with hid'
            subst hid'
            exact ⟨⟨(flat (es ++ new)).length, w.heap.size, 0, cap', s⟩, by simp [Gh.addTip], Nat.le_refl _, fun _ => ⟨rfl, rfl, rfl⟩⟩
  · -- a slice in a box
    rename_i s id len ex
    split at hs <;> first | (cases hs; done) | skip
    rename_i hcond
    obtain ⟨rfl, rfl, hroom⟩ := hcond
    split at hs <;> first | (cases hs; done) | skip
    rename_i cs ho
    split at hs <;> first | (cases hs; done) | skip
    rename_i hlecs
    injection hs with hs
    injection hs with h1' h2'; subst h1'; subst h2'
    have hsrc : srcElems h 1 (.hsl 1 id len) = some (cs.take len) := by simp [srcElems, ho, hlecs]
    rw [ex] at r1
    obtain ⟨hl1, hsz1, hone1, ovs, hovs, hof⟩ := src_run P hr hsrc r1
    have hlt : (cs.take len).length = len := by simp; omega
    have hone0 : ∀ c ∈ cs.take len, oneC c := by
      cases r1 with
      | hsl hb hl hn =>
        obtain ⟨arr, T, fz, _, _, _, _, h5, _⟩ := (hr.obj id _ ho _ _ hb).out
        exact fun c hc => h5 c (List.mem_of_mem_take hc)
    have hone3 : ∀ c ∈ cs.take len ++ flat new, oneC c := fun c hc => by
      rcases List.mem_append.1 hc with hc | hc
      · exact hone0 c hc
      · exact hone2 c hc
    have hfln : (flat new).length = new.length := by rw [flat_length hsz2]; omega
    cases r1 with
    | hsl hb hl hn =>
      rename_i b nn cap
      obtain ⟨arr0, T0, fz0, hrow1, hrow2, hrow3, hrow4, hrow5, hrow6⟩ := (hr.obj id _ ho b nn hb).out
      by_cases hfit : len + new.length ≤ cap
      · have hone4 : ∀ u ∈ nvs, u.oneCell' = true := by
          intro u hm
          obtain ⟨k, hk, rfl⟩ := List.mem_iff_getElem.1 hm
          have hk' : k < (flat new).length := by rw [← hnvs.1]; exact hk
          exact one_of_rv (hnvs.2 k _ _ (List.getElem?_eq_getElem hk') (List.getElem?_eq_getElem hk)) (hone2 _ (List.getElem_mem hk'))
        obtain ⟨w', hw1, hw2, hw3, hw4, arr', hw5, hw6, hw7⟩ := storeCells_run P (o := 0 + len * 1) nvs 0 arr0 w hrow1 (by rw [hrow2]; intro k hk; omega) (by omega) hone4
        have hrun := app_fits (w := w) (w' := w') hT (ty := o.type) (base := some ⟨b, 0, none⟩) (l := len) (c := cap) hl2 hfit (hnf2 w rfl) (by simp only [add_at]; exact hw1)
        obtain ⟨hrel, hevo⟩ := transfer (o := .box (cs.take len ++ flat new)) hr hw2 hb (.inl ⟨cs, ho⟩) hw3 hw4 (by
          intro hle b' n' hb'
          have : (b', n') = (b, nn) := by simpa [Gh.addBlk] using hb'.symm
          injection this with e1 e2
          subst e1; subst e2
          refine ⟨arr', T0, fz0, hw5, hw6.trans hrow2, hrow3, by simp; omega, hone3, fun k x hk => ?_⟩
          have h7 := hw7 k
          by_cases hk2 : k < len
          · rw [List.getElem?_append_left (by omega), List.getElem?_take, if_pos hk2] at hk
            rw [if_neg (by omega)] at h7
            obtain ⟨u, hu1, hu2⟩ := hrow6 k x hk
            exact ⟨u, by rw [h7]; exact hu1, hu2.mono hle⟩
          · rw [List.getElem?_append_right (by omega), hlt] at hk
            have hk3 : k - len < nvs.length := by rw [hnvs.1]; exact (List.getElem?_eq_some_iff.1 hk).1
            rw [if_pos (by omega), show k - (0 + len * 1 + 0) = k - len by omega] at h7
            exact ⟨nvs[k - len], by rw [h7]; exact List.getElem?_eq_getElem hk3, (hnvs.2 _ x _ hk (List.getElem?_eq_getElem hk3)).mono hle⟩)
        exact ⟨_, w', _, .slice (some ⟨b, 0, none⟩) (len + new.length) cap, by rw [hcs]; simp [builtin, hrun], .inl rfl, .hsl (n := nn) (b := b) (by simp [Gh.addBlk]) hfit hn, hrel, hevo⟩
      · obtain ⟨hr2, hevo2⟩ := set_blk (o := .dead) hr (.refl w) hb (.inl ⟨cs, ho⟩) rfl (fun _ _ => rfl) (fun _ => trivial)
        have hovl : ovs.length = len := by rw [hovs.1, flat_length hsz1, hlt]; omega
        obtain ⟨cap', arr, hc1, hrun, hv, harr⟩ := grow (es := cs.take len) (base := some ⟨b, 0, none⟩) (cap := cap) hr2 (by rw [hlt]) (by rw [hlt]; omega) (by rw [hlt]; exact hroom) hsz1 hone1 ⟨ovs, hovs, fun w' hh => by
          have h8 := hof w' hh _ (Nat.le_refl _)
          have h9 : ovs.take (len * 1) = ovs := List.take_of_length_le (by omega)
          rw [hlt, h9] at h8
          rw [hlt]; exact h8⟩
        rw [hlt] at hc1 hrun harr
        have hfe : flat (cs.take len ++ new) = cs.take len ++ flat new := by rw [flat_append, flat_one hone0]
        have hlen : (cs.take len ++ new).length = len + new.length := by simp; omega
        obtain ⟨G', hg1, hg2, hg3⟩ := newRow_ok (mu := true) (sz := 1) (es := cs.take len ++ new) (T := el) hr2 hv (by rw [hfe]; exact hone3) (fun x hx => by
          rcases List.mem_append.1 hx with hx | hx
          · exact hsz1 x hx
          · exact hsz2 x hx) (by rw [hlen]; exact hc1) harr
        simp only [newRowV, if_true, hfe, hlen, List.length_set] at hg1 hg2 hg3
        exact ⟨_, _, G', _, hrun, .inl rfl, hg3, hg1, hevo2.trans hg2⟩
/-! ### copy -/
theorem o_copy {c : Call} {i : Ins} (hop : o.op = .call c) (hb : c.callee = .builtin .copy) (hc : insC P n o = some i) (hs : stepI i e h = some (v, h')) (he : EnvRel B G w n e a.tmps) (hr : Rel B G h w) : Outc P B G h w o a v h' := by
  simp only [insC, hop, callC, hb] at hc
  split at hc <;> first | (cases hc; done) | skip
  all_goals (first | contradiction | skip)
  rename_i x y t u hbb e1 e2
  have ha := toList_two e1
  have ht := toList_two e2
  split at hc <;> first | (cases hc; done) | skip
  rename_i el hu
  split at hc <;> first | (cases hc; done) | skip
  rename_i sz gx gy e4 e7 e8
  split at hc <;> first | (cases hc; done) | skip
  rename_i hs0
  injection hc with hc
  subst hc
  have r1 := argC_rv he e7
  have r2 := argC_rv he e8
  obtain ⟨cs0, hcs⟩ := run_bi (P := P) (w := w) (a := a) hop hb
  rw [ha, ht] at hcs
  rw [show (#[x, y].map a.eval) = #[a.eval x, a.eval y] from by simp] at hcs
  generalize a.eval x = qx at r1 hcs
  generalize a.eval y = qy at r2 hcs
  simp only [stepI] at hs
  split at hs <;> first | (cases hs; done) | skip
  rename_i k id len ex
  split at hs <;> first | (cases hs; done) | skip
  rename_i hk
  subst hk
  split at hs <;> first | (cases hs; done) | skip
  rename_i cs ho
  cases esrc : srcElems h k (gy.get e) with
  | none => simp [esrc] at hs
  | some new =>
  simp only [esrc, Option.bind_some] at hs
  split at hs <;> first | (cases hs; done) | skip
  rename_i hle
  injection hs with hs
  injection hs with h1' h2'; subst h1'; subst h2'
  obtain ⟨hl2, hsz2, hone2, nvs, hnvs, hnf⟩ := src_run P hr esrc r2
  have hnvl : nvs.length = new.length * k := by rw [hnvs.1, flat_length hsz2]
  rw [ex] at r1
  cases r1 with
  | hsl hb' hl hn =>
    rename_i b nn cap
    have hmin : min new.length len ≤ new.length := Nat.min_le_left _ _
    have hft : flat (new.take (min new.length len)) = (flat new).take (min new.length len * k) := by
      have e1 : flat new = flat (new.take (min new.length len)) ++ flat (new.drop (min new.length len)) := by
        rw [← flat_append, List.take_append_drop]
      have e2 : (flat (new.take (min new.length len))).length = min new.length len * k := by
        rw [flat_length (fun x hx => hsz2 x (List.mem_of_mem_take hx)), List.length_take, Nat.min_eq_left hmin]
      rw [e1, List.take_left' e2]
    have hrow := hr.obj id _ ho b nn hb'
    have hu2 : Rvs B G w (flat (new.take (min new.length len))) (nvs.take (min new.length len * k)) := by rw [hft]; exact rvs_take hnvs
    obtain ⟨w', hr1, hsm, hr3, hr4, hr5⟩ := row_write (P := P) (off := 0) hrow hu2 (fun c hc => by rw [hft] at hc; exact hone2 c (List.mem_of_mem_take hc)) (by omega)
    obtain ⟨hrel, hevo⟩ := set_blk (o := .box (splice cs 0 (flat (new.take (min new.length len))))) hr hsm hb' (.inl ⟨cs, ho⟩) hr3 hr4 (by
      intro hle b' n' hb2
      have : (b', n') = (b, nn) := Option.some.inj (hb2.symm.trans hb')
      injection this with e1 e2
      subst e1; subst e2
      exact hr5 G w' rfl hle)
    refine ⟨_, w', G, _, ?_, .inl rfl, .int .i64 _, hrel, hevo⟩
    rw [hcs]
    simp only [builtin, Builtin.copy_]
    simp [run_underlying hu, hl2, run_sizeT e4, goInt]
    have hfc := hnf w rfl (min new.length len) hmin
    have hmin2 : Nat.min new.length len = min new.length len := rfl
    rw [hmin2, hfc]
    simp [hr1]
end
end Go.Vm
end
section
namespace Go.Vm
set_option linter.unusedVariables false
set_option linter.unusedSimpArgs false
section
variable {P : Program} {B : Nat} {G : Gh} {h h' : Heap} {w w0 : World} {n : Nat} {e : Env} {a : Act} {o : Oper} {v : V}
/-- An instruction that calls nothing. -/
theorem ins_sound {i : Ins} (hc : insC P n o = some i) (hs : stepI i e h = some (v, h')) (he : EnvRel B G w n e a.tmps) (hr : Rel B G h w) : Outc P B G h w o a v h' := by
  cases hop : o.op with
  | move x => exact o_move (.inl hop) hc hs he hr
  | assign x => exact o_move (.inr hop) hc hs he hr
  | pick c x y => exact o_pick hop hc hs he hr
  | alloc t => exact o_alloc hop hc hs he hr
  | box t x => exact o_box hop hc hs he hr
  | build t ps => exact o_build hop hc hs he hr
  | buildSlice t l ps => exact o_buildSlice hop hc hs he hr
  | insert t m k x => exact o_mapset (.inr hop) hc hs he hr
  | load t x => exact o_load hop hc hs he hr
  | store t x y => exact o_store hop hc hs he hr
  | nilCheck x => exact o_nilck hop hc hs he hr
  | binOp op t x y yt => exact o_binOp hop hc hs he hr
  | unOp op t x => exact o_unOp hop hc hs he hr
  | convert t u x =>
    by_cases h1 : ∃ g, i = .toStr g
    · obtain ⟨g, rfl⟩ := h1; exact o_toStr hop hc hs he hr
    · by_cases h2 : ∃ g, i = .toBytes g
      · obtain ⟨g, rfl⟩ := h2; exact o_toBytes hop hc hs he hr
      · by_cases h3 : ∃ g, i = .mark g
        · obtain ⟨g, rfl⟩ := h3; exact o_mark hop hc hs he hr
        · exact o_convert hop hc hs he hr (fun g hg => h1 ⟨g, hg⟩) (fun g hg => h2 ⟨g, hg⟩) (fun g hg => h3 ⟨g, hg⟩)
  | makeFunc fn fs cs => exact o_makeFunc hop hc hs he hr
  | makeMap t r => exact o_makeMap hop hc hs he hr
  | makeSlice t l c => exact o_makeSlice hop hc hs he hr
  | slice t x lo hi mx => exact o_slice hop hc hs he hr
  | fieldAddr t x f => exact o_fieldAddr hop hc hs he hr
  | field t x f => exact o_field hop hc hs he hr
  | indexAddr t x j => exact o_indexAddr hop hc hs he hr
  | index t x j => exact o_index hop hc hs he hr
  | lookup t m k ok => exact o_lookup hop hc hs he hr
  | mapUpdate t m k x => exact o_mapset (.inl hop) hc hs he hr
  | extract x k => exact o_extract hop hc hs he hr
  | call c =>
    cases hcal : c.callee with
    | value f =>
      exfalso
      cases f <;> simp [insC, hop, callC, hcal] at hc
      · obtain ⟨_, gs, _, rfl⟩ := hc; simp [stepI] at hs
      · obtain ⟨_, gs, _, rfl⟩ := hc; simp [stepI] at hs
    | invoke r m => simp [insC, hop, callC, hcal] at hc
    | builtin b =>
      cases b with
      | append => exact o_append hop hcal hc hs he hr
      | len => exact o_len hop hcal hc hs he hr
      | copy => exact o_copy hop hcal hc hs he hr
      | min => exact o_min hop hcal hc hs he hr
      | max => exact o_max hop hcal hc hs he hr
      | clear => exact o_clear hop hcal hc hs he hr
      | _ => simp [insC, hop, callC, hcal] at hc
  | _ => simp [insC, hop] at hc
theorem isFn_run {f : FuncId} (hf : isFn P f = true) (vs : Array Value) : (callFunc f vs).run P w = .ok (.enter f vs) w := by
  unfold isFn at hf
  split at hf <;> first | (cases hf; done) | skip
  rename_i fn hfn
  simp only [Bool.and_eq_true, bne_iff_ne, ne_eq] at hf
  obtain ⟨hb, hn⟩ := hf
  have hb' : fn.body.isNone = false := by cases hbb : fn.body <;> simp_all
  have hb2 : fn.body ≠ none := by intro hh; rw [hh] at hb; cases hb
  simp [callFunc, hfn, hn, hb2]
theorem ins_call {i : Ins} (hc : insC P n o = some i) (hi : (∃ f xs, i = .call f xs) ∨ ∃ g xs, i = .callv g xs) : ∃ c, o.op = .call c := by
  cases hop : o.op <;> first | exact ⟨_, rfl⟩ | skip
  all_goals (exfalso; simp only [insC, hop] at hc)
  all_goals (repeat' (first | (cases hc; done) | contradiction | (obtain ⟨_, _, rfl⟩ := map_some hc; rcases hi with ⟨_, _, hh⟩ | ⟨_, _, hh⟩ <;> cases hh; done) | (injection hc with hc; subst hc; rcases hi with ⟨_, _, hh⟩ | ⟨_, _, hh⟩ <;> cases hh; done) | split at hc))
/-- A call. -/
theorem call_sound {i : Ins} {f : FuncId} {args : List V} (hc : insC P n o = some i) (hs : callI i e = some (f, args)) (hf : isFn P f = true) (he : EnvRel B G w n e a.tmps) :
    ∃ vs, (execOp a.eval o).run P w = .ok (.enter f vs.toArray) w ∧ Rvs B G w args vs := by
  obtain ⟨c, hop⟩ : ∃ c, o.op = .call c := ins_call hc (by
    cases i <;> simp [callI] at hs
    · exact .inl ⟨_, _, rfl⟩
    · exact .inr ⟨_, _, rfl⟩)
  cases hcal : c.callee with
  | value g =>
    cases g with
    | func f' =>
      simp only [insC, hop, callC, hcal] at hc
      split at hc <;> first | (cases hc; done) | skip
      obtain ⟨gs, hg, rfl⟩ := map_some hc
      simp [callI] at hs
      obtain ⟨rfl, rfl⟩ := hs
      refine ⟨c.args.toList.map a.eval, ?_, argsC_rv he hg⟩
      have h1 : (Array.map a.eval c.args) = (c.args.toList.map a.eval).toArray := by apply Array.ext'; simp
      simp [execOp, hop, resolve, hcal, Act.eval, Deferred.ofValue, invoke, isFn_run hf, h1]
    | tmp t =>
      simp only [insC, hop, callC, hcal] at hc
      split at hc <;> first | (cases hc; done) | skip
      rename_i ht
      obtain ⟨gs, hg, rfl⟩ := map_some hc
      simp only [callI] at hs
      split at hs <;> first | (cases hs; done) | skip
      rename_i f' caps hfe
      injection hs with hs
      injection hs with h1 h2; subst h1; subst h2
      have r := he.2 t ht
      simp only [Arg.get] at hfe
      rw [hfe] at r
      have hev : a.eval (.tmp t) = a.tmps.getD t undef := rfl
      generalize a.tmps.getD t undef = q at r hev
      cases r with
      | fn hl hrr =>
        rename_i cvs
        refine ⟨c.args.toList.map a.eval ++ cvs, ?_, rvs_append (argsC_rv he hg) ⟨hl, hrr⟩⟩
        have h1 : (Array.map a.eval c.args) ++ cvs.toArray = (c.args.toList.map a.eval ++ cvs).toArray := by apply Array.ext'; simp
        simp [execOp, hop, resolve, hcal, hev, Deferred.ofValue, invoke, isFn_run hf, h1]
    | const v => simp [insC, hop, callC, hcal] at hc
    | global g => simp [insC, hop, callC, hcal] at hc
  | invoke r m => simp [insC, hop, callC, hcal] at hc
  | builtin b =>
    exfalso
    have nc : ∀ i, callC P n c = some i → (∀ f xs, i ≠ .call f xs) ∧ ∀ g xs, i ≠ .callv g xs := by
      intro i hi
      simp only [callC, hcal] at hi
      split at hi
      all_goals (first | (cases hi; done) | skip)
      all_goals (repeat' (first | (cases hi; done) | (obtain ⟨_, _, rfl⟩ := map_some hi; exact ⟨(fun _ _ hh => by cases hh), (fun _ _ hh => by cases hh)⟩) | (injection hi with hi; subst hi; exact ⟨(fun _ _ hh => by cases hh), (fun _ _ hh => by cases hh)⟩) | split at hi))
    have := nc i (by simpa [insC, hop] using hc)
    cases i <;> simp [callI] at hs
    · exact this.1 _ _ rfl
    · exact this.2 _ _ rfl
/-! ### Runs -/
def Base (w0 : World) (B : Nat) (w : World) : Prop := w0.heap.size ≤ B ∧ RowKit.Below B w0 w
theorem Base.evo {G' : Gh} {w' : World} (hb : Base w0 B w) (hr : Rel B G h w) (he : Evo B G h w G' h' w') : Base w0 B w' := by
  obtain ⟨h0, hb⟩ := hb
  refine ⟨h0, he.os.trans hb.os, he.tape.trans hb.tape, he.output.trans hb.output, Nat.le_trans hb.size he.size, fun k hk => ?_⟩
  have hlt : k < w.heap.size := Nat.lt_of_lt_of_le hk hr.wf.base
  refine (he.frame k hlt ?_).trans (hb.block k hk)
  rintro (⟨id, p, e, rfl⟩ | ⟨id, t, e, rfl⟩)
  · have := (hr.wf.blk id p e).1; omega
  · have := (hr.wf.tip id t e).1; omega
/-- What a call comes to. -/
def CallGood (P : Program) (w0 : World) (f : FuncId) (args : List V) (h : Heap) (v : V) (h' : Heap) : Prop :=
  ∀ B G w vs, Rel B G h w → Base w0 B w → Rvs B G w args vs → Calls P f vs.toArray w fun en w' => ∃ G' val, en = .returned val ∧ Rv B G' w' v val ∧ Rel B G' h' w' ∧ Evo B G h w G' h' w'
/-- A function of the library that sorts the texts of a box. -/
def SortGood (P : Program) (w0 : World) (f : FuncId) : Prop :=
  ∀ (id : Nat) (ss : List (List UInt8)) (h : Heap), h[id]? = some (.box (strsV ss)) → ss.length < 4611686018427387904 → CallGood P w0 f [.hsl 1 id ss.length] h (.tup []) (h.set id (.box (strsV (sortS ss))))
def SortAt (P : Program) (w0 : World) (L : FuncId → List V → V → Prop) : Prop := ∀ f, L f sortTag (.tup []) → isFn P f = true ∧ SortGood P w0 f
theorem rv_put {d : Option Tmp} {tmps : Array Value} {x : V} {u : Value} {ds : List Deferred} (he : EnvRel B G w n e tmps) (hd : dstOk n d = true) (hx : Rv B G w x u) :
    EnvRel B G w n (put e d x) ((({ tmps := tmps, defers := ds } : Act).put d u).tmps) := by
  cases d with
  | none => exact he
  | some d =>
    simp only [dstOk, decide_eq_true_eq] at hd
    refine ⟨by simp [Act.put]; exact he.1, fun t ht => ?_⟩
    simp only [put, upd, Act.put]
    by_cases htd : t = d
    · subst htd
      rw [if_pos rfl]
      have : (tmps.setIfInBounds t u).getD t undef = u := by simp [he.1, hd]
      rw [this]; exact hx
    · rw [if_neg htd]
      have : (tmps.setIfInBounds d u).getD t undef = tmps.getD t undef := by
        simp [Array.getElem?_setIfInBounds_ne (Ne.symm htd)]
      rw [this]; exact he.2 t ht
theorem EnvRel.mono {G' : Gh} {w' : World} {tmps : Array Value} (hle : Le B G w G' w') (he : EnvRel B G w n e tmps) : EnvRel B G' w' n e tmps :=
  ⟨he.1, fun t ht => (he.2 t ht).mono hle⟩
theorem put_defers (a : Act) (d : Option Tmp) (u : Value) : (a.put d u).defers = a.defers := by cases d <;> rfl
/-- Is the operation wanted, as the machine has it? -/
theorem wanted_eq {ops : Array Oper} {g : Option (Nat × Bool)} (hg : guardC ops n o.guard = some g) (he : EnvRel B G w n e a.tmps) {d : Option Nat} {i : Ins} :
    Region.wanted o (yielded ops a.tmps) = OpC.wanted { dst := d, guard := g, ins := i } e := by
  unfold guardC at hg
  unfold Region.wanted OpC.wanted
  cases hog : o.guard with
  | none => simp [hog] at hg; subst hg; rfl
  | some jb =>
    obtain ⟨j, b⟩ := jb
    simp only [hog] at hg
    split at hg <;> first | (cases hg; done) | skip
    rename_i t ht
    split at hg <;> first | (cases hg; done) | skip
    rename_i hlt
    injection hg with hg; subst hg
    have r := he.2 t hlt
    have hget : a.tmps[t]? = some (a.tmps.getD t undef) := by
      have : t < a.tmps.size := by rw [he.1]; exact hlt
      simp [this]
    have hy : yielded ops a.tmps j = match a.tmps.getD t undef with | .bool b => some b | _ => none := by
      simp only [yielded, ht, Option.bind_some, hget]
      cases a.tmps.getD t undef <;> rfl
    simp only [hy]
    generalize a.tmps.getD t undef = q at r
    generalize e t = x at r
    cases r <;> simp
/-- The runs of an operation that draws its order, step by step. -/
def DGood (P : Program) (w0 : World) : List OpC → Env → Heap → Env → Heap → Prop
  | [], e, h, e', h' => e' = e ∧ h' = h
  | o :: l, e, h, e', h' =>
    (o.wanted e = false ∧ DGood P w0 l (put e o.dst (.tup [])) h e' h') ∨
    (o.wanted e = true ∧ ∃ v h1, stepI o.ins e h = some (v, h1) ∧ Ext h h1 ∧ DGood P w0 l (put e o.dst v) h1 e' h') ∨
    (o.wanted e = true ∧ ∃ f args v h1, callI o.ins e = some (f, args) ∧ isFn P f = true ∧ Ext h h1 ∧ CallGood P w0 f args h v h1 ∧ DGood P w0 l (put e o.dst v) h1 e' h')
def MGood (P : Program) (w0 : World) (fl : List (Nat × Bool × Nat × Arg)) : List OpC → Env → Heap → Env → Heap → Prop
  | [], e, h, e', h' => e' = e ∧ h' = h
  | o :: l, e, h, e', h' =>
    (o.wanted e = true ∧ ∃ v h1, stepI o.ins e h = some (v, h1) ∧ (quiet o.ins = true ∨ flC fl (put e o.dst v) h1) ∧ MGood P w0 fl l (put e o.dst v) h1 e' h') ∨
    (o.wanted e = true ∧ ∃ f args v h1, callI o.ins e = some (f, args) ∧ isFn P f = true ∧ flC fl (put e o.dst v) h1 ∧ CallGood P w0 f args h v h1 ∧ MGood P w0 fl l (put e o.dst v) h1 e' h')
def X.real : X → Exit
  | .norm => .normal
  | .exit i => .exit i
  | .ret => .ret
/-- What is asked of what stands behind. -/
def Post (B : Nat) (G : Gh) (h : Heap) (w : World) (ds : List Deferred) (n : Nat) (e' : Env) (h' : Heap) (K : Act → World → Prop) : Prop :=
  ∀ G' a' w', Rel B G' h' w' → Evo B G h w G' h' w' → EnvRel B G' w' n e' a'.tmps → a'.defers = ds → K a' w'
/-- A loop's rounds from here on. -/
def LoopWp (P : Program) (c : Code) (Q : Exit → Act → World → Prop) (a : Act) (w : World) : Prop :=
  ∀ (b : Frame) (k : List Item) (cs : List Frame), ∃ e a' w', Q e a' w' ∧ Arrives P (lone (b.at a (.code c :: .inLoop c :: k)) cs w) b k cs e a' w'
theorem loop_of {c : Code} {Q : Exit → Act → World → Prop} (hl : LoopWp P c Q a w) : (Code.loop c).wp P Q a w :=
  fun b k cs => let ⟨e, a', w', hq, harr⟩ := hl b k cs; ⟨e, a', w', hq, .of_steps (.one step_loop) harr⟩
theorem loop_round {c : Code} {Q : Exit → Act → World → Prop} (hb : c.wp P (Exit.then (LoopWp P c Q) Q) a w) : LoopWp P c Q a w := by
  intro b k cs
  obtain ⟨e, a₁, w₁, hq, harr⟩ := hb b (.inLoop c :: k) cs
  cases e with
  | normal =>
    obtain ⟨e₂, a₂, w₂, hq₂, harr₂⟩ := hq b k cs
    exact ⟨e₂, a₂, w₂, hq₂, .of_steps (Steps.trans harr (.one step_inLoop)) harr₂⟩
  | exit id => exact ⟨_, a₁, w₁, hq, .pass (x := .inLoop c) rfl (fun _ _ => .inl (by simp)) harr⟩
  | goto l => exact ⟨_, a₁, w₁, hq, .pass (x := .inLoop c) rfl (fun _ _ => .inl (by simp)) harr⟩
  | ret => exact ⟨_, a₁, w₁, hq, .pass (x := .inLoop c) rfl (fun _ _ => .inl (by simp)) harr⟩
  | panic ch => exact ⟨_, a₁, w₁, hq, .pass (x := .inLoop c) rfl (fun _ _ => .inl (by simp)) harr⟩
  | outgrown => exact ⟨_, a₁, w₁, hq, .pass (x := .inLoop c) rfl (fun _ _ => .inl (by simp)) harr⟩
def CodeGood (P : Program) (w0 : World) (c : C) (e : Env) (h : Heap) (x : X) (e' : Env) (h' : Heap) : Prop :=
  ∀ n B G w a, Rel B G h w → Base w0 B w → EnvRel B G w n e a.tmps →
    (∀ code Q, codeC P n code = some c → Post B G h w a.defers n e' h' (Q x.real) → code.wp P Q a w) ∧
    (∀ cb code Q, c = .loop cb → codeC P n code = some cb → Post B G h w a.defers n e' h' (Q x.real) → LoopWp P code Q a w)
def Good (P : Program) (w0 : World) : Task → Prop
  | .ops l e h e' h' => ∀ n B G w a (ops : Array Oper) (os : List Oper) (k : Nat) Q, opsC P ops n os = some l → (∀ j, os[j]? = ops[k + j]?) → Rel B G h w → Base w0 B w → EnvRel B G w n e a.tmps →
      Post B G h w a.defers n e' h' (Q .normal) → wpOps P ops Q (List.range' k l.length) a w
  | .dops l e h e' h' => DGood P w0 l e h e' h'
  | .mops fl l e h e' h' => MGood P w0 fl l e h e' h'
  | .code c e h x e' h' => CodeGood P w0 c e h x e' h'
  | .call f args h v h' => isFn P f = true ∧ CallGood P w0 f args h v h'
theorem Post.evo {h1 : Heap} {G1 : Gh} {w1 : World} {ds ds' : List Deferred} {e' : Env} {K : Act → World → Prop} (hp : Post B G h w ds n e' h' K) (he : Evo B G h w G1 h1 w1) (hd : ds' = ds) : Post B G1 h1 w1 ds' n e' h' K :=
  fun G' a' w' hr hev hen hdd => hp G' a' w' hr (he.trans hev) hen (hdd.trans hd)
theorem opsC_cons {ops : Array Oper} {os : List Oper} {oc : OpC} {l : List OpC} (hc : opsC P ops n os = some (oc :: l)) :
    ∃ o r g i, os = o :: r ∧ opsC P ops n r = some l ∧ guardC ops n o.guard = some g ∧ insC P n o = some i ∧ dstOk n o.dst = true ∧ oc = { dst := o.dst, guard := g, ins := i } := by
  cases os with
  | nil => simp [opsC] at hc
  | cons o r =>
    simp only [opsC] at hc
    split at hc <;> first | (cases hc; done) | skip
    rename_i x xs e1 e2
    injection hc with hc
    injection hc with h1 h2; subst h1; subst h2
    simp only [opC] at e1
    split at e1 <;> first | (cases e1; done) | skip
    rename_i g i e3 e4
    split at e1 <;> first | (cases e1; done) | skip
    rename_i hd
    injection e1 with e1
    exact ⟨o, r, g, i, rfl, e2, e3, e4, hd, e1.symm⟩
theorem wp_one {ops : Array Oper} {Q : Exit → Act → World → Prop} {k m : Nat} {oo : Oper} (hk : ops[k]? = some oo) (a : Act) (w : World) :
    wpOps P ops Q (List.range' k (m + 1)) a w = if Region.wanted oo (yielded ops a.tmps) then oo.wp P a w (wpOps P ops Q (List.range' (k + 1) m)) Q ∨ (oo.asks P a w ∧ LetsOut Q) else wpOps P ops Q (List.range' (k + 1) m) (a.put oo.dst undef) w := by
  simp [List.range'_succ, wpOps, hk]
/-- One instruction, then what follows. -/
theorem wp_ins {i : Ins} {next : Act → World → Prop} {Q : Exit → Act → World → Prop} (hi : insC P n o = some i) (hd : dstOk n o.dst = true) (hs : stepI i e h = some (v, h')) (he : EnvRel B G w n e a.tmps) (hr : Rel B G h w)
    (hn : ∀ G' a' w', Rel B G' h' w' → Evo B G h w G' h' w' → EnvRel B G' w' n (put e o.dst v) a'.tmps → a'.defers = a.defers → next a' w') : o.wp P a w next Q := by
  obtain ⟨nx, w', G', val, hrun, hnx, hv, hrel, hevo⟩ := ins_sound hi hs he hr
  have hen := rv_put (ds := a.defers) (he.mono hevo.le) hd hv
  unfold Oper.wp
  rw [hrun]
  rcases hnx with rfl | ⟨rfl, rfl⟩
  · exact hn G' _ w' hrel hevo hen (put_defers _ _ _)
  · exact hn G' _ w' hrel hevo hen (put_defers _ _ _)
theorem wp_call {i : Ins} {f : FuncId} {args : List V} {next : Act → World → Prop} {Q : Exit → Act → World → Prop} (hi : insC P n o = some i) (hd : dstOk n o.dst = true) (hs : callI i e = some (f, args)) (hf : isFn P f = true) (hg : CallGood P w0 f args h v h')
    (he : EnvRel B G w n e a.tmps) (hr : Rel B G h w) (hb : Base w0 B w)
    (hn : ∀ G' a' w', Rel B G' h' w' → Evo B G h w G' h' w' → EnvRel B G' w' n (put e o.dst v) a'.tmps → a'.defers = a.defers → next a' w') : o.wp P a w next Q := by
  obtain ⟨vs, hrun, hvs⟩ := call_sound hi hs hf he
  unfold Oper.wp
  rw [hrun]
  refine (hg B G w vs hr hb hvs).mono fun en w' hpost => ?_
  obtain ⟨G', val, rfl, hv, hrel, hevo⟩ := hpost
  exact hn G' _ w' hrel hevo (rv_put (ds := a.defers) (he.mono hevo.le) hd hv) (put_defers _ _ _)
theorem enter_rel {args : List V} {vs : List Value} {m : Nat} (hv : Rvs B G w args vs) (hl : args.length ≤ m) : EnvRel B G w m (enterE args) (vs.toArray ++ Array.replicate (m - vs.toArray.size) undef) := by
  refine ⟨by simp [hv.1]; omega, fun t ht => ?_⟩
  simp only [enterE]
  by_cases htl : t < args.length
  · have h2 : t < vs.length := by rw [hv.1]; exact htl
    have := hv.2 t args[t] vs[t] (List.getElem?_eq_getElem htl) (List.getElem?_eq_getElem h2)
    rw [List.getD_eq_getElem?_getD, List.getElem?_eq_getElem htl]
    have h3 : (vs.toArray ++ Array.replicate (m - vs.toArray.size) undef).getD t undef = vs[t] := by
      rw [Array.getD_eq_getD_getElem?, Array.getElem?_append_left (by simpa using h2)]
      simp [h2]
    rw [h3]; exact this
  · rw [List.getD_eq_getElem?_getD, List.getElem?_eq_none (by omega)]
    have h3 : (vs.toArray ++ Array.replicate (m - vs.toArray.size) undef).getD t undef = undef := by
      rw [Array.getD_eq_getD_getElem?, Array.getElem?_append_right (by simp [hv.1]; omega)]
      cases hq : (Array.replicate (m - vs.toArray.size) undef)[t - vs.toArray.size]? with
      | none => rfl
      | some q =>
        have := Array.getElem?_eq_some_iff.1 hq
        obtain ⟨h4, h5⟩ := this
        simp at h5; simp [h5]
    rw [h3]; exact rv_undef
def resRun (tmps : Array Value) : ResultVar → Sem Value
  | .tmp t => pure (tmps.getD t undef)
  | .cell a t => do loadVar t (← asAddr (tmps.getD a undef))
theorem results_eq (fn : Func) (tmps : Array Value) : results fn tmps = (fn.results.mapM (resRun tmps) >>= fun vs => pure (if h : vs.size = 1 then vs[0] else .tuple vs)) := by
  unfold results
  refine congrArg (fun f : ResultVar → Sem Value => (fn.results.mapM f >>= fun vs => pure (if h : vs.size = 1 then vs[0] else .tuple vs))) (funext fun r => ?_)
  cases r <;> rfl
theorem res_run {r : ResultVar} {rc : Res} {x : V} {tmps : Array Value} (hc : resC P n r = some rc) (hx : resV h e rc = some x) (he : EnvRel B G w n e tmps) (hr : Rel B G h w) :
    ∃ u, (resRun tmps r).run P w = .ok u w ∧ Rv B G w x u := by
  cases r with
  | tmp t =>
    simp only [resC] at hc
    split at hc <;> first | (cases hc; done) | skip
    rename_i ht
    injection hc with hc; subst hc
    simp [resV] at hx; subst hx
    exact ⟨_, rfl, he.2 t ht⟩
  | cell t ty =>
    simp only [resC] at hc
    split at hc <;> first | (cases hc; done) | skip
    rename_i g s e1 e2
    split at hc <;> first | (cases hc; done) | skip
    rename_i ht
    injection hc with hc; subst hc
    simp only [resV] at hx
    obtain ⟨ad, z, h1, h2, h3⟩ := loadV_run e1 e2 hr hx (he.2 t ht)
    exact ⟨z, by simp only [resRun, Sem.run_bind]; rw [h1]; simp [asAddr, h2], h3⟩
theorem ress_run {tmps : Array Value} (he : EnvRel B G w n e tmps) (hr : Rel B G h w) : ∀ {rs : List ResultVar} {rcs : List Res} {xs : List V}, ressC P n rs = some rcs → rcs.mapM (resV h e) = some xs →
    rcs.length = rs.length ∧ xs.length = rcs.length ∧ ∃ us, (rs.mapM (resRun tmps)).run P w = .ok us w ∧ Rvs B G w xs us
  | [], rcs, xs, hc, hx => by
    simp [ressC] at hc; subst hc
    simp at hx; subst hx
    exact ⟨rfl, rfl, [], by simp, rvs_nil⟩
  | r :: rs, rcs, xs, hc, hx => by
    simp only [ressC] at hc
    split at hc <;> first | (cases hc; done) | skip
    rename_i rc rcs' e1 e2
    injection hc with hc; subst hc
    simp only [List.mapM_cons] at hx
    cases ex : resV h e rc with
    | none => simp [ex] at hx
    | some x =>
      cases ey : rcs'.mapM (resV h e) with
      | none => simp [ex, ey] at hx
      | some ys =>
        simp [ex, ey] at hx
        subst hx
        obtain ⟨u, hu, hru⟩ := res_run e1 ex he hr
        obtain ⟨h1, h2, us, hus, hrs⟩ := ress_run he hr e2 ey
        refine ⟨by simp [h1], by simp [h2], u :: us, ?_, rvs_cons hru hrs⟩
        simp only [List.mapM_cons, Sem.run_bind, hu, hus, Result.andThen_ok, Sem.run_pure]
theorem results_run {fn : Func} {rcs : List Res} {x : V} {tmps : Array Value} (he : EnvRel B G w n e tmps) (hr : Rel B G h w) (hc : ressC P n fn.results.toList = some rcs) (hx : resultsV h e rcs = some x) :
    ∃ u, (results fn tmps).run P w = .ok u w ∧ Rv B G w x u := by
  have hm : ∀ {us : List Value}, (fn.results.toList.mapM (resRun tmps)).run P w = .ok us w →
      (results fn tmps).run P w = .ok (if h : us.toArray.size = 1 then us.toArray[0] else .tuple us.toArray) w := by
    intro us hus
    rw [results_eq, Array.mapM_eq_mapM_toList]
    simp only [Sem.run_bind, Sem.run_map, hus, Result.andThen_ok, Sem.run_pure]
  unfold resultsV at hx
  split at hx
  · rename_i r
    obtain ⟨_, _, us, hus, hrs⟩ := ress_run (xs := [x]) he hr hc (by simp [List.mapM_cons, hx])
    obtain ⟨u, rfl⟩ := List.length_eq_one_iff.1 (show us.length = 1 by simpa using hrs.1)
    exact ⟨u, by rw [hm hus]; simp, hrs.2 0 x u rfl rfl⟩
  · rename_i hne
    obtain ⟨xs, hxs, rfl⟩ := map_some hx
    obtain ⟨_, hlen2, us, hus, hrs⟩ := ress_run he hr hc hxs
    refine ⟨.tuple us.toArray, ?_, .tup hrs.1 hrs.2⟩
    rw [hm hus]
    have hlen : us.length = rcs.length := by rw [hrs.1, hlen2]
    have h1 : ¬ us.toArray.size = 1 := by
      simp only [List.size_toArray, hlen]
      intro h1
      obtain ⟨r, rfl⟩ := List.length_eq_one_iff.1 h1
      exact hne r rfl
    rw [dif_neg h1]
end
end Go.Vm
end
section
namespace Go.Vm
set_option linter.unusedVariables false
set_option linter.unusedSimpArgs false
theorem get_congr {e e' : Env} {a : Arg} (h : ∀ t, a = .t t → e t = e' t) : a.get e = a.get e' := by
  cases a with
  | t n => exact h n rfl
  | c v => rfl
def AgreeL (e e' : Env) (as : List Arg) : Prop := ∀ t, Arg.t t ∈ as → e t = e' t
theorem AgreeL.get {e e' : Env} {as : List Arg} (h : AgreeL e e' as) {a : Arg} (ha : a ∈ as) : a.get e = a.get e' := get_congr fun t ht => h t (ht ▸ ha)
theorem AgreeL.map {e e' : Env} {as bs : List Arg} (h : AgreeL e e' as) (hs : ∀ b ∈ bs, b ∈ as) : bs.map (·.get e) = bs.map (·.get e') :=
  List.map_congr_left fun b hb => h.get (hs b hb)
theorem fillC_congr {e e' : Env} : ∀ {ps : List (Nat × Nat × Arg)} {cs : List V}, AgreeL e e' (ps.map (·.2.2)) → fillC e cs ps = fillC e' cs ps
  | [], cs, _ => rfl
  | (o, s, a) :: r, cs, h => by
    have h1 : a.get e = a.get e' := h.get (by simp)
    have h2 : AgreeL e e' (r.map (·.2.2)) := fun t ht => h t (by simp at ht ⊢; exact .inr ht)
    simp only [fillC, h1]
    split
    · exact fillC_congr h2
    · rfl
theorem boundO_congr {e e' : Env} {x : Option Arg} (h : AgreeL e e' x.toList) : boundO e x = boundO e' x := by
  cases x with
  | none => rfl
  | some a => simp only [boundO, h.get (a := a) (by simp)]
theorem AgreeL.sub {e e' : Env} {as bs : List Arg} (h : AgreeL e e' as) (hs : ∀ b ∈ bs, b ∈ as) : AgreeL e e' bs := fun t ht => h t (hs _ ht)
theorem stepI_congr {e e' : Env} {i : Ins} {h : Heap} (ha : AgreeL e e' i.args) : stepI i e h = stepI i e' h := by
  cases i <;> simp only [Ins.args] at ha <;> simp only [stepI]
  case bsl sz ps =>
    rw [ha.map (bs := ps) (fun b hb => hb)]
    have : ∀ qs : List Arg, (∀ p ∈ qs, p.get e = p.get e') → (qs.all fun p => decide ((cells (p.get e)).length = sz) && stor (p.get e)) = (qs.all fun p => decide ((cells (p.get e')).length = sz) && stor (p.get e')) := by
      intro qs
      induction qs with
      | nil => intro _; rfl
      | cons p qs ih => intro hq; simp only [List.all_cons, hq p (by simp), ih (fun x hx => hq x (by simp [hx]))]
    rw [this ps fun p hp => ha.get hp]
  case bslb ps =>
    rw [ha.map (bs := ps) (fun b hb => hb)]
    have : ∀ qs : List Arg, (∀ p ∈ qs, p.get e = p.get e') → (qs.all fun p => decide ((cells (p.get e)).length = 1) && stor (p.get e)) = (qs.all fun p => decide ((cells (p.get e')).length = 1) && stor (p.get e')) := by
      intro qs
      induction qs with
      | nil => intro _; rfl
      | cons p qs ih => intro hq; simp only [List.all_cons, hq p (by simp), ih (fun x hx => hq x (by simp [hx]))]
    rw [this ps fun p hp => ha.get hp]
  case build z ps => rw [fillC_congr ha]
  case mkfn f cs => rw [ha.map (fun b hb => hb)]
  case mn xs => rw [ha.map (fun b hb => hb)]
  case mx xs => rw [ha.map (fun b hb => hb)]
  case slstr x lo hi =>
    rw [ha.get (a := x) (by simp), boundO_congr (x := lo) (ha.sub (fun b hb => by simp at hb ⊢; simp [hb])), boundO_congr (x := hi) (ha.sub (fun b hb => by simp at hb ⊢; simp [hb]))]
  case slsl s x lo hi mx =>
    rw [ha.get (a := x) (by simp), boundO_congr (x := lo) (ha.sub (fun b hb => by simp at hb ⊢; simp [hb])), boundO_congr (x := hi) (ha.sub (fun b hb => by simp at hb ⊢; simp [hb])), boundO_congr (x := mx) (ha.sub (fun b hb => by simp at hb ⊢; simp [hb]))]
  all_goals first
    | rfl
    | (have hg : ∀ a, a ∈ _ → Arg.get e a = Arg.get e' a := fun a h => ha.get h
       simp at hg
       simp only [hg])
theorem callI_congr {e e' : Env} {i : Ins} (ha : AgreeL e e' i.args) : callI i e = callI i e' := by
  cases i <;> simp only [Ins.args] at ha <;> simp only [callI]
  case call f xs => rw [ha.map (fun b hb => hb)]
  case callv g xs => rw [ha.get (a := g) (by simp), ha.map (bs := xs) (fun b hb => by simp [hb])]
end Go.Vm
end
section
namespace Go.Vm
set_option linter.unusedVariables false
set_option linter.unusedSimpArgs false
section
variable {P : Program} {B : Nat} {G : Gh} {h h' : Heap} {w w0 : World} {n : Nat} {e e' : Env} {a : Act} {o : Oper} {v : V}
/-- One step of the text's order. -/
def StepD (P : Program) (w0 : World) (oc : OpC) (e : Env) (h : Heap) (v : V) (h1 : Heap) : Prop :=
  (oc.wanted e = false ∧ v = .tup [] ∧ h1 = h) ∨
  (oc.wanted e = true ∧ stepI oc.ins e h = some (v, h1) ∧ Ext h h1) ∨
  (oc.wanted e = true ∧ ∃ f args, callI oc.ins e = some (f, args) ∧ isFn P f = true ∧ Ext h h1 ∧ CallGood P w0 f args h v h1)
theorem run_of : ∀ {l : List OpC} {e : Env} {h : Heap} {e' : Env} {h' : Heap}, DGood P w0 l e h e' h' →
    ∃ (es : Nat → Env) (hs : Nat → Heap) (vs : Nat → V), es 0 = e ∧ hs 0 = h ∧ es l.length = e' ∧ hs l.length = h' ∧
      ∀ j oc, l[j]? = some oc → es (j + 1) = put (es j) oc.dst (vs j) ∧ StepD P w0 oc (es j) (hs j) (vs j) (hs (j + 1))
  | [], e, h, e', h', hd => ⟨fun _ => e, fun _ => h, fun _ => .tup [], rfl, rfl, hd.1.symm, hd.2.symm, fun j oc hj => by simp at hj⟩
  | o :: l, e, h, e', h', hd => by
    have step : ∀ (v : V) (h1 : Heap), StepD P w0 o e h v h1 → DGood P w0 l (put e o.dst v) h1 e' h' →
        ∃ (es : Nat → Env) (hs : Nat → Heap) (vs : Nat → V), es 0 = e ∧ hs 0 = h ∧ es (o :: l).length = e' ∧ hs (o :: l).length = h' ∧
          ∀ j oc, (o :: l)[j]? = some oc → es (j + 1) = put (es j) oc.dst (vs j) ∧ StepD P w0 oc (es j) (hs j) (vs j) (hs (j + 1)) := by
      intro v h1 hs1 hd1
      obtain ⟨es, hs, vs, a1, a2, a3, a4, a5⟩ := run_of hd1
      refine ⟨fun | 0 => e | j + 1 => es j, fun | 0 => h | j + 1 => hs j, fun | 0 => v | j + 1 => vs j, rfl, rfl, a3, a4, fun j oc hj => ?_⟩
      cases j with
      | zero =>
        simp at hj; subst hj
        exact ⟨a1, by show StepD P w0 o e h v (hs 0); rw [a2]; exact hs1⟩
      | succ j =>
        simp at hj
        exact a5 j oc hj
    rcases hd with ⟨hw, hd⟩ | ⟨hw, v, h1, hs, hx, hd⟩ | ⟨hw, f, args, v, h1, hs, hf, hx, hc, hd⟩
    · exact step _ _ (.inl ⟨hw, rfl, rfl⟩) hd
    · exact step _ _ (.inr (.inl ⟨hw, hs, hx⟩)) hd
    · exact step _ _ (.inr (.inr ⟨hw, f, args, hs, hf, hx, hc⟩)) hd
theorem StepD.ext {oc : OpC} {v : V} {h1 : Heap} (hs : StepD P w0 oc e h v h1) : Ext h h1 := by
  rcases hs with ⟨_, _, rfl⟩ | ⟨_, _, hx⟩ | ⟨_, _, _, _, _, hx, _⟩
  · exact fun _ _ => rfl
  · exact hx
  · exact hx
theorem Ext.len {h1 : Heap} (hx : Ext h h1) : h.length ≤ h1.length := by
  rcases Nat.lt_or_ge h1.length h.length with hlt | hge
  · have := hx h1.length hlt
    rw [List.getElem?_eq_none (Nat.le_refl _), List.getElem?_eq_getElem hlt] at this
    cases this
  · exact hge
theorem Ext.trans {h1 h2 : Heap} (a : Ext h h1) (b : Ext h1 h2) : Ext h h2 := fun i hi => (b i (Nat.lt_of_lt_of_le hi a.len)).trans (a i hi)
/-- The numbers below m alone. -/
def Gh.below (G : Gh) (m : Nat) : Gh := { blk := fun i => if i < m then G.blk i else none, tip := fun i => if i < m then G.tip i else none, lim := G.lim }
theorem below_blk {m i : Nat} {p : Nat × Nat} : (G.below m).blk i = some p ↔ i < m ∧ G.blk i = some p := by
  simp only [Gh.below]
  by_cases hi : i < m
  · rw [if_pos hi]; exact ⟨fun h => ⟨hi, h⟩, fun h => h.2⟩
  · rw [if_neg hi]; exact ⟨(fun h => by cases h), (fun h => absurd h.1 hi)⟩
theorem below_tip {m i : Nat} {p : Tip} : (G.below m).tip i = some p ↔ i < m ∧ G.tip i = some p := by
  simp only [Gh.below]
  by_cases hi : i < m
  · rw [if_pos hi]; exact ⟨fun h => ⟨hi, h⟩, fun h => h.2⟩
  · rw [if_neg hi]; exact ⟨(fun h => by cases h), (fun h => absurd h.1 hi)⟩
theorem le_below {G' : Gh} {w' : World} {m m' : Nat} (hm : m ≤ m') (hl : Le B (G.below m') w G' w') : Le B (G.below m) w G' w' :=
  ⟨fun i p e => hl.blk i p (below_blk.2 ⟨Nat.lt_of_lt_of_le (below_blk.1 e).1 hm, (below_blk.1 e).2⟩), fun i t e => hl.tip i t (below_tip.2 ⟨Nat.lt_of_lt_of_le (below_tip.1 e).1 hm, (below_tip.1 e).2⟩), hl.stab⟩
theorem below_le {m m' : Nat} (hm : m ≤ m') : Le B (G.below m) w (G.below m') w :=
  le_below hm (.refl _ _ _)
/-- What a block's number is. -/
def At (G : Gh) (id b : Nat) : Prop := (∃ n, G.blk id = some (b, n)) ∨ ∃ t, G.tip id = some t ∧ t.blk = b
theorem mapped_at {b : Nat} : Mapped G b ↔ ∃ id, At G id b := by
  constructor
  · rintro (⟨id, p, e, rfl⟩ | ⟨id, t, e, rfl⟩)
    · exact ⟨id, .inl ⟨p.2, e⟩⟩
    · exact ⟨id, .inr ⟨t, e, rfl⟩⟩
  · rintro ⟨id, ⟨n, e⟩ | ⟨t, e, rfl⟩⟩
    · exact .inl ⟨id, _, e, rfl⟩
    · exact .inr ⟨id, t, e, rfl⟩
/-- What has been run of a region, in whatever order. D: what has been run; es, hs, vs: the run in the text's order. -/
structure Inv (P : Program) (B n N : Nat) (l : List OpC) (hs : Nat → Heap) (vs : Nat → V) (e : Env) (G0 : Gh) (w00 : World) (ds : List Deferred) (D : Nat → Prop) (a : Act) (w : World) (G : Gh) : Prop where
  wf : Wf B G (hs N) w
  evo : Evo B G0 (hs 0) w00 G (hs N) w
  dom : ∀ id b, At G id b → id < (hs 0).length ∨ ∃ i, i < N ∧ D i ∧ (hs i).length ≤ id ∧ id < (hs (i + 1)).length
  old : ∀ id o, id < (hs 0).length → (hs N)[id]? = some o → ObjRel B (G.below (hs 0).length) w id o
  new : ∀ i id o, i < N → D i → (hs i).length ≤ id → id < (hs (i + 1)).length → (hs N)[id]? = some o → ObjRel B (G.below (hs (i + 1)).length) w id o
  size : a.tmps.size = n
  val : ∀ i oc d, l[i]? = some oc → D i → oc.dst = some d → d < n → Rv B (G.below (hs (i + 1)).length) w (vs i) (a.tmps.getD d undef)
  keep : ∀ t, t < n → (∀ i oc, l[i]? = some oc → D i → oc.dst ≠ some t) → Rv B (G.below (hs 0).length) w (e t) (a.tmps.getD t undef)
  sep : ∀ id id' b m, m ≤ N → At G id b → At G id' b → (id < (hs m).length ↔ id' < (hs m).length)
  defers : a.defers = ds
/-- A value of few numbers, related anew, is related by few numbers. -/
theorem Rv.few {G2 : Gh} {w2 : World} {m : Nat} {x : V} {u u2 : Value} (h1 : Rv B (G.below m) w x u) (h2 : Rv B G2 w2 x u2) : Rv B (G2.below m) w2 x u2 := by
  induction h1 generalizing u2 with
  | bool b => cases h2; exact .bool b
  | int k n => cases h2; exact .int k n
  | str s => cases h2; exact .str s
  | nilp => cases h2; exact .nilp
  | ptr h => cases h2 with | ptr h' => exact .ptr (below_blk.2 ⟨(below_blk.1 h).1, h'⟩)
  | iptr vs hc h1 hr ih =>
    cases h2 with
    | iptr vs' hc' h1' hr' => exact .iptr vs' hc' h1' fun k x hx => ih k x hx (hr' k x hx)
  | nsl => cases h2; exact .nsl
  | sl vs hsz hsp hcap hc h1 hr hfull htip ih =>
    cases h2 with
    | sl vs' hsz' hsp' hcap' hc' h1' hr' hfull' htip' =>
      refine .sl vs' hsz' hsp' hcap' hc' h1' (fun k x hx => ih k x hx (hr' k x hx)) hfull' fun id e => ?_
      obtain ⟨t, ht, _⟩ := htip id e
      obtain ⟨t', ht', h3⟩ := htip' id e
      exact ⟨t', below_tip.2 ⟨(below_tip.1 ht).1, ht'⟩, h3⟩
  | hsl h hl hn => cases h2 with | hsl h' hl' hn' => exact .hsl (below_blk.2 ⟨(below_blk.1 h).1, h'⟩) hl' hn'
  | nmap => cases h2; exact .nmap
  | map h => cases h2 with | map h' => exact .map (below_blk.2 ⟨(below_blk.1 h).1, h'⟩)
  | nfn => cases h2; exact .nfn
  | fn hl hr ih =>
    rename_i f caps vs
    cases h2 with
    | fn hl' hr' =>
      refine .fn hl' fun k x v hx hv => ?_
      have hk : k < vs.length := by rw [hl]; exact (List.getElem?_eq_some_iff.1 hx).1
      exact ih k x _ hx (List.getElem?_eq_getElem hk) (hr' k x v hx hv)
  | agg hl h1 hr ih =>
    rename_i cs vs
    cases h2 with
    | agg hl' h1' hr' =>
      refine .agg hl' h1' fun k x v hx hv => ?_
      have hk : k < vs.length := by rw [hl]; exact (List.getElem?_eq_some_iff.1 hx).1
      exact ih k x _ hx (List.getElem?_eq_getElem hk) (hr' k x v hx hv)
  | tup hl hr ih =>
    rename_i cs vs
    cases h2 with
    | tup hl' hr' =>
      refine .tup hl' fun k x v hx hv => ?_
      have hk : k < vs.length := by rw [hl]; exact (List.getElem?_eq_some_iff.1 hx).1
      exact ih k x _ hx (List.getElem?_eq_getElem hk) (hr' k x v hx hv)
/-- The same of a box's content. -/
theorem ObjRel.few {G2 : Gh} {w2 : World} {m id : Nat} {ob : O} (h1 : ObjRel B (G.below m) w id ob) (h2 : ObjRel B G2 w2 id ob) (hid : ∀ p, (G2.below m).blk id = some p → (G.below m).blk id = some p) : ObjRel B (G2.below m) w2 id ob := by
  cases ob with
  | box cs =>
    intro b k e
    have e0 := hid _ e
    obtain ⟨arr, T, fz, a1, a2, a3, a4, a5, a6⟩ := (h2 b k (below_blk.1 e).2).out
    obtain ⟨arr', T', fz', _, _, _, _, _, b6⟩ := (h1 b k e0).out
    refine ⟨arr, T, fz, a1, a2, a3, a4, a5, fun j x hx => ?_⟩
    obtain ⟨u, hu, hru⟩ := a6 j x hx
    obtain ⟨u', _, hru'⟩ := b6 j x hx
    exact ⟨u, hu, hru'.few hru⟩
  | map es =>
    intro b k e
    have e0 := hid _ e
    obtain ⟨l, c, a1, a2⟩ := h2 b k (below_blk.1 e).2
    obtain ⟨l', c', _, b2⟩ := h1 b k e0
    refine ⟨l, c, a1, a2.1, fun j x y hx hy => ?_⟩
    have hj : j < l'.toList.length := by rw [b2.1]; exact (List.getElem?_eq_some_iff.1 hx).1
    have c1 := b2.2 j x _ hx (List.getElem?_eq_getElem hj)
    have c2 := a2.2 j x y hx hy
    exact ⟨c1.1.few c2.1, c1.2.few c2.2⟩
  | tip k =>
    intro t e
    exact h2 t (below_tip.1 e).2
  | dead => trivial
theorem ext_chain {hs : Nat → Heap} {N : Nat} (hx : ∀ j, j < N → Ext (hs j) (hs (j + 1))) : ∀ (d i : Nat), i + d ≤ N → Ext (hs i) (hs (i + d))
  | 0, i, _ => fun _ _ => rfl
  | d + 1, i, hle => (ext_chain hx d i (by omega)).trans (hx (i + d) (by omega))
theorem ext_le {hs : Nat → Heap} {N : Nat} (hx : ∀ j, j < N → Ext (hs j) (hs (j + 1))) {i j : Nat} (hij : i ≤ j) (hj : j ≤ N) : Ext (hs i) (hs j) := by
  have := ext_chain hx (j - i) i (by omega)
  rwa [show i + (j - i) = j by omega] at this
theorem Ext.alive {h1 : Heap} (hx : Ext h h1) {i : Nat} (hi : i < h.length) : alive h1 i ↔ alive h i := by
  simp only [Go.Vm.alive, hx i hi]
/-- The ghosts put together: what the operation i made, and what others made. -/
def Gh.merge (G G1 : Gh) (m : Nat) : Gh := { blk := fun i => if i < m then G1.blk i else G.blk i, tip := fun i => if i < m then G1.tip i else G.tip i, lim := G1.lim }
theorem merge_blk {G1 : Gh} {m i : Nat} : (G.merge G1 m).blk i = if i < m then G1.blk i else G.blk i := rfl
theorem merge_tip {G1 : Gh} {m i : Nat} : (G.merge G1 m).tip i = if i < m then G1.tip i else G.tip i := rfl
variable {N : Nat} {l : List OpC} {hs : Nat → Heap} {vs : Nat → V} {G0 : Gh} {w00 : World} {ds : List Deferred} {D : Nat → Prop}
/-- What one more operation does to what has been run. -/
theorem Inv.next {i : Nat} {oc : OpC} {G1 : Gh} {w1 : World} {val : Value} (hI : Inv P B n N l hs vs e G0 w00 ds D a w G) (hi : i < N) (hl : l[i]? = some oc) (hnD : ¬ D i) (hx : ∀ j, j < N → Ext (hs j) (hs (j + 1))) (hlN : l.length = N)
    (hdst : ∀ (j k : Nat) (oj ok : OpC) (d : Tmp), j ≠ k → l[j]? = some oj → l[k]? = some ok → oj.dst = some d → ok.dst ≠ some d) (hdn : dstOk n oc.dst = true)
    (hrel : Rel B G1 (hs (i + 1)) w1) (hevo : Evo B (G.below (hs i).length) (hs i) w G1 (hs (i + 1)) w1) (hv : Rv B G1 w1 (vs i) val) :
    Inv P B n N l hs vs e G0 w00 ds (fun j => D j ∨ j = i) (a.put oc.dst val) w1 (G.merge G1 (hs (i + 1)).length) := by
  have hw := hI.wf
  have hw1 := hrel.wf
  have len01 : (hs i).length ≤ (hs (i + 1)).length := (hx i hi).len
  have lenle : ∀ {j k}, j ≤ k → k ≤ N → (hs j).length ≤ (hs k).length := fun hjk hk => (ext_le hx hjk hk).len
  -- numbers of the operation i are its own
  have range_none : ∀ id b, (hs i).length ≤ id → id < (hs (i + 1)).length → ¬ At G id b := by
    intro id b h1 h2 hat
    rcases hI.dom id b hat with h3 | ⟨k, hk, hDk, h3, h4⟩
    · have := lenle (Nat.zero_le i) (Nat.le_of_lt hi); omega
    · rcases Nat.lt_trichotomy k i with hlt | rfl | hgt
      · have := lenle (show k + 1 ≤ i from hlt) (Nat.le_of_lt hi); omega
      · exact hnD hDk
      · have := lenle (show i + 1 ≤ k from hgt) (Nat.le_of_lt hk); omega
  have blk_old : ∀ id p, id < (hs i).length → (G1.blk id = some p ↔ G.blk id = some p) := by
    intro id p hid
    constructor
    · intro e1; exact (below_blk.1 (hevo.oldb id p hid e1)).2
    · intro e1; exact hevo.le.blk id p (below_blk.2 ⟨hid, e1⟩)
  have tip_old : ∀ id t, id < (hs i).length → (G1.tip id = some t ↔ G.tip id = some t) := by
    intro id t hid
    have same : ∀ t t', G.tip id = some t → G1.tip id = some t' → t' = t := by
      intro t t' e1 e2
      obtain ⟨t'', e3, h1, h2⟩ := hevo.le.tip id t (below_tip.2 ⟨hid, e1⟩)
      have : t'' = t' := Option.some.inj (e3.symm.trans e2)
      subst this
      have a1 := hw.tipo id t e1
      have a2 := hw1.tipo id t'' e2
      rw [ext_le hx (show i + 1 ≤ N from hi) (Nat.le_refl _) id (by omega)] at a1
      rw [a1] at a2
      injection a2 with a2
      injection a2 with a2
      exact h2 a2
    constructor
    · intro e1
      obtain ⟨t0, e0, _⟩ := hevo.oldt id t hid e1
      have e0' := (below_tip.1 e0).2
      rw [same t0 t e0' e1]; exact e0'
    · intro e1
      obtain ⟨t'', e3, h1, h2⟩ := hevo.le.tip id t (below_tip.2 ⟨hid, e1⟩)
      rw [same t t'' e1 e3] at e3; exact e3
  have at_old : ∀ id b, id < (hs i).length → (At G1 id b ↔ At G id b) := by
    intro id b hid
    unfold At
    constructor
    · rintro (⟨k, e1⟩ | ⟨t, e1, h1⟩)
      · exact .inl ⟨k, (blk_old id _ hid).1 e1⟩
      · exact .inr ⟨t, (tip_old id t hid).1 e1, h1⟩
    · rintro (⟨k, e1⟩ | ⟨t, e1, h1⟩)
      · exact .inl ⟨k, (blk_old id _ hid).2 e1⟩
      · exact .inr ⟨t, (tip_old id t hid).2 e1, h1⟩
  have at_merge : ∀ id b, At (G.merge G1 (hs (i + 1)).length) id b ↔ if id < (hs (i + 1)).length then At G1 id b else At G id b := by
    intro id b
    unfold At
    simp only [merge_blk, merge_tip]
    by_cases hid : id < (hs (i + 1)).length
    · simp only [if_pos hid]
    · simp only [if_neg hid]
  have at_lt : ∀ id b, At G id b → b < w.heap.size := by
    rintro id b (⟨k, e1⟩ | ⟨t, e1, rfl⟩)
    · exact (hw.blk id _ e1).2.1
    · exact (hw.tip id t e1).2.1
  have new_ge : ∀ id b, (hs i).length ≤ id → At G1 id b → w.heap.size ≤ b := by
    rintro id b hid (⟨k, e1⟩ | ⟨t, e1, rfl⟩)
    · rcases hevo.newb id _ hid e1 with h1 | ⟨y, q, hy, hq, _, hal, hn⟩
      · exact h1
      · exact absurd (((hx i hi).alive hy).2 hal) hn
    · exact hevo.newt id t hid e1
  have at_id : ∀ id b, At G id b → id < (hs N).length := by
    rintro id b (⟨k, e1⟩ | ⟨t, e1, rfl⟩)
    · exact (hw.blk id _ e1).2.2.2
    · exact (hw.tip id t e1).2.2.2
  -- a block of a later operation is not met
  have later : ∀ id b, (hs i).length ≤ id → At G id b → ¬ Mapped (G.below (hs i).length) b := by
    intro id b hid hat hm
    obtain ⟨id', hat'⟩ := mapped_at.1 hm
    have h1 : id' < (hs i).length ∧ At G id' b := by
      rcases hat' with ⟨k, e1⟩ | ⟨t, e1, h2⟩
      · exact ⟨(below_blk.1 e1).1, .inl ⟨k, (below_blk.1 e1).2⟩⟩
      · exact ⟨(below_tip.1 e1).1, .inr ⟨t, (below_tip.1 e1).2, h2⟩⟩
    have := (hI.sep id id' b i (Nat.le_of_lt hi) hat h1.2).2 h1.1
    omega
  have mapped_below : ∀ b, Mapped (G.below (hs i).length) b → Mapped G b := by
    intro b hm
    obtain ⟨id', hat'⟩ := mapped_at.1 hm
    refine mapped_at.2 ⟨id', ?_⟩
    rcases hat' with ⟨k, e1⟩ | ⟨t, e1, h2⟩
    · exact .inl ⟨k, (below_blk.1 e1).2⟩
    · exact .inr ⟨t, (below_tip.1 e1).2, h2⟩
  -- what is known goes on
  have hle : Le B G w (G.merge G1 (hs (i + 1)).length) w1 := by
    refine ⟨fun id p e1 => ?_, fun id t e1 => ?_, fun b k hsn => ?_⟩
    · rw [merge_blk]
      split <;> rename_i hid
      · rcases Nat.lt_or_ge id (hs i).length with h1 | h1
        · exact (blk_old id p h1).2 e1
        · exact absurd (.inl ⟨p.2, e1⟩) (range_none id p.1 h1 hid)
      · exact e1
    · refine ⟨t, ?_, Nat.le_refl _, fun _ => rfl⟩
      rw [merge_tip]
      split <;> rename_i hid
      · rcases Nat.lt_or_ge id (hs i).length with h1 | h1
        · exact (tip_old id t h1).2 e1
        · exact absurd (.inr ⟨t, e1, rfl⟩) (range_none id t.blk h1 hid)
      · exact e1
    · exact hevo.le.stab b k hsn
  have hle1 : Le B G1 w1 ((G.merge G1 (hs (i + 1)).length).below (hs (i + 1)).length) w1 := by
    refine ⟨fun id p e1 => below_blk.2 ⟨(hw1.blk id p e1).2.2.2, by rw [merge_blk, if_pos (hw1.blk id p e1).2.2.2]; exact e1⟩, fun id t e1 => ⟨t, below_tip.2 ⟨(hw1.tip id t e1).2.2.2, by rw [merge_tip, if_pos (hw1.tip id t e1).2.2.2]; exact e1⟩, Nat.le_refl _, fun _ => rfl⟩, fun b k hsn => ⟨hsn, rfl⟩⟩
  have hleb : ∀ m, Le B (G.below m) w ((G.merge G1 (hs (i + 1)).length).below m) w1 := fun m =>
    ⟨fun id p e1 => below_blk.2 ⟨(below_blk.1 e1).1, hle.blk id p (below_blk.1 e1).2⟩, fun id t e1 => by
      obtain ⟨t', e2, h1, h2⟩ := hle.tip id t (below_tip.1 e1).2
      exact ⟨t', below_tip.2 ⟨(below_tip.1 e1).1, e2⟩, h1, h2⟩, hle.stab⟩
  have lenN : (hs (i + 1)).length ≤ (hs N).length := lenle hi (Nat.le_refl _)
  have hsz : w.heap.size ≤ w1.heap.size := hevo.size
  -- objects
  have obj_old : ∀ m id ob, m ≤ (hs i).length → id < (hs i).length → (hs N)[id]? = some ob → ObjRel B (G.below m) w id ob → ObjRel B ((G.merge G1 (hs (i + 1)).length).below m) w1 id ob := by
    intro m id ob hm hid hob h1
    have e1 : (hs (i + 1))[id]? = some ob := by rw [← hob]; exact (ext_le hx (show i + 1 ≤ N from hi) (Nat.le_refl _) id (by omega)).symm
    have h2 := hrel.obj id ob e1
    have h3 : ObjRel B (G1.below m) w1 id ob := h1.few h2 fun p ep => below_blk.2 ⟨(below_blk.1 ep).1, (blk_old id p hid).1 (below_blk.1 ep).2⟩
    have hl3 : Le B (G1.below m) w1 ((G.merge G1 (hs (i + 1)).length).below m) w1 := by
      refine ⟨fun id p e1 => below_blk.2 ⟨(below_blk.1 e1).1, ?_⟩, fun id t e1 => ⟨t, below_tip.2 ⟨(below_tip.1 e1).1, ?_⟩, Nat.le_refl _, fun _ => rfl⟩, fun b k hsn => ⟨hsn, rfl⟩⟩
      · rw [merge_blk, if_pos (hw1.blk id p (below_blk.1 e1).2).2.2.2]; exact (below_blk.1 e1).2
      · rw [merge_tip, if_pos (hw1.tip id t (below_tip.1 e1).2).2.2.2]; exact (below_tip.1 e1).2
    refine h3.mono hl3 (fun _ p ep => ⟨below_blk.2 ⟨(below_blk.1 ep).1, ?_⟩, rfl⟩) (fun _ t et => ⟨below_tip.2 ⟨(below_tip.1 et).1, ?_⟩, rfl⟩)
    · have := (below_blk.1 ep).2; rw [merge_blk, if_pos (by omega)] at this; exact this
    · have := (below_tip.1 et).2; rw [merge_tip, if_pos (by omega)] at this; exact this
  have obj_late : ∀ m id ob, (hs (i + 1)).length ≤ id → ObjRel B (G.below m) w id ob → ObjRel B ((G.merge G1 (hs (i + 1)).length).below m) w1 id ob := by
    intro m id ob hid h1
    refine h1.mono (hleb m) (fun _ p ep => ?_) (fun _ t et => ?_)
    · have e1 := (below_blk.1 ep).2
      rw [merge_blk, if_neg (by omega)] at e1
      exact ⟨below_blk.2 ⟨(below_blk.1 ep).1, e1⟩, hevo.frame _ (hw.blk id p e1).2.1 (later id p.1 (by omega) (.inl ⟨p.2, e1⟩))⟩
    · have e1 := (below_tip.1 et).2
      rw [merge_tip, if_neg (by omega)] at e1
      exact ⟨below_tip.2 ⟨(below_tip.1 et).1, e1⟩, hevo.frame _ (hw.tip id t e1).2.1 (later id t.blk (by omega) (.inr ⟨t, e1, rfl⟩))⟩
  have len0i : (hs 0).length ≤ (hs i).length := lenle (Nat.zero_le i) (Nat.le_of_lt hi)
  -- two numbers of one block
  have sep1 : ∀ id id' b, id < (hs (i + 1)).length → (hs (i + 1)).length ≤ id' → At G1 id b → At G id' b → False := by
    intro id id' b h1 h2 ha ha'
    rcases Nat.lt_or_ge id (hs i).length with h3 | h3
    · have := (hI.sep id id' b i (Nat.le_of_lt hi) ((at_old id b h3).1 ha) ha').1 h3; omega
    · have := new_ge id b h3 ha; have := at_lt id' b ha'; omega
  refine ⟨?_, ?_, ?_, ?_, ?_, ?_, ?_, ?_, ?_, ?_⟩
  · -- Wf
    refine ⟨Nat.le_trans hw.base hsz, ?_, ?_, ?_, ?_, ?_, ?_⟩
    · intro id p ep
      rw [merge_blk] at ep
      split at ep
      · obtain ⟨c1, c2, c3, c4⟩ := hw1.blk id p ep
        exact ⟨c1, c2, c3, by omega⟩
      · rename_i hid
        obtain ⟨c1, c2, c3, c4⟩ := hw.blk id p ep
        exact ⟨c1, by omega, (hevo.limk p.1 c2 (later id p.1 (by omega) (.inl ⟨p.2, ep⟩))).trans c3, c4⟩
    · intro id t et
      rw [merge_tip] at et
      split at et
      · obtain ⟨c1, c2, c3, c4⟩ := hw1.tip id t et
        exact ⟨c1, c2, c3, by omega⟩
      · rename_i hid
        obtain ⟨c1, c2, c3, c4⟩ := hw.tip id t et
        exact ⟨c1, by omega, (hevo.limk t.blk c2 (later id t.blk (by omega) (.inr ⟨t, et, rfl⟩))).trans c3, c4⟩
    · exact hw1.lim
    · intro x y p q ex ey hpq ax ay
      rw [merge_blk] at ex ey
      split at ex <;> rename_i hxl <;> split at ey <;> rename_i hyl
      · exact hw1.inj x y p q ex ey hpq (((ext_le hx (show i + 1 ≤ N from hi) (Nat.le_refl _)).alive hxl).1 ax) (((ext_le hx (show i + 1 ≤ N from hi) (Nat.le_refl _)).alive hyl).1 ay)
      · exact (sep1 x y p.1 hxl (by omega) (.inl ⟨p.2, ex⟩) (.inl ⟨q.2, by rw [hpq]; exact ey⟩)).elim
      · exact (sep1 y x p.1 hyl (by omega) (.inl ⟨q.2, by rw [hpq]; exact ey⟩) (.inl ⟨p.2, ex⟩)).elim
      · exact hw.inj x y p q ex ey hpq ax ay
    · intro x y p q ex ey hpq
      rw [merge_tip] at ex ey
      split at ex <;> rename_i hxl <;> split at ey <;> rename_i hyl
      · exact hw1.tinj x y p q ex ey hpq
      · exact (sep1 x y p.blk hxl (by omega) (.inr ⟨p, ex, rfl⟩) (.inr ⟨q, ey, hpq.symm⟩)).elim
      · exact (sep1 y x p.blk hyl (by omega) (.inr ⟨q, ey, hpq.symm⟩) (.inr ⟨p, ex, rfl⟩)).elim
      · exact hw.tinj x y p q ex ey hpq
    · intro id t et
      rw [merge_tip] at et
      split at et
      · rename_i hid
        rw [ext_le hx (show i + 1 ≤ N from hi) (Nat.le_refl _) id hid]
        exact hw1.tipo id t et
      · exact hw.tipo id t et
  · -- Evo
    have ev := hI.evo
    exact {
      le := ev.le.trans hle, os := hevo.os.trans ev.os, tape := hevo.tape.trans ev.tape, output := hevo.output.trans ev.output, size := Nat.le_trans ev.size hsz, len := ev.len
      frame := fun b hb hm => (hevo.frame b (Nat.lt_of_lt_of_le hb ev.size) fun m => hm (ev.fresh b hb (mapped_below b m))).trans (ev.frame b hb hm)
      fresh := by
        intro b hb hm
        obtain ⟨id, hat⟩ := mapped_at.1 hm
        rw [at_merge] at hat
        split at hat
        · have := hevo.fresh b (Nat.lt_of_lt_of_le hb ev.size) (mapped_at.2 ⟨id, hat⟩)
          exact ev.fresh b hb (mapped_below b this)
        · exact ev.fresh b hb (mapped_at.2 ⟨id, hat⟩)
      limk := fun b hb hm => (hevo.limk b (Nat.lt_of_lt_of_le hb ev.size) fun m => hm (ev.fresh b hb (mapped_below b m))).trans (ev.limk b hb hm)
      nores := ev.nores
      oldb := by
        intro x p hxl ep
        rw [merge_blk, if_pos (by omega)] at ep
        exact ev.oldb x p hxl ((blk_old x p (by omega)).1 ep)
      oldt := by
        intro x t hxl et
        rw [merge_tip, if_pos (by omega)] at et
        exact ev.oldt x t hxl ((tip_old x t (by omega)).1 et)
      newb := by
        intro x p hxl ep
        rw [merge_blk] at ep
        split at ep
        · rcases Nat.lt_or_ge x (hs i).length with h1 | h1
          · exact ev.newb x p hxl ((blk_old x p h1).1 ep)
          · exact .inl (Nat.le_trans ev.size (new_ge x p.1 h1 (.inl ⟨p.2, ep⟩)))
        · exact ev.newb x p hxl ep
      newt := by
        intro x t hxl et
        rw [merge_tip] at et
        split at et
        · rcases Nat.lt_or_ge x (hs i).length with h1 | h1
          · exact ev.newt x t hxl ((tip_old x t h1).1 et)
          · exact Nat.le_trans ev.size (new_ge x t.blk h1 (.inr ⟨t, et, rfl⟩))
        · exact ev.newt x t hxl et }
  · -- dom
    intro id b hat
    rw [at_merge] at hat
    split at hat
    · rename_i hid
      rcases Nat.lt_or_ge id (hs i).length with h1 | h1
      · rcases hI.dom id b ((at_old id b h1).1 hat) with h2 | ⟨k, hk, hDk, h2⟩
        · exact .inl h2
        · exact .inr ⟨k, hk, .inl hDk, h2⟩
      · exact .inr ⟨i, hi, .inr rfl, h1, hid⟩
    · rcases hI.dom id b hat with h2 | ⟨k, hk, hDk, h2⟩
      · exact .inl h2
      · exact .inr ⟨k, hk, .inl hDk, h2⟩
  · -- old
    intro id ob hid hob
    exact obj_old _ id ob len0i (by omega) hob (hI.old id ob hid hob)
  · -- new
    intro k id ob hk hDk h1 h2 hob
    rcases Nat.lt_trichotomy k i with hlt | rfl | hgt
    · have hDk' : D k := hDk.resolve_right (by omega)
      have := lenle (show k + 1 ≤ i from hlt) (Nat.le_of_lt hi)
      exact obj_old _ id ob this (by omega) hob (hI.new k id ob hk hDk' h1 h2 hob)
    · have e1 : (hs (k + 1))[id]? = some ob := by rw [← hob]; exact (ext_le hx (show k + 1 ≤ N from hi) (Nat.le_refl _) id h2).symm
      refine (hrel.obj id ob e1).mono hle1 (fun _ p ep => ⟨?_, rfl⟩) (fun _ t et => ⟨?_, rfl⟩)
      · have := (below_blk.1 ep).2; rw [merge_blk, if_pos h2] at this; exact this
      · have := (below_tip.1 et).2; rw [merge_tip, if_pos h2] at this; exact this
    · have hDk' : D k := hDk.resolve_right (by omega)
      have := lenle (show i + 1 ≤ k from hgt) (Nat.le_of_lt hk)
      exact obj_late _ id ob (by omega) (hI.new k id ob hk hDk' h1 h2 hob)
  · cases oc with | mk dst g ins => cases dst <;> simp [Act.put, hI.size]
  · -- val
    intro k ock d hlk hDk hd hdlt
    by_cases hki : k = i
    · subst hki
      have : ock = oc := Option.some.inj (hlk.symm.trans hl)
      subst this
      have hget : (a.put ock.dst val).tmps.getD d undef = val := by simp [Act.put, hd, hI.size, hdlt]
      rw [hget]
      exact hv.mono hle1
    · have hDk' : D k := hDk.resolve_right hki
      have hne := hdst k i ock oc d hki hlk hl hd
      have hget : (a.put oc.dst val).tmps.getD d undef = a.tmps.getD d undef := by
        cases hdd : oc.dst with
        | none => rfl
        | some d' =>
          have : d' ≠ d := fun hh => hne (by rw [hdd, hh])
          simp [Act.put, Array.getElem?_setIfInBounds_ne this]
      rw [hget]
      exact (hI.val k ock d hlk hDk' hd hdlt).mono (hleb _)
  · -- keep
    intro t ht hno
    have hne : oc.dst ≠ some t := hno i oc hl (.inr rfl)
    have hget : (a.put oc.dst val).tmps.getD t undef = a.tmps.getD t undef := by
      cases hdd : oc.dst with
      | none => rfl
      | some d' =>
        have : d' ≠ t := fun hh => hne (by rw [hdd, hh])
        simp [Act.put, Array.getElem?_setIfInBounds_ne this]
    rw [hget]
    exact (hI.keep t ht fun k ock hlk hDk => hno k ock hlk (.inl hDk)).mono (hleb _)
  · -- sep
    intro id id' b m hm ha ha'
    rw [at_merge] at ha ha'
    have rng : ∀ x, (hs i).length ≤ x → x < (hs (i + 1)).length → (x < (hs m).length ↔ i + 1 ≤ m) := by
      intro x h1 h2
      constructor
      · intro h3
        rcases Nat.lt_or_ge m (i + 1) with h4 | h4
        · have := lenle (show m ≤ i by omega) (Nat.le_of_lt hi); omega
        · exact h4
      · intro h3
        have := lenle h3 hm; omega
    split at ha <;> rename_i h1 <;> split at ha' <;> rename_i h2
    · rcases Nat.lt_or_ge id (hs i).length with h3 | h3 <;> rcases Nat.lt_or_ge id' (hs i).length with h4 | h4
      · exact hI.sep id id' b m hm ((at_old id b h3).1 ha) ((at_old id' b h4).1 ha')
      · have := new_ge id' b h4 ha'; have := at_lt id b ((at_old id b h3).1 ha); omega
      · have := new_ge id b h3 ha; have := at_lt id' b ((at_old id' b h4).1 ha'); omega
      · rw [rng id h3 h1, rng id' h4 h2]
    · exact (sep1 id id' b h1 (by omega) ha ha').elim
    · exact (sep1 id' id b h2 (by omega) ha' ha).elim
    · exact hI.sep id id' b m hm ha ha'
  · rw [put_defers]; exact hI.defers
/-! ### What the compiler saw of a region -/
structure Seen (P : Program) (n : Nat) (ops : Array Oper) (l : List OpC) : Prop where
  len : l.length ≤ ops.size
  at_ : ∀ (j : Nat) (oc : OpC), l[j]? = some oc → ∃ oj g i, ops[j]? = some oj ∧ guardC ops n oj.guard = some g ∧ insC P n oj = some i ∧ dstOk n oj.dst = true ∧ oc = (OpC.mk oj.dst g i)
theorem seen_of {ops : Array Oper} : ∀ {os : List Oper} {l : List OpC}, opsC P ops n os = some l → l.length = os.length ∧
    ∀ (j : Nat) (oc : OpC), l[j]? = some oc → ∃ oj g i, os[j]? = some oj ∧ guardC ops n oj.guard = some g ∧ insC P n oj = some i ∧ dstOk n oj.dst = true ∧ oc = (OpC.mk oj.dst g i)
  | [], l, hc => by simp [opsC] at hc; subst hc; exact ⟨rfl, fun j oc hj => by simp at hj⟩
  | o :: os, l, hc => by
    cases l with
    | nil =>
      simp only [opsC] at hc
      split at hc <;> cases hc
    | cons x l =>
      obtain ⟨o', r, g, i, he, h1, h2, h3, h4, rfl⟩ := opsC_cons hc
      injection he with e1 e2; subst e1; subst e2
      obtain ⟨h5, h6⟩ := seen_of h1
      refine ⟨by simp [h5], fun j oc hj => ?_⟩
      cases j with
      | zero => simp at hj; subst hj; exact ⟨o, g, i, by simp, h2, h3, h4, rfl⟩
      | succ j => simp at hj; simpa using h6 j oc hj
theorem drawOk_spec {ops : Array Oper} (hok : drawOk ops l = true) {j : Nat} {oj : Oper} {cj : OpC} (hj : ops[j]? = some oj) (hcj : l[j]? = some cj) :
    (∀ cs b, oj.op ≠ .select cs b) ∧ (∀ ed ∈ oj.after, Region.binds .any ed = true → ed.on < j) ∧
    ∀ i oi ci, i < j → ops[i]? = some oi → l[i]? = some ci → (∀ d, oi.dst = some d → oj.dst ≠ some d) ∧
      (waits oj i = true ∨ ((∀ d, oi.dst = some d → looksO ops oj d = false ∧ cj.looks d = false) ∧ (∀ d, oj.dst = some d → looksO ops oi d = false ∧ ci.looks d = false))) := by
  have hjlt : j < l.length := (List.getElem?_eq_some_iff.1 hcj).1
  have h1 := List.all_eq_true.1 hok j (List.mem_range.2 hjlt)
  simp only [hj, hcj, Bool.and_eq_true] at h1
  obtain ⟨⟨h2, h3⟩, h4⟩ := h1
  refine ⟨?_, ?_, ?_⟩
  · intro cs b hsel
    rw [hsel] at h2
    cases h2
  · intro ed hed hb
    have := Array.all_eq_true'.1 h3 ed hed
    simpa [hb] using this
  · intro i oi ci hij hoi hci
    have h5 := List.all_eq_true.1 h4 i (List.mem_range.2 hij)
    simp only [hoi, hci, Bool.and_eq_true, Bool.or_eq_true] at h5
    obtain ⟨h6, h7⟩ := h5
    refine ⟨fun d hd => ?_, h7.imp id fun h8 => ⟨fun d hd => ?_, fun d hd => ?_⟩⟩
    · simp only [hd] at h6
      simpa using h6
    · have := h8.1
      simp only [hd, Bool.and_eq_true, Bool.not_eq_true'] at this
      exact this
    · have := h8.2
      simp only [hd, Bool.and_eq_true, Bool.not_eq_true'] at this
      exact this
theorem not_looks {ci : OpC} {t : Nat} (hl : ci.looks t = false) : Arg.t t ∉ ci.ins.args ∧ ∀ b, ci.guard ≠ some (t, b) := by
  unfold OpC.looks at hl
  rw [Bool.or_eq_false_iff] at hl
  refine ⟨fun hm => ?_, fun b hg => ?_⟩
  · have := List.any_eq_false.1 hl.1 _ hm
    simp at this
  · rw [hg] at hl
    simp at hl
/-- An act with one temporary's value put in. -/
def putX : Option (Tmp × Value) → Act → Act
  | none, a => a
  | some (d, v), a => a.put (some d) v
theorem putX_get {xp : Option (Tmp × Value)} {a : Act} {t : Nat} (h : ∀ d v, xp = some (d, v) → t ≠ d) : (putX xp a).tmps[t]? = a.tmps[t]? := by
  cases xp with
  | none => rfl
  | some p =>
    obtain ⟨d, v⟩ := p
    simp only [putX, Act.put]
    exact Array.getElem?_setIfInBounds_ne (fun hh => h d v rfl hh.symm)
theorem putX_put {xp : Option (Tmp × Value)} {a : Act} {o : Option Tmp} {u : Value} (h : ∀ d v, xp = some (d, v) → o ≠ some d) : (putX xp a).put o u = putX xp (a.put o u) := by
  cases xp with
  | none => rfl
  | some p =>
    obtain ⟨d, v⟩ := p
    cases o with
    | none => rfl
    | some d' =>
      have hne : d ≠ d' := fun hh => h d v rfl (by rw [hh])
      simp only [putX, Act.put]
      rw [Array.setIfInBounds_comm _ _ hne]
theorem putX_exec {ops : Array Oper} {o : Oper} {ci : OpC} {xp : Option (Tmp × Value)} {a : Act} (hsel : ∀ cs b, o.op ≠ .select cs b) (hxl : ∀ d v, xp = some (d, v) → looksO ops o d = false ∧ ci.looks d = false ∧ o.dst ≠ some d) :
    execOp (putX xp a).eval o = execOp a.eval o := execOp_congr o hsel fun y hy => by
  cases y with
  | tmp t =>
    have hne : ∀ d v, xp = some (d, v) → t ≠ d := by
      intro d v hx he
      subst he
      have h1 := (hxl _ v hx).1
      have hmem : t ∈ o.looksAt ops := List.mem_append_left _ (List.mem_filterMap.2 ⟨.tmp t, by simpa using hy, rfl⟩)
      simp only [looksO] at h1
      rw [List.contains_iff_mem.2 hmem] at h1
      cases h1
    show (putX xp a).tmps.getD t undef = a.tmps.getD t undef
    rw [Array.getD_eq_getD_getElem?, Array.getD_eq_getD_getElem?, putX_get hne]
  | const c => rfl
  | global c => rfl
  | func c => rfl
theorem putX_wanted {ops : Array Oper} {o : Oper} {ci : OpC} {xp : Option (Tmp × Value)} {a : Act} (hxl : ∀ d v, xp = some (d, v) → looksO ops o d = false ∧ ci.looks d = false ∧ o.dst ≠ some d) :
    Region.wanted o (yielded ops (putX xp a).tmps) = Region.wanted o (yielded ops a.tmps) := by
  unfold Region.wanted
  cases hgd : o.guard with
  | none => rfl
  | some jb =>
    obtain ⟨j, b⟩ := jb
    have e1 : yielded ops (putX xp a).tmps j = yielded ops a.tmps j := by
      unfold yielded
      cases ht : (ops[j]?).bind (·.dst) with
      | none => rfl
      | some t =>
        have hne : ∀ d v, xp = some (d, v) → t ≠ d := by
          intro d v hx he
          subst he
          have h1 := (hxl _ v hx).1
          have hmem : t ∈ o.looksAt ops := List.mem_append_right _ (by rw [hgd]; simp [ht])
          simp only [looksO] at h1
          rw [List.contains_iff_mem.2 hmem] at h1
          cases h1
        simp only [Option.bind_some, putX_get hne]
    simp only [e1]
/-- What nobody knows of stays. -/
structure Kept (w : World) (G : Gh) (w' : World) (G' : Gh) : Prop where
  size : w.heap.size ≤ w'.heap.size
  blk : ∀ b, b < w.heap.size → ¬ Mapped G b → w'.heap[b]? = w.heap[b]? ∧ ¬ Mapped G' b ∧ G'.lim b = G.lim b
theorem Evo.kept {h1 : Heap} {G1 : Gh} {w1 : World} (he : Evo B G h w G1 h1 w1) : Kept w G w1 G1 :=
  ⟨he.size, fun b hb hm => ⟨he.frame b hb hm, fun hm' => hm (he.fresh b hb hm'), he.limk b hb hm⟩⟩
theorem mapped_below {m b : Nat} (hm : Mapped (G.below m) b) : Mapped G b := by
  rcases hm with ⟨id, p, e, rfl⟩ | ⟨id, t, e, rfl⟩
  · exact .inl ⟨id, p, (below_blk.1 e).2, rfl⟩
  · exact .inr ⟨id, t, (below_tip.1 e).2, rfl⟩
theorem Evo.kept_merge {h1 : Heap} {G1 : Gh} {w1 : World} {m m' : Nat} (he : Evo B (G.below m) h w G1 h1 w1) : Kept w G w1 (G.merge G1 m') := by
  refine ⟨he.size, fun b hb hm => ?_⟩
  have hm0 : ¬ Mapped (G.below m) b := fun hh => hm (mapped_below hh)
  refine ⟨he.frame b hb hm0, ?_, he.limk b hb hm0⟩
  rintro (⟨id, p, e, rfl⟩ | ⟨id, t, e, rfl⟩)
  · rw [merge_blk] at e
    split at e
    · exact hm0 (he.fresh _ hb (.inl ⟨id, p, e, rfl⟩))
    · exact hm (.inl ⟨id, p, e, rfl⟩)
  · rw [merge_tip] at e
    split at e
    · exact hm0 (he.fresh _ hb (.inr ⟨id, t, e, rfl⟩))
    · exact hm (.inr ⟨id, t, e, rfl⟩)
/-- What stands in the temporaries where the operation i looks, whatever else has been run ahead. -/
theorem step_at {ops : Array Oper} (hS : Seen P n ops l) (hN : l.length = N) (hok : drawOk ops l = true) {es : Nat → Env} (hes0 : es 0 = e) (hrun : ∀ j oc, l[j]? = some oc → es (j + 1) = put (es j) oc.dst (vs j) ∧ StepD P w0 oc (es j) (hs j) (vs j) (hs (j + 1)))
    (hI : Inv P B n N l hs vs e G0 w00 ds D a w G) (hcl : ∀ k ok, D k → ops[k]? = some ok → ∀ j, waits ok j = true → D j) {i : Nat} (hi : i < N) (hnD : ¬ D i) {oi : Oper} {ci : OpC} (hoi : ops[i]? = some oi) (hci : l[i]? = some ci) (hready : ∀ j, waits oi j = true → D j) (hb : Base w0 B w)
    {xp : Option (Tmp × Value)} (hxl : ∀ d v, xp = some (d, v) → looksO ops oi d = false ∧ ci.looks d = false ∧ oi.dst ≠ some d)
    {K : Act → World → Prop} {Q : Exit → Act → World → Prop} (hK : ∀ a' w' G', Inv P B n N l hs vs e G0 w00 ds (fun j => D j ∨ j = i) a' w' G' → Base w0 B w' → Kept w G w' G' → K (putX xp a') w') : wpOp P ops Q i K (putX xp a) w := by
  have hlN : l.length = N := hN
  have hx : ∀ j, j < N → Ext (hs j) (hs (j + 1)) := fun j hj => (hrun j l[j] (List.getElem?_eq_getElem (by omega))).2.ext
  obtain ⟨oi', g, ins, hoi', hg, hins, hdst, hcie⟩ := hS.at_ i ci hci
  have : oi' = oi := Option.some.inj (hoi'.symm.trans hoi)
  subst this
  have hspec := drawOk_spec hok hoi hci
  have hdist : ∀ (j k : Nat) (oj ok : OpC) (d : Tmp), j ≠ k → l[j]? = some oj → l[k]? = some ok → oj.dst = some d → ok.dst ≠ some d := by
    intro j k oj ok d hjk hj hk hd hd2
    obtain ⟨pj, gj, ij, h1, _, _, _, rfl⟩ := hS.at_ j oj hj
    obtain ⟨pk, gk, ik, h2, _, _, _, rfl⟩ := hS.at_ k ok hk
    rcases Nat.lt_or_ge j k with hlt | hge
    · exact ((drawOk_spec hok h2 hk).2.2 j pj _ hlt h1 hj).1 d hd hd2
    · exact ((drawOk_spec hok h1 hj).2.2 k pk _ (by omega) h2 hk).1 d hd2 hd
  -- temporaries out of step
  let Bad : Nat → Prop := fun t => ∃ k ok, l[k]? = some ok ∧ ok.dst = some t ∧ ((k < i ∧ ¬ D k) ∨ (i < k ∧ D k))
  have bad_free : ∀ t, Bad t → looksO ops oi' t = false ∧ ci.looks t = false := by
    rintro t ⟨k, ok, hk, hd, hkk⟩
    obtain ⟨pk, gk, ik, h2, _, _, _, rfl⟩ := hS.at_ k ok hk
    rcases hkk with ⟨hlt, hnk⟩ | ⟨hlt, hDk⟩
    · rcases (hspec.2.2 k pk _ hlt h2 hk).2 with hw | hw
      · exact absurd (hready k hw) hnk
      · exact hw.1 t hd
    · rcases ((drawOk_spec hok h2 hk).2.2 i oi' ci hlt hoi hci).2 with hw | hw
      · exact absurd (hcl k pk hDk h2 i hw) hnD
      · exact hw.2 t hd
  -- the text's own values
  have es_no : ∀ m, m ≤ N → ∀ t, (∀ k ok, k < m → l[k]? = some ok → ok.dst ≠ some t) → es m t = e t := by
    intro m
    induction m with
    | zero => intro _ t _; rw [hes0]
    | succ m ih =>
      intro hm t hno
      have hlm : l[m]? = some l[m] := List.getElem?_eq_getElem (by omega)
      rw [(hrun m _ hlm).1]
      have := hno m _ (by omega) hlm
      have e1 : put (es m) l[m].dst (vs m) t = es m t := by
        cases hd : l[m].dst with
        | none => rfl
        | some d => simp only [put, upd]; rw [if_neg (fun hh => this (by rw [hd, hh]))]
      rw [e1]
      exact ih (by omega) t fun k ok hk => hno k ok (by omega)
  have es_yes : ∀ m, m ≤ N → ∀ t k ok, k < m → l[k]? = some ok → ok.dst = some t → es m t = vs k := by
    intro m
    induction m with
    | zero => intro _ t k ok hk; omega
    | succ m ih =>
      intro hm t k ok hk hlk hd
      have hlm : l[m]? = some l[m] := List.getElem?_eq_getElem (by omega)
      rw [(hrun m _ hlm).1]
      by_cases hkm : k = m
      · subst hkm
        have : ok = l[k] := Option.some.inj (hlk.symm.trans hlm)
        rw [← this, hd]
        simp [put, upd]
      · have hne := hdist k m ok l[m] t hkm hlk hlm hd
        have e1 : put (es m) l[m].dst (vs m) t = es m t := by
          cases hdd : l[m].dst with
          | none => rfl
          | some d => simp only [put, upd]; rw [if_neg (fun hh => hne (by rw [hdd, hh]))]
        rw [e1]
        exact ih (by omega) t k ok (by omega) hlk hd
  classical
  let eI : Env := fun t => if Bad t then .tup [] else es i t
  let aI : Act := { tmps := Array.ofFn (n := n) fun t => if Bad t.1 then undef else a.tmps.getD t.1 undef, defers := a.defers }
  have aI_get : ∀ t, t < n → aI.tmps.getD t undef = if Bad t then undef else a.tmps.getD t undef := by
    intro t ht
    simp [aI, ht]
  have lenle : ∀ {j k}, j ≤ k → k ≤ N → (hs j).length ≤ (hs k).length := fun hjk hk => (ext_le hx hjk hk).len
  have hen : EnvRel B (G.below (hs i).length) w n eI aI.tmps := by
    refine ⟨by simp [aI], fun t ht => ?_⟩
    rw [aI_get t ht]
    simp only [eI]
    by_cases hb : Bad t
    · rw [if_pos hb, if_pos hb]; exact rv_undef
    · rw [if_neg hb, if_neg hb]
      by_cases hk : ∃ k ok, k < i ∧ l[k]? = some ok ∧ ok.dst = some t
      · obtain ⟨k, ok, hki, hlk, hd⟩ := hk
        have hDk : D k := Classical.byContradiction fun hn => hb ⟨k, ok, hlk, hd, .inl ⟨hki, hn⟩⟩
        rw [es_yes i (Nat.le_of_lt hi) t k ok hki hlk hd]
        exact (hI.val k ok t hlk hDk hd ht).mono (below_le (lenle (show k + 1 ≤ i from hki) (Nat.le_of_lt hi)))
      · rw [es_no i (Nat.le_of_lt hi) t fun k ok hki hlk hd => hk ⟨k, ok, hki, hlk, hd⟩]
        refine (hI.keep t ht fun k ok hlk hDk hd => ?_).mono (below_le (lenle (Nat.zero_le i) (Nat.le_of_lt hi)))
        rcases Nat.lt_trichotomy k i with h1 | rfl | h1
        · exact hk ⟨k, ok, h1, hlk, hd⟩
        · exact hnD hDk
        · exact hb ⟨k, ok, hlk, hd, .inr ⟨h1, hDk⟩⟩
  have hrel : Rel B (G.below (hs i).length) (hs i) w := by
    have hw := hI.wf
    have alv : ∀ x, x < (hs i).length → alive (hs i) x → alive (hs N) x := fun x hxl ha => ((ext_le hx (Nat.le_of_lt hi) (Nat.le_refl _)).alive hxl).2 ha
    refine ⟨⟨hw.base, fun id p ep => ?_, fun id t et => ?_, hw.lim, fun x y p q ex ey hpq ax ay => ?_, fun x y p q ex ey hpq => hw.tinj x y p q (below_tip.1 ex).2 (below_tip.1 ey).2 hpq, fun id t et => ?_⟩, fun id o ho => ?_⟩
    · obtain ⟨c1, c2, c3, c4⟩ := hw.blk id p (below_blk.1 ep).2
      exact ⟨c1, c2, c3, (below_blk.1 ep).1⟩
    · obtain ⟨c1, c2, c3, c4⟩ := hw.tip id t (below_tip.1 et).2
      exact ⟨c1, c2, c3, (below_tip.1 et).1⟩
    · exact hw.inj x y p q (below_blk.1 ex).2 (below_blk.1 ey).2 hpq (alv x (below_blk.1 ex).1 ax) (alv y (below_blk.1 ey).1 ay)
    · rw [← ext_le hx (Nat.le_of_lt hi) (Nat.le_refl _) id (below_tip.1 et).1]
      exact hw.tipo id t (below_tip.1 et).2
    · have hid : id < (hs i).length := (List.getElem?_eq_some_iff.1 ho).1
      have hoN : (hs N)[id]? = some o := by rw [ext_le hx (Nat.le_of_lt hi) (Nat.le_refl _) id hid]; exact ho
      have up : ∀ m, m ≤ (hs i).length → id < m → ObjRel B (G.below m) w id o → ObjRel B (G.below (hs i).length) w id o := fun m hm hidm h1 =>
        h1.mono (below_le hm) (fun _ p ep => ⟨below_blk.2 ⟨hidm, (below_blk.1 ep).2⟩, rfl⟩) (fun _ t et => ⟨below_tip.2 ⟨hidm, (below_tip.1 et).2⟩, rfl⟩)
      rcases Nat.lt_or_ge id (hs 0).length with h0 | h0
      · exact up _ (lenle (Nat.zero_le i) (Nat.le_of_lt hi)) h0 (hI.old id o h0 hoN)
      · by_cases hat : ∃ b, At G id b
        · obtain ⟨b, hat⟩ := hat
          rcases hI.dom id b hat with h1 | ⟨k, hk, hDk, h1, h2⟩
          · omega
          · have hki : k < i := by
              rcases Nat.lt_or_ge k i with h3 | h3
              · exact h3
              · have := lenle h3 (Nat.le_of_lt hk); omega
            exact up _ (lenle (show k + 1 ≤ i from hki) (Nat.le_of_lt hi)) h2 (hI.new k id o hk hDk h1 h2 hoN)
        · have nb : ∀ p, (G.below (hs i).length).blk id ≠ some p := fun p ep => hat ⟨p.1, .inl ⟨p.2, (below_blk.1 ep).2⟩⟩
          have nt : ∀ p, (G.below (hs i).length).tip id ≠ some p := fun p ep => hat ⟨p.blk, .inr ⟨p, (below_tip.1 ep).2, rfl⟩⟩
          cases o with
          | box cs => exact fun b m e1 => absurd e1 (nb _)
          | map es => exact fun b m e1 => absurd e1 (nb _)
          | tip m => exact fun t e1 => absurd e1 (nt _)
          | dead => trivial
  -- what the operation looks at is in step
  have hagree : AgreeL (es i) eI ci.ins.args := by
    intro t ht
    have : ¬ Bad t := fun hbd => (not_looks (bad_free t hbd).2).1 ht
    simp only [eI]; rw [if_neg this]
  have hwantE : OpC.wanted ci eI = OpC.wanted ci (es i) := by
    unfold OpC.wanted
    cases hgd : ci.guard with
    | none => rfl
    | some tb =>
      obtain ⟨t, b⟩ := tb
      have : ¬ Bad t := fun hbd => (not_looks (bad_free t hbd).2).2 b hgd
      simp only [eI]; rw [if_neg this]
  have hevalE : ∀ x ∈ oi'.op.operands, a.eval x = aI.eval x := by
    intro x hxo
    cases x with
    | tmp t =>
      by_cases ht : t < n
      · have : ¬ Bad t := by
          intro hbd
          have := (bad_free t hbd).1
          have hmem : t ∈ oi'.looksAt ops := List.mem_append_left _ (List.mem_filterMap.2 ⟨.tmp t, by simpa using hxo, rfl⟩)
          simp only [looksO] at this
          rw [List.contains_iff_mem.2 hmem] at this
          cases this
        show a.tmps.getD t undef = aI.tmps.getD t undef
        rw [aI_get t ht, if_neg this]
      · show a.tmps.getD t undef = aI.tmps.getD t undef
        have h1 : ¬ t < a.tmps.size := by rw [hI.size]; exact ht
        have h2 : ¬ t < aI.tmps.size := by simp only [aI, Array.size_ofFn]; exact ht
        simp [h1, h2]
    | const c => rfl
    | global c => rfl
    | func c => rfl
  have hexec : execOp a.eval oi' = execOp aI.eval oi' := execOp_congr oi' hspec.1 hevalE
  have hwantR : Region.wanted oi' (yielded ops a.tmps) = OpC.wanted ci (es i) := by
    have h1 : Region.wanted oi' (yielded ops aI.tmps) = OpC.wanted ci eI := by rw [hcie]; exact wanted_eq hg hen
    rw [← hwantE, ← h1]
    unfold Region.wanted
    cases hgd : oi'.guard with
    | none => rfl
    | some jb =>
      obtain ⟨j, b⟩ := jb
      simp only [hgd, guardC] at hg
      split at hg <;> first | (cases hg; done) | skip
      rename_i t ht
      split at hg <;> first | (cases hg; done) | skip
      rename_i htn
      injection hg with hg
      have hnb : ¬ Bad t := by
        intro hbd
        refine (not_looks (bad_free t hbd).2).2 b ?_
        rw [hcie, ← hg]
      have e1 : yielded ops aI.tmps j = yielded ops a.tmps j := by
        have s1 : a.tmps[t]? = some (a.tmps.getD t undef) := by
          have : t < a.tmps.size := by rw [hI.size]; exact htn
          simp [this]
        have s2 : aI.tmps[t]? = some (aI.tmps.getD t undef) := by
          have : t < aI.tmps.size := by simp [aI]; exact htn
          simp [this]
        simp only [yielded, ht, Option.bind_some, s1, s2]
        rw [aI_get t htn, if_neg hnb]
      simp only [e1]
  have hcd : ci.dst = oi'.dst := by rw [hcie]
  have hcin : ci.ins = ins := by rw [hcie]
  have fin : ∀ {G1 : Gh} {w1 : World} {val : Value}, Rel B G1 (hs (i + 1)) w1 → Evo B (G.below (hs i).length) (hs i) w G1 (hs (i + 1)) w1 → Rv B G1 w1 (vs i) val → K ((putX xp a).put oi'.dst val) w1 := by
    intro G1 w1 val h1 h2 h3
    have := hI.next hi hci hnD hx hlN hdist (by rw [hcd]; exact hdst) h1 h2 h3
    rw [hcd] at this
    rw [putX_put fun d v hx => (hxl d v hx).2.2]
    exact hK _ _ _ this (hb.evo hrel h2) h2.kept_merge
  have hexecX := putX_exec (a := a) hspec.1 hxl
  have hwantX := putX_wanted (a := a) hxl
  unfold wpOp
  simp only [hoi]
  rw [hwantX]
  rcases (hrun i ci hci).2 with ⟨hwn, hv, hh⟩ | ⟨hwn, hst, _⟩ | ⟨hwn, f, args, hst, hf, _, hg'⟩
  · rw [hwantR, hwn, if_neg (by simp)]
    refine fin (G1 := G.below (hs i).length) ?_ ?_ ?_
    · rw [hh]; exact hrel
    · rw [hh]; exact .refl hrel.wf
    · rw [hv]; exact rv_undef
  · rw [hwantR, hwn, if_pos rfl]
    have hst' : stepI ins eI (hs i) = some (vs i, hs (i + 1)) := by rw [← hcin, ← stepI_congr hagree]; exact hst
    obtain ⟨nx, w', G', val, hr, hnx, hv, hrel', hevo'⟩ := ins_sound (a := aI) hins hst' hen hrel
    refine .inl ?_
    unfold Oper.wp
    rw [hexecX, hexec, hr]
    rcases hnx with rfl | ⟨rfl, rfl⟩
    · exact fin hrel' hevo' hv
    · exact fin hrel' hevo' hv
  · rw [hwantR, hwn, if_pos rfl]
    have hst' : callI ins eI = some (f, args) := by rw [← hcin, ← callI_congr hagree]; exact hst
    obtain ⟨us, hr, hvs⟩ := call_sound (a := aI) hins hst' hf hen
    refine .inl ?_
    unfold Oper.wp
    rw [hexecX, hexec, hr]
    refine (hg' B _ w us hrel hb hvs).mono fun en w' hpost => ?_
    obtain ⟨G', val, rfl, hv, hrel', hevo'⟩ := hpost
    exact fin hrel' hevo' hv
theorem count_less {p q : Nat → Bool} : ∀ {xs : List Nat} {i : Nat}, (∀ j, q j = true → p j = true) → i ∈ xs → p i = true → q i = false → xs.countP q < xs.countP p
  | [], i, _, hi, _, _ => by simp at hi
  | x :: xs, i, hqp, hi, h1, h2 => by
    have mono : xs.countP q ≤ xs.countP p := List.countP_mono_left fun j _ hj => hqp j hj
    simp only [List.countP_cons]
    rcases List.mem_cons.1 hi with rfl | hi
    · rw [h1, h2]; simp; omega
    · have := count_less (xs := xs) hqp hi h1 h2
      by_cases hq : q x = true
      · rw [hq, hqp x hq]; simp; exact this
      · simp only [hq, if_false, Bool.false_eq_true]
        split <;> omega
theorem cutN_le (ms : List Nat) : ∀ N, cutN ms N ≤ N
  | 0 => Nat.le_refl _
  | j + 1 => by
    unfold cutN
    split
    · exact Nat.le_trans (cutN_le ms j) (Nat.le_succ j)
    · exact Nat.le_refl _
theorem cutN_spec {ms : List Nat} : ∀ {N j : Nat}, cutN ms N ≤ j → j < N → ms.getD j 0 = 2 ^ j - 1
  | 0, j, _, h => by omega
  | N + 1, j, h1, h2 => by
    unfold cutN at h1
    split at h1
    · rename_i hh
      by_cases hj : j = N
      · rw [hj]; exact hh
      · exact cutN_spec h1 (by omega)
    · omega
theorem opsC_drop {ops : Array Oper} : ∀ {os : List Oper} {l t : List OpC}, opsC P ops n os = some (l ++ t) → opsC P ops n (os.drop l.length) = some t ∧ (os.drop l.length).length = t.length
  | os, [], t, hc => ⟨by simpa using hc, by simpa using (seen_of hc).1.symm⟩
  | os, x :: l, t, hc => by
    obtain ⟨o', r, g, i, rfl, h1, _⟩ := opsC_cons hc
    simpa using opsC_drop h1
theorem fold_mask {ms : List Nat} {i : Nat} : ∀ {l : List Edge} {m : Nat}, (l.foldl (fun m e => if Region.binds .any e then m ||| (1 <<< e.on) ||| ms.getD e.on 0 else m) m).testBit i = true →
    m.testBit i = true ∨ ∃ e ∈ l, Region.binds .any e = true ∧ (i = e.on ∨ (ms.getD e.on 0).testBit i = true)
  | [], m, h => .inl h
  | e :: l, m, h => by
    rw [List.foldl_cons] at h
    rcases fold_mask h with h1 | ⟨e', h1, h2⟩
    · split at h1
      · rename_i hb
        rw [Nat.testBit_or, Nat.testBit_or, Bool.or_eq_true, Bool.or_eq_true] at h1
        rcases h1 with (h1 | h1) | h1
        · exact .inl h1
        · refine .inr ⟨e, by simp, hb, .inl ?_⟩
          rw [Nat.testBit_shiftLeft] at h1
          simp only [Bool.and_eq_true, decide_eq_true_eq] at h1
          obtain ⟨h2, h3⟩ := h1
          have h4 : i - e.on = 0 := by
            rcases Nat.eq_zero_or_pos (i - e.on) with h5 | h5
            · exact h5
            · obtain ⟨k, hk⟩ : ∃ k, i - e.on = k + 1 := ⟨i - e.on - 1, by omega⟩
              rw [hk] at h3
              simp [Nat.testBit_succ] at h3
          omega
        · exact .inr ⟨e, by simp, hb, .inr h1⟩
      · exact .inl h1
    · exact .inr ⟨e', by simp [h1], h2⟩
/-- What is waited for has been run, where what has been run is whole in this. -/
theorem masks_spec {ops : Array Oper} {D : Nat → Prop} (hD : ∀ k ok, D k → ops[k]? = some ok → ∀ j, waits ok j = true → D j) : ∀ {r : List Oper} {ms : List Nat}, (∀ j, r[j]? = ops[ms.length + j]?) →
    (∀ k, D k → ∀ i, (ms.getD k 0).testBit i = true → D i) → ∀ k, D k → ∀ i, ((masks r ms).getD k 0).testBit i = true → D i
  | [], ms, _, hms => hms
  | o :: r, ms, hr, hms => by
    refine masks_spec hD (r := r) (ms := ms ++ [maskOf ms o]) (fun j => ?_) fun k hk i hi => ?_
    · have := hr (j + 1)
      simp only [List.getElem?_cons_succ] at this
      rw [this, List.length_append, List.length_singleton]
      congr 1
      omega
    · rcases Nat.lt_trichotomy k ms.length with h1 | h1 | h1
      · rw [List.getD_eq_getElem?_getD, List.getElem?_append_left h1, ← List.getD_eq_getElem?_getD] at hi
        exact hms k hk i hi
      · subst h1
        rw [List.getD_eq_getElem?_getD, List.getElem?_append_right (Nat.le_refl _)] at hi
        simp only [Nat.sub_self, List.getElem?_cons_zero, Option.getD_some, maskOf] at hi
        have ho : ops[ms.length]? = some o := by rw [← Nat.add_zero ms.length, ← hr 0]; rfl
        rcases fold_mask hi with h2 | ⟨e, h2, h3, h4⟩
        · simp at h2
        · have hw : D e.on := hD _ o hk ho e.on (by
            unfold waits
            rw [Array.any_eq_true']
            exact ⟨e, by simpa using h2, by simp [h3]⟩)
          rcases h4 with rfl | h4
          · exact hw
          · exact hms _ hw i h4
      · rw [List.getD_eq_getElem?_getD, List.getElem?_eq_none (by simp; omega)] at hi
        simp at hi
theorem seq_all {ops : Array Oper} {D : Nat → Prop} (hD : ∀ k ok, D k → ops[k]? = some ok → ∀ j, waits ok j = true → D j) {j i : Nat} (hj : (masks ops.toList []).getD j 0 = 2 ^ j - 1) (h1 : D j) (h2 : i < j) : D i :=
  masks_spec hD (r := ops.toList) (ms := []) (fun k => by simp) (fun k _ i hi => by simp at hi) j h1 i (by rw [hj, Nat.testBit_two_pow_sub_one]; simpa using h2)
theorem waits_ready {ops : Array Oper} {listed : Array Bool} {i : Nat} (hsz : listed.size = ops.size) (hi : i ∈ Region.ready .any ops listed) : i < ops.size ∧ listed.getD i true = false ∧ ∀ oi, ops[i]? = some oi → ∀ j, waits oi j = true → listed.getD j true = true ∧ j < ops.size := by
  obtain ⟨h1, oi, hoi, hall⟩ := mem_ready.1 hi
  refine ⟨(Array.getElem?_eq_some_iff.1 hoi).1, h1, fun oi' hoi' j hw => ?_⟩
  have : oi' = oi := Option.some.inj (hoi'.symm.trans hoi)
  subst this
  obtain ⟨ed, hed, hbd⟩ := Array.any_eq_true'.1 hw
  simp only [Bool.and_eq_true, beq_iff_eq] at hbd
  obtain ⟨hb1, rfl⟩ := hbd
  have h2 := hall ed hed hb1
  rw [Array.getD_eq_getD_getElem?] at h2 ⊢
  by_cases h3 : ed.on < listed.size
  · rw [Array.getElem?_eq_getElem h3] at h2 ⊢
    exact ⟨h2, by omega⟩
  · rw [Array.getElem?_eq_none (by omega)] at h2
    cases h2
theorem fold_up {ms : List Nat} {i : Nat} : ∀ {l : List Edge} {m : Nat}, m.testBit i = true → (l.foldl (fun m e => if Region.binds .any e then m ||| (1 <<< e.on) ||| ms.getD e.on 0 else m) m).testBit i = true
  | [], m, h => h
  | e :: l, m, h => by
    rw [List.foldl_cons]
    refine fold_up ?_
    split
    · rw [Nat.testBit_or, Nat.testBit_or, h]; rfl
    · exact h
theorem fold_has {ms : List Nat} {e : Edge} : ∀ {l : List Edge} {m : Nat}, e ∈ l → Region.binds .any e = true → (l.foldl (fun m e => if Region.binds .any e then m ||| (1 <<< e.on) ||| ms.getD e.on 0 else m) m).testBit e.on = true
  | x :: l, m, he, hb => by
    rw [List.foldl_cons]
    rcases List.mem_cons.1 he with rfl | he
    · refine fold_up ?_
      rw [if_pos hb, Nat.testBit_or, Nat.testBit_or, Nat.testBit_shiftLeft]
      simp
    · exact fold_has he hb
theorem masks_rev {ops : Array Oper} : ∀ {r : List Oper} {ms : List Nat}, (∀ j, r[j]? = ops[ms.length + j]?) →
    (∀ k ok, k < ms.length → ops[k]? = some ok → ∀ i, waits ok i = true → (ms.getD k 0).testBit i = true) → ∀ k ok, ops[k]? = some ok → ∀ i, waits ok i = true → ((masks r ms).getD k 0).testBit i = true
  | [], ms, hr, hms => fun k ok hk i hw => by
    refine hms k ok ?_ hk i hw
    rcases Nat.lt_or_ge k ms.length with h1 | h1
    · exact h1
    · have := hr (k - ms.length)
      rw [show ms.length + (k - ms.length) = k by omega, hk] at this
      simp at this
  | o :: r, ms, hr, hms => by
    refine masks_rev (r := r) (ms := ms ++ [maskOf ms o]) (fun j => ?_) fun k ok hk hok i hw => ?_
    · have := hr (j + 1)
      simp only [List.getElem?_cons_succ] at this
      rw [this, List.length_append, List.length_singleton]
      congr 1
      omega
    · rw [List.length_append, List.length_singleton] at hk
      by_cases h1 : k < ms.length
      · rw [List.getD_eq_getElem?_getD, List.getElem?_append_left h1, ← List.getD_eq_getElem?_getD]
        exact hms k ok h1 hok i hw
      · obtain rfl : k = ms.length := by omega
        rw [List.getD_eq_getElem?_getD, List.getElem?_append_right (Nat.le_refl _)]
        simp only [Nat.sub_self, List.getElem?_cons_zero, Option.getD_some, maskOf]
        have ho : ops[ms.length]? = some o := by rw [← Nat.add_zero ms.length, ← hr 0]; rfl
        obtain rfl : ok = o := Option.some.inj (hok.symm.trans ho)
        obtain ⟨ed, hed, hbd⟩ := Array.any_eq_true'.1 hw
        simp only [Bool.and_eq_true, beq_iff_eq] at hbd
        obtain ⟨hb1, rfl⟩ := hbd
        exact fold_has (by simpa using hed) hb1
theorem seq_back {ops : Array Oper} {j i : Nat} (hj : (masks ops.toList []).getD j 0 = 2 ^ j - 1) {oj : Oper} (hoj : ops[j]? = some oj) (hw : waits oj i = true) : i < j := by
  have := masks_rev (ops := ops) (r := ops.toList) (ms := []) (fun k => by simp) (fun k ok hk => by simp at hk) j oj hoj i hw
  rw [hj, Nat.testBit_two_pow_sub_one] at this
  simpa using this
/-- The end of a region, where each operation waits for all before it. -/
theorem tail_any {ops : Array Oper} {Q : Exit → Act → World → Prop} (hback : ∀ k ok, ops[k]? = some ok → ∀ j, waits ok j = true → j < k) : ∀ (d m fuel : Nat) (listed : Array Bool) (a : Act) (w : World), m + d = ops.size → d ≤ fuel → listed.size = ops.size → (∀ j, j < ops.size → (listed.getD j true = true ↔ j < m)) →
    (∀ j, m ≤ j → j < ops.size → (masks ops.toList []).getD j 0 = 2 ^ j - 1) → wpOps P ops Q (List.range' m d) a w → wpAny P .any ops Q fuel listed a w := by
  intro d
  induction d with
  | zero =>
    intro m fuel listed a w hm hf hsz hli hseq hq
    have hnil : Region.ready .any ops listed = [] := by
      cases hrr : Region.ready .any ops listed with
      | nil => rfl
      | cons j r =>
        exfalso
        obtain ⟨h1, h2, _⟩ := waits_ready hsz (i := j) (by rw [hrr]; simp)
        rw [(hli j h1).2 (by omega)] at h2
        cases h2
    have hq' : Q .normal a w := by simpa [wpOps] using hq
    cases fuel with
    | zero => exact ⟨hnil, hq'⟩
    | succ f => exact ⟨fun _ => hq', fun i hi => by rw [hnil] at hi; cases hi⟩
  | succ d ih =>
    intro m fuel listed a w hm hf hsz hli hseq hq
    obtain ⟨f, rfl⟩ : ∃ f, fuel = f + 1 := ⟨fuel - 1, by omega⟩
    have hml : m < ops.size := by omega
    have hom : ops[m]? = some ops[m] := Array.getElem?_eq_getElem hml
    have hcl : ∀ i, i ∈ Region.ready .any ops listed → i = m := by
      intro i hi
      obtain ⟨h1, h2, h3⟩ := waits_ready hsz hi
      have him : m ≤ i := by
        rcases Nat.lt_or_ge i m with h4 | h4
        · rw [(hli i h1).2 h4] at h2; cases h2
        · exact h4
      rcases Nat.lt_or_ge m i with h4 | h4
      · exfalso
        have := seq_all (ops := ops) (D := fun k => k < m ∨ k = i) ?_ (hseq i him h1) (.inr rfl) h4
        · omega
        · rintro k ok (hk | rfl) hok j hw
          · exact .inl (Nat.lt_trans (hback k ok hok j hw) hk)
          · exact .inl ((hli j (h3 ok hok j hw).2).1 (h3 ok hok j hw).1)
      · omega
    have hmem : m ∈ Region.ready .any ops listed := by
      refine mem_ready.2 ⟨?_, ops[m], hom, fun ed hed hbd => ?_⟩
      · cases hc : listed.getD m true with
        | false => rfl
        | true => have := (hli m hml).1 hc; omega
      · have h1 : ed.on < m := hback m _ hom ed.on (by
          unfold waits
          rw [Array.any_eq_true']
          exact ⟨ed, hed, by simp [hbd]⟩)
        have h2 := (hli ed.on (by omega)).2 h1
        rw [Array.getD_eq_getD_getElem?] at h2 ⊢
        have h3 : ed.on < listed.size := by omega
        rw [Array.getElem?_eq_getElem h3] at h2 ⊢
        exact h2
    refine ⟨fun hnil => ?_, fun i hi => ?_⟩
    · rw [hnil] at hmem; cases hmem
    · obtain rfl := hcl i hi
      rw [List.range'_succ, wpOps_cons] at hq
      refine wpOp_mono (fun a' w' hq' => ih (i + 1) f _ a' w' (by omega) (by omega) (by simpa using hsz) (fun j hj => ?_) (fun j h1 h2 => hseq j (by omega) h2) hq') hq
      by_cases hji : j = i
      · subst hji
        rw [Array.getD_eq_getD_getElem?]
        simp [show j < listed.size by omega]
      · rw [getD_set_ne true (fun hh => hji hh.symm), hli j hj]
        omega
theorem count_from {p : Nat → Bool} {N : Nat} : ∀ {M : Nat}, (∀ j, N ≤ j → j < M → p j = true) → M - N ≤ (List.range M).countP p
  | 0, _ => by simp
  | M + 1, h => by
    have ih := count_from (p := p) (N := N) (M := M) fun j h1 h2 => h j h1 (by omega)
    rw [List.range_succ, List.countP_append, List.countP_singleton]
    by_cases hN : N ≤ M
    · rw [h M hN (by omega)]
      simp only [if_true]
      omega
    · omega
theorem draw_sound {id : Nat} {ops : Array Oper} {l t : List OpC} {Q : Exit → Act → World → Prop} (hm : P.follows .mixedOrders = true) (hl : opsC P ops n ops.toList = some (l ++ t)) (hok : drawOk ops l = true)
    (hcut : ∀ j, l.length ≤ j → j < ops.size → (masks ops.toList []).getD j 0 = 2 ^ j - 1) (hd : DGood P w0 l e h e' h')
    (hr : Rel B G h w) (hb : Base w0 B w) (he : EnvRel B G w n e a.tmps) (hp : Post B G h w a.defers n e' h' (wpOps P ops Q (List.range' l.length (ops.size - l.length)))) : (Code.region id ops true).wp P Q a w := by
  obtain ⟨es, hs, vs, hes0, hhs0, hesN, hhsN, hrun⟩ := run_of hd
  obtain ⟨hlen, hat⟩ := seen_of hl
  obtain ⟨N, hlN⟩ : ∃ N, l.length = N := ⟨_, rfl⟩
  have hNs : N ≤ ops.size := by
    have := hlen
    simp only [List.length_append, Array.length_toList] at this; omega
  have hS : Seen P n ops l := ⟨by omega, fun j oc hj => by
    have hjl := (List.getElem?_eq_some_iff.1 hj).1
    simpa using hat j oc (by rw [List.getElem?_append_left hjl]; exact hj)⟩
  have hx : ∀ j, j < N → Ext (hs j) (hs (j + 1)) := fun j hj => (hrun j l[j] (List.getElem?_eq_getElem (by omega))).2.ext
  have hback : ∀ k ok, ops[k]? = some ok → ∀ j, waits ok j = true → j < k := by
    intro k ok hk j hw
    have hkl := (Array.getElem?_eq_some_iff.1 hk).1
    rcases Nat.lt_or_ge k N with h1 | h1
    · obtain ⟨ed, hed, hbd⟩ := Array.any_eq_true'.1 hw
      simp only [Bool.and_eq_true, beq_iff_eq] at hbd
      obtain ⟨hb1, rfl⟩ := hbd
      exact (drawOk_spec hok hk (List.getElem?_eq_getElem (show k < l.length by omega))).2.1 ed hed hb1
    · exact seq_back (hcut k (by omega) hkl) hk hw
  refine wp_region_any hm ?_
  -- the start
  have hdr := hr.heap (w' := { w with drawn := w.drawn + 1 }) ⟨rfl, rfl, rfl⟩ rfl
  have hrel0 := hdr.1
  have hwf0 : Wf B G (hs 0) { w with drawn := w.drawn + 1 } := by rw [hhs0]; exact hrel0.wf
  have hext0 : Ext (hs 0) (hs N) := ext_le hx (Nat.zero_le _) (Nat.le_refl _)
  have belowG : ∀ {w' : World}, Le B G w' (G.below (hs 0).length) w' := fun {w'} =>
    ⟨fun i p e1 => below_blk.2 ⟨(hwf0.blk i p e1).2.2.2, e1⟩, fun i t e1 => ⟨t, below_tip.2 ⟨(hwf0.tip i t e1).2.2.2, e1⟩, Nat.le_refl _, fun _ => rfl⟩, fun _ _ hsn => ⟨hsn, rfl⟩⟩
  have hw1 : Rv B G w = Rv B G w := rfl
  have hI0 : Inv P B n N l hs vs e G w a.defers (fun _ => False) a { w with drawn := w.drawn + 1 } G := by
    refine ⟨⟨hwf0.base, fun i p ep => ?_, fun i t et => ?_, hwf0.lim, fun x y p q ex ey hpq ax ay => ?_, hwf0.tinj, fun i t et => ?_⟩, ?_, ?_, ?_, ?_, he.1, ?_, ?_, ?_, rfl⟩
    · obtain ⟨c1, c2, c3, c4⟩ := hwf0.blk i p ep
      exact ⟨c1, c2, c3, Nat.lt_of_lt_of_le c4 hext0.len⟩
    · obtain ⟨c1, c2, c3, c4⟩ := hwf0.tip i t et
      exact ⟨c1, c2, c3, Nat.lt_of_lt_of_le c4 hext0.len⟩
    · exact hwf0.inj x y p q ex ey hpq ((hext0.alive (hwf0.blk x p ex).2.2.2).1 ax) ((hext0.alive (hwf0.blk y q ey).2.2.2).1 ay)
    · rw [hext0 i (hwf0.tip i t et).2.2.2]; exact hwf0.tipo i t et
    · exact {
        le := hdr.2.le, os := rfl, tape := rfl, output := rfl, size := Nat.le_refl _, len := hext0.len
        frame := fun _ _ _ => rfl
        fresh := fun _ _ m => m
        limk := fun _ _ _ => rfl
        nores := fun x hxl ha => (hext0.alive hxl).1 ha
        oldb := fun _ _ _ e1 => e1
        oldt := fun _ t _ e1 => ⟨t, e1, .inl rfl⟩
        newb := fun x p hxl e1 => absurd (hwf0.blk x p e1).2.2.2 (by omega)
        newt := fun x t hxl e1 => absurd (hwf0.tip x t e1).2.2.2 (by omega) }
    · rintro i b (⟨k, e1⟩ | ⟨t, e1, _⟩)
      · exact .inl (hwf0.blk i _ e1).2.2.2
      · exact .inl (hwf0.tip i t e1).2.2.2
    · intro i o hi ho
      rw [hext0 i hi, hhs0] at ho
      exact (hrel0.obj i o ho).mono belowG (fun _ p ep => ⟨(below_blk.1 ep).2, rfl⟩) (fun _ t et => ⟨(below_tip.1 et).2, rfl⟩)
    · intro i o ob _ hD; exact hD.elim
    · intro i oc d _ hD; exact hD.elim
    · intro t ht _
      exact ((he.2 t ht).mono hdr.2.le).mono belowG
    · intro i i' b m hm' ha ha'
      have lt0 : ∀ i, At G i b → i < (hs 0).length := by
        rintro i (⟨k, e1⟩ | ⟨t, e1, _⟩)
        · exact (hwf0.blk i _ e1).2.2.2
        · exact (hwf0.tip i t e1).2.2.2
      have h0m := (ext_le hx (Nat.zero_le m) hm').len
      exact ⟨fun _ => Nat.lt_of_lt_of_le (lt0 i' ha') h0m, fun _ => Nat.lt_of_lt_of_le (lt0 i ha) h0m⟩
  -- all orders
  have key : ∀ (fuel : Nat) (listed : Array Bool) (a1 : Act) (w1 : World) (G1 : Gh), listed.size = ops.size → (List.range ops.size).countP (fun j => !listed.getD j true) ≤ fuel →
      (∀ j, j < ops.size → listed.getD j true = true → j < N) →
      (∀ k ok, listed.getD k true = true ∧ k < N → ops[k]? = some ok → ∀ j, waits ok j = true → listed.getD j true = true ∧ j < N) →
      Inv P B n N l hs vs e G w a.defers (fun j => listed.getD j true = true ∧ j < N) a1 w1 G1 → Base w0 B w1 → wpAny P .any ops Q fuel listed a1 w1 := by
    have done : ∀ (listed : Array Bool) (a1 : Act) (w1 : World) (G1 : Gh), (∀ j, j < N → listed.getD j true = true) →
        Inv P B n N l hs vs e G w a.defers (fun j => listed.getD j true = true ∧ j < N) a1 w1 G1 → wpOps P ops Q (List.range' l.length (ops.size - l.length)) a1 w1 := by
      intro listed a1 w1 G1 hall hI
      refine hp G1 a1 w1 ?_ ?_ ?_ hI.defers
      · rw [← hhsN, hlN]
        refine ⟨hI.wf, fun i o ho => ?_⟩
        have up : ∀ m, ObjRel B (G1.below m) w1 i o → i < m → ObjRel B G1 w1 i o := fun m h1 him =>
          h1.mono ⟨fun j p e1 => (below_blk.1 e1).2, fun j t e1 => ⟨t, (below_tip.1 e1).2, Nat.le_refl _, fun _ => rfl⟩, fun _ _ hsn => ⟨hsn, rfl⟩⟩ (fun _ p ep => ⟨below_blk.2 ⟨him, ep⟩, rfl⟩) (fun _ t et => ⟨below_tip.2 ⟨him, et⟩, rfl⟩)
        have hiN : i < (hs N).length := (List.getElem?_eq_some_iff.1 ho).1
        rcases Nat.lt_or_ge i (hs 0).length with h0 | h0
        · exact up _ (hI.old i o h0 ho) h0
        · obtain ⟨k, hk, h1, h2⟩ : ∃ k, k < N ∧ (hs k).length ≤ i ∧ i < (hs (k + 1)).length := by
            have find : ∀ m, m ≤ N → i < (hs m).length → ∃ k, k < m ∧ (hs k).length ≤ i ∧ i < (hs (k + 1)).length := by
              intro m
              induction m with
              | zero => intro _ h3; omega
              | succ m ih =>
                intro hm' h3
                rcases Nat.lt_or_ge i (hs m).length with h4 | h4
                · obtain ⟨k, hk, h5⟩ := ih (by omega) h4
                  exact ⟨k, by omega, h5⟩
                · exact ⟨m, by omega, h4, h3⟩
            exact find N (Nat.le_refl _) hiN
          exact up _ (hI.new k i o hk ⟨hall k hk, hk⟩ h1 h2 ho) h2
      · have := hI.evo
        rw [hhs0] at this
        rw [← hhsN, hlN]
        exact this
      · refine ⟨hI.size, fun t ht => ?_⟩
        have up : ∀ {m x u}, Rv B (G1.below m) w1 x u → Rv B G1 w1 x u := fun h1 =>
          h1.mono ⟨fun j p e1 => (below_blk.1 e1).2, fun j t e1 => ⟨t, (below_tip.1 e1).2, Nat.le_refl _, fun _ => rfl⟩, fun _ _ hsn => ⟨hsn, rfl⟩⟩
        have hes : ∀ m, m ≤ N → ((∃ k ok, k < m ∧ l[k]? = some ok ∧ ok.dst = some t ∧ es m t = vs k) ∨ (es m t = e t ∧ ∀ k ok, k < m → l[k]? = some ok → ok.dst ≠ some t)) := by
          intro m
          induction m with
          | zero => intro _; exact .inr ⟨by rw [hes0], fun k ok hk => by omega⟩
          | succ m ih =>
            intro hm'
            have hlm : l[m]? = some l[m] := List.getElem?_eq_getElem (by omega)
            rw [(hrun m _ hlm).1]
            by_cases hdm : l[m].dst = some t
            · exact .inl ⟨m, l[m], by omega, hlm, hdm, by rw [hdm]; simp [put, upd]⟩
            · have e1 : put (es m) l[m].dst (vs m) t = es m t := by
                cases hdd : l[m].dst with
                | none => rfl
                | some d => simp only [put, upd]; rw [if_neg (fun hh => hdm (by rw [hdd, hh]))]
              rw [e1]
              rcases ih (by omega) with ⟨k, ok, hk, h1, h2, h3⟩ | ⟨h1, h2⟩
              · exact .inl ⟨k, ok, by omega, h1, h2, h3⟩
              · refine .inr ⟨h1, fun k ok hk hlk => ?_⟩
                by_cases hkm : k = m
                · subst hkm
                  have : ok = l[k] := Option.some.inj (hlk.symm.trans hlm)
                  rw [this]; exact hdm
                · exact h2 k ok (by omega) hlk
        rw [← hesN, hlN]
        rcases hes N (Nat.le_refl _) with ⟨k, ok, hk, h1, h2, h3⟩ | ⟨h1, h2⟩
        · rw [h3]; exact up (hI.val k ok t h1 ⟨hall k hk, hk⟩ h2 ht)
        · rw [h1]
          refine up (hI.keep t ht fun k ok hlk hD => h2 k ok (by have := (List.getElem?_eq_some_iff.1 hlk).1; omega) hlk)
    have whole : ∀ (fuel : Nat) (listed : Array Bool) (a1 : Act) (w1 : World) (G1 : Gh), listed.size = ops.size → (List.range ops.size).countP (fun j => !listed.getD j true) ≤ fuel →
        (∀ j, j < ops.size → listed.getD j true = true → j < N) → (∀ j, j < N → listed.getD j true = true) →
        Inv P B n N l hs vs e G w a.defers (fun j => listed.getD j true = true ∧ j < N) a1 w1 G1 → wpAny P .any ops Q fuel listed a1 w1 := by
      intro fuel listed a1 w1 G1 hsz hcnt hpre hall hI
      have hd := done listed a1 w1 G1 hall hI
      rw [hlN] at hd
      refine tail_any hback (ops.size - N) N fuel listed a1 w1 (by omega) ?_ hsz (fun j hj => ⟨hpre j hj, hall j⟩) (fun j h1 h2 => hcut j (by omega) h2) hd
      refine Nat.le_trans (Nat.le_trans (Nat.le_of_eq ?_) (count_from (p := fun j => !listed.getD j true) (N := N) (M := ops.size) fun j h1 h2 => ?_)) hcnt
      · rfl
      · cases hc : listed.getD j true with
        | false => rfl
        | true => have := hpre j h2 hc; omega
    intro fuel
    induction fuel with
    | zero =>
      intro listed a1 w1 G1 hsz hcnt hpre hcl hI hb1
      refine whole 0 listed a1 w1 G1 hsz hcnt hpre (fun j hj => ?_) hI
      cases hc : listed.getD j true with
      | true => rfl
      | false =>
        have : 0 < (List.range ops.size).countP (fun j => !listed.getD j true) := List.countP_pos_iff.2 ⟨j, List.mem_range.2 (by omega), by rw [hc]; rfl⟩
        omega
    | succ fuel ih =>
      intro listed a1 w1 G1 hsz hcnt hpre hcl hI hb1
      by_cases hall : ∀ j, j < N → listed.getD j true = true
      · exact whole _ listed a1 w1 G1 hsz hcnt hpre hall hI
      -- the first that has not been run
      obtain ⟨j0, hj0, hl0, hbelow⟩ : ∃ j0, j0 < N ∧ listed.getD j0 true = false ∧ ∀ j, j < j0 → listed.getD j true = true := by
        have find : ∀ m, (∃ j, j < m ∧ listed.getD j true = false) → ∃ j0, j0 < m ∧ listed.getD j0 true = false ∧ ∀ j, j < j0 → listed.getD j true = true := by
          intro m
          induction m with
          | zero => rintro ⟨j, hj, _⟩; omega
          | succ m ihm =>
            rintro ⟨j, hj, hlj⟩
            by_cases hex : ∃ j, j < m ∧ listed.getD j true = false
            · obtain ⟨j0, h1, h2, h3⟩ := ihm hex
              exact ⟨j0, by omega, h2, h3⟩
            · refine ⟨m, by omega, ?_, fun k hk => ?_⟩
              · have : j = m := Classical.byContradiction fun hne => hex ⟨j, by omega, hlj⟩
                rw [← this]; exact hlj
              · cases hc : listed.getD k true with
                | true => rfl
                | false => exact absurd ⟨k, hk, hc⟩ hex
        refine find N (Classical.byContradiction fun hno => hall fun j hj => ?_)
        cases hc : listed.getD j true with
        | true => rfl
        | false => exact absurd ⟨j, hj, hc⟩ hno
      refine ⟨fun hrd => ?_, fun i hi => ?_⟩
      · exfalso
        have hoj : ops[j0]? = some ops[j0] := Array.getElem?_eq_getElem (by omega)
        have hmem : j0 ∈ Region.ready .any ops listed := by
          refine mem_ready.2 ⟨hl0, ops[j0], hoj, fun ed hed hbd => ?_⟩
          have hlt := hback j0 _ hoj ed.on (by
            unfold waits
            rw [Array.any_eq_true']
            exact ⟨ed, hed, by simp [hbd]⟩)
          have h1 := hbelow ed.on hlt
          rw [Array.getD_eq_getD_getElem?] at h1 ⊢
          have h2 : ed.on < listed.size := by omega
          rw [Array.getElem?_eq_getElem h2] at h1 ⊢
          exact h1
        rw [hrd] at hmem
        cases hmem
      obtain ⟨hil, h1, hready0⟩ := waits_ready hsz hi
      have hiN : i < N := by
        rcases Nat.lt_or_ge i N with h2 | h2
        · exact h2
        · exfalso
          have := seq_all (ops := ops) (D := fun k => (listed.getD k true = true ∧ k < N) ∨ k = i) ?_ (hcut i (by omega) hil) (.inr rfl) (show j0 < i by omega)
          · rcases this with ⟨h3, _⟩ | h3
            · rw [hl0] at h3; cases h3
            · omega
          · rintro k ok (hk | rfl) hok j hw
            · exact .inl (hcl k ok hk hok j hw)
            · have := hready0 ok hok j hw
              exact .inl ⟨this.1, hpre j this.2 this.1⟩
      have hoi : ops[i]? = some ops[i] := Array.getElem?_eq_getElem hil
      generalize ops[i] = oi at hoi
      have hci : l[i]? = some l[i] := List.getElem?_eq_getElem (by omega)
      have hready : ∀ j, waits oi j = true → listed.getD j true = true ∧ j < N := fun j hw => by
        have := hready0 oi hoi j hw
        exact ⟨this.1, hpre j this.2 this.1⟩
      have set_get : ∀ j, (listed.setIfInBounds i true).getD j true = true ↔ (listed.getD j true = true ∨ j = i) := by
        intro j
        by_cases hji : j = i
        · subst hji
          have : (listed.setIfInBounds j true).getD j true = true := by
            rw [Array.getD_eq_getD_getElem?]
            have : j < listed.size := by omega
            simp [this]
          simp [this]
        · rw [getD_set_ne true (fun hh => hji hh.symm)]
          simp [hji]
      refine step_at hS hlN hok hes0 hrun hI (fun k ok hD hok' j hw => hcl k ok hD hok' j hw) hiN (fun hD => by rw [h1] at hD; cases hD.1) hoi hci hready hb1 (xp := none) (fun d v hh => by cases hh) (K := wpAny P .any ops Q fuel (listed.setIfInBounds i true)) fun a2 w2 G2 hI2 hb2 _ => ?_
      refine ih (listed.setIfInBounds i true) a2 w2 G2 (by simpa using hsz) ?_ ?_ ?_ ?_ hb2
      · have := count_less (p := fun j => !listed.getD j true) (q := fun j => !(listed.setIfInBounds i true).getD j true) (xs := List.range ops.size) (i := i) (fun j hj => by
          simp only [Bool.not_eq_true'] at hj ⊢
          cases h3 : listed.getD j true with
          | false => rfl
          | true => rw [(set_get j).2 (.inl h3)] at hj; cases hj) (List.mem_range.2 hil) (by rw [h1]; rfl) (by rw [(set_get i).2 (.inr rfl)]; rfl)
        omega
      · intro j hj hlj
        rcases (set_get j).1 hlj with h3 | rfl
        · exact hpre j hj h3
        · exact hiN
      · rintro k ok ⟨hk1, hk2⟩ hok' j hw
        rcases (set_get k).1 hk1 with h3 | rfl
        · obtain ⟨h4, h5⟩ := hcl k ok ⟨h3, hk2⟩ hok' j hw
          exact ⟨(set_get j).2 (.inl h4), h5⟩
        · have : ok = oi := Option.some.inj (hok'.symm.trans hoi)
          subst this
          obtain ⟨h4, h5⟩ := hready j hw
          exact ⟨(set_get j).2 (.inl h4), h5⟩
      · have e1 : (fun j => (listed.setIfInBounds i true).getD j true = true ∧ j < N) = (fun j => (listed.getD j true = true ∧ j < N) ∨ j = i) := by
          funext j
          rw [set_get j]
          refine propext ⟨fun ⟨h2, h3⟩ => h2.imp (fun h4 => ⟨h4, h3⟩) (fun h4 => h4), fun h2 => ?_⟩
          rcases h2 with ⟨h3, h4⟩ | rfl
          · exact ⟨.inl h3, h4⟩
          · exact ⟨.inr rfl, hiN⟩
        rw [e1]; exact hI2
  refine key ops.size (Array.replicate ops.size false) a { w with drawn := w.drawn + 1 } G (by simp) ?_ ?_ ?_ ?_ (hb.evo hr hdr.2)
  · refine Nat.le_trans List.countP_le_length ?_
    simp
  · intro j hj h1
    rw [Array.getD_eq_getD_getElem?] at h1
    simp [hj] at h1
  · rintro k ok ⟨h1, h2⟩
    have h3 : k < ops.size := by omega
    rw [Array.getD_eq_getD_getElem?] at h1
    simp [h3] at h1
  · have e1 : (fun j => (Array.replicate ops.size false).getD j true = true ∧ j < N) = (fun _ => False) := by
      funext j
      refine propext ⟨fun ⟨h1, h2⟩ => ?_, False.elim⟩
      have h3 : j < ops.size := by omega
      rw [Array.getD_eq_getD_getElem?] at h1
      simp [h3] at h1
    rw [e1]; exact hI0
/-! ### Regions with writers: what may be run late -/
/-- The run of the writers' part. -/
theorem mrun_of {fl : List (Nat × Bool × Nat × Arg)} : ∀ {l : List OpC} {e : Env} {h : Heap} {e' : Env} {h' : Heap}, MGood P w0 fl l e h e' h' →
    ∃ (es : Nat → Env) (hs : Nat → Heap) (vs : Nat → V), es 0 = e ∧ hs 0 = h ∧ es l.length = e' ∧ hs l.length = h' ∧
      ∀ j oc, l[j]? = some oc → es (j + 1) = put (es j) oc.dst (vs j) ∧ oc.wanted (es j) = true ∧
        ((stepI oc.ins (es j) (hs j) = some (vs j, hs (j + 1)) ∧ (quiet oc.ins = true ∨ flC fl (es (j + 1)) (hs (j + 1)))) ∨
         ((∃ f args, callI oc.ins (es j) = some (f, args) ∧ isFn P f = true ∧ CallGood P w0 f args (hs j) (vs j) (hs (j + 1))) ∧ flC fl (es (j + 1)) (hs (j + 1))))
  | [], e, h, e', h', hd => ⟨fun _ => e, fun _ => h, fun _ => .tup [], rfl, rfl, hd.1.symm, hd.2.symm, fun j oc hj => by simp at hj⟩
  | o :: l, e, h, e', h', hd => by
    have step : ∀ (v : V) (h1 : Heap), o.wanted e = true → ((stepI o.ins e h = some (v, h1) ∧ (quiet o.ins = true ∨ flC fl (put e o.dst v) h1)) ∨ ((∃ f args, callI o.ins e = some (f, args) ∧ isFn P f = true ∧ CallGood P w0 f args h v h1) ∧ flC fl (put e o.dst v) h1)) → MGood P w0 fl l (put e o.dst v) h1 e' h' →
        ∃ (es : Nat → Env) (hs : Nat → Heap) (vs : Nat → V), es 0 = e ∧ hs 0 = h ∧ es (o :: l).length = e' ∧ hs (o :: l).length = h' ∧
          ∀ j oc, (o :: l)[j]? = some oc → es (j + 1) = put (es j) oc.dst (vs j) ∧ oc.wanted (es j) = true ∧
            ((stepI oc.ins (es j) (hs j) = some (vs j, hs (j + 1)) ∧ (quiet oc.ins = true ∨ flC fl (es (j + 1)) (hs (j + 1)))) ∨
             ((∃ f args, callI oc.ins (es j) = some (f, args) ∧ isFn P f = true ∧ CallGood P w0 f args (hs j) (vs j) (hs (j + 1))) ∧ flC fl (es (j + 1)) (hs (j + 1)))) := by
      intro v h1 hw hs1 hd1
      obtain ⟨es, hs, vs, a1, a2, a3, a4, a5⟩ := mrun_of hd1
      refine ⟨fun | 0 => e | j + 1 => es j, fun | 0 => h | j + 1 => hs j, fun | 0 => v | j + 1 => vs j, rfl, rfl, a3, a4, fun j oc hj => ?_⟩
      cases j with
      | zero =>
        simp at hj; subst hj
        refine ⟨a1, hw, ?_⟩
        show (stepI o.ins e h = some (v, hs 0) ∧ (quiet o.ins = true ∨ flC fl (es 0) (hs 0))) ∨ ((∃ f args, callI o.ins e = some (f, args) ∧ isFn P f = true ∧ CallGood P w0 f args h v (hs 0)) ∧ flC fl (es 0) (hs 0))
        rw [a1, a2]; exact hs1
      | succ j =>
        simp at hj
        exact a5 j oc hj
    rcases hd with ⟨hw, v, h1, hs, hx, hd⟩ | ⟨hw, f, args, v, h1, hs, hf, hx, hc, hd⟩
    · exact step v h1 hw (.inl ⟨hs, hx⟩) hd
    · exact step v h1 hw (.inr ⟨⟨f, args, hs, hf, hc⟩, hx⟩) hd
theorem quiet_step {i : Ins} {v : V} {h1 : Heap} (hq : quiet i = true) (hs : stepI i e h = some (v, h1)) : h1 = h := by
  cases i <;> simp only [quiet, Bool.false_eq_true] at hq <;> simp only [stepI] at hs
  case mv => injection hs with hs; injection hs with _ hs; exact hs.symm
  case ext => split at hs <;> first | (cases hs; done) | (obtain ⟨_, _, hh⟩ := map_some hs; injection hh with _ hh; exact hh.symm)
  case nilck => split at hs <;> first | (cases hs; done) | (injection hs with hs; injection hs with _ hs; exact hs.symm)
  case faddr => split at hs <;> first | (cases hs; done) | (injection hs with hs; injection hs with _ hs; exact hs.symm) | (split at hs <;> first | (cases hs; done) | (injection hs with hs; injection hs with _ hs; exact hs.symm)) | (obtain ⟨_, _, hh⟩ := map_some hs; injection hh with _ hh; exact hh.symm)
  case load => obtain ⟨_, _, hh⟩ := map_some hs; injection hh with _ hh; exact hh.symm
  case fld => split at hs <;> first | (cases hs; done) | (obtain ⟨_, _, hh⟩ := map_some hs; injection hh with _ hh; exact hh.symm)
  case bin => obtain ⟨_, _, hh⟩ := map_some hs; injection hh with _ hh; exact hh.symm
/-- What the text's order holds in its temporaries. -/
theorem es_spec {es : Nat → Env} (hes0 : es 0 = e) (hput : ∀ j oc, l[j]? = some oc → es (j + 1) = put (es j) oc.dst (vs j)) (t : Nat) : ∀ m, m ≤ l.length →
    ((∃ k ok, k < m ∧ l[k]? = some ok ∧ ok.dst = some t ∧ es m t = vs k) ∨ (es m t = e t ∧ ∀ k ok, k < m → l[k]? = some ok → ok.dst ≠ some t)) := by
  intro m
  induction m with
  | zero => intro _; exact .inr ⟨by rw [hes0], fun k ok hk => by omega⟩
  | succ m ih =>
    intro hm'
    have hlm : l[m]? = some l[m] := List.getElem?_eq_getElem (by omega)
    rw [hput m _ hlm]
    by_cases hdm : l[m].dst = some t
    · exact .inl ⟨m, l[m], by omega, hlm, hdm, by rw [hdm]; simp [put, upd]⟩
    · have e1 : put (es m) l[m].dst (vs m) t = es m t := by
        cases hdd : l[m].dst with
        | none => rfl
        | some d => simp only [put, upd]; rw [if_neg (fun hh => hdm (by rw [hdd, hh]))]
      rw [e1]
      rcases ih (by omega) with ⟨k, ok, hk, h1, h2, h3⟩ | ⟨h1, h2⟩
      · exact .inl ⟨k, ok, by omega, h1, h2, h3⟩
      · refine .inr ⟨h1, fun k ok hk hlk => ?_⟩
        by_cases hkm : k = m
        · subst hkm
          have : ok = l[k] := Option.some.inj (hlk.symm.trans hlm)
          rw [this]; exact hdm
        · exact h2 k ok (by omega) hlk
/-- What has been run, where the writers' part has begun. -/
structure Inv2 (B n : Nat) (l : List OpC) (hc : Heap) (vs : Nat → V) (e : Env) (G0 : Gh) (h0 : Heap) (w00 : World) (ds : List Deferred) (D : Nat → Prop) (a : Act) (w : World) (G : Gh) : Prop where
  rel : Rel B G hc w
  evo : Evo B G0 h0 w00 G hc w
  size : a.tmps.size = n
  val : ∀ i oc d, l[i]? = some oc → D i → oc.dst = some d → d < n → Rv B G w (vs i) (a.tmps.getD d undef)
  keep : ∀ t, t < n → (∀ i oc, l[i]? = some oc → D i → oc.dst ≠ some t) → Rv B G w (e t) (a.tmps.getD t undef)
  defers : a.defers = ds
/-- From the part that draws to the writers' part. -/
theorem Inv.two (hI : Inv P B n N l hs vs e G0 w00 ds D a w G) (hx : ∀ j, j < N → Ext (hs j) (hs (j + 1))) (hall : ∀ j, j < N → D j ∨ hs (j + 1) = hs j) (hlN : l.length = N) : Inv2 B n l (hs N) vs e G0 (hs 0) w00 ds D a w G := by
  have up : ∀ {m x u}, Rv B (G.below m) w x u → Rv B G w x u := fun h1 =>
    h1.mono ⟨fun j p e1 => (below_blk.1 e1).2, fun j t e1 => ⟨t, (below_tip.1 e1).2, Nat.le_refl _, fun _ => rfl⟩, fun _ _ hsn => ⟨hsn, rfl⟩⟩
  refine ⟨⟨hI.wf, fun i o ho => ?_⟩, hI.evo, hI.size, fun i oc d h1 h2 h3 h4 => up (hI.val i oc d h1 h2 h3 h4), fun t ht h1 => up (hI.keep t ht h1), hI.defers⟩
  have up : ∀ m, ObjRel B (G.below m) w i o → i < m → ObjRel B G w i o := fun m h1 him =>
    h1.mono ⟨fun j p e1 => (below_blk.1 e1).2, fun j t e1 => ⟨t, (below_tip.1 e1).2, Nat.le_refl _, fun _ => rfl⟩, fun _ _ hsn => ⟨hsn, rfl⟩⟩ (fun _ p ep => ⟨below_blk.2 ⟨him, ep⟩, rfl⟩) (fun _ t et => ⟨below_tip.2 ⟨him, et⟩, rfl⟩)
  have hiN : i < (hs N).length := (List.getElem?_eq_some_iff.1 ho).1
  rcases Nat.lt_or_ge i (hs 0).length with h0 | h0
  · exact up _ (hI.old i o h0 ho) h0
  · obtain ⟨k, hk, h1, h2⟩ : ∃ k, k < N ∧ (hs k).length ≤ i ∧ i < (hs (k + 1)).length := by
      have find : ∀ m, m ≤ N → i < (hs m).length → ∃ k, k < m ∧ (hs k).length ≤ i ∧ i < (hs (k + 1)).length := by
        intro m
        induction m with
        | zero => intro _ h3; omega
        | succ m ih =>
          intro hm' h3
          rcases Nat.lt_or_ge i (hs m).length with h4 | h4
          · obtain ⟨k, hk, h5⟩ := ih (by omega) h4
            exact ⟨k, by omega, h5⟩
          · exact ⟨m, by omega, h4, h3⟩
      exact find N (Nat.le_refl _) hiN
    have hDk : D k := (hall k hk).resolve_right fun hh => by rw [hh] at h2; omega
    exact up _ (hI.new k i o hk hDk h1 h2 ho) h2
/-- One operation of the writers' part, or one that is run late. -/
theorem step_at2 {ops : Array Oper} (hS : Seen P n ops l) (hok : drawOk ops l = true) {ei : Env} {hc hc' h0 : Heap} (hI : Inv2 B n l hc vs e G0 h0 w00 ds D a w G) (hcl : ∀ k ok, D k → ops[k]? = some ok → ∀ j, waits ok j = true → D j)
    {i : Nat} (hi : i < l.length) (hnD : ¬ D i) {oi : Oper} {ci : OpC} (hoi : ops[i]? = some oi) (hci : l[i]? = some ci) (hready : ∀ j, waits oi j = true → D j) (hb : Base w0 B w)
    (hei : ∀ t, (∃ k ok, k < i ∧ l[k]? = some ok ∧ ok.dst = some t ∧ ei t = vs k) ∨ (ei t = e t ∧ ∀ k ok, k < i → l[k]? = some ok → ok.dst ≠ some t))
    (hw : ci.wanted ei = true) (hst : stepI ci.ins ei hc = some (vs i, hc') ∨ ∃ f args, callI ci.ins ei = some (f, args) ∧ isFn P f = true ∧ CallGood P w0 f args hc (vs i) hc')
    {xp : Option (Tmp × Value)} (hxl : ∀ d v, xp = some (d, v) → looksO ops oi d = false ∧ ci.looks d = false ∧ oi.dst ≠ some d)
    {K : Act → World → Prop} {Q : Exit → Act → World → Prop} (hK : ∀ a' w' G', Inv2 B n l hc' vs e G0 h0 w00 ds (fun j => D j ∨ j = i) a' w' G' → Base w0 B w' → Kept w G w' G' → K (putX xp a') w') : wpOp P ops Q i K (putX xp a) w := by
  obtain ⟨oi', g, ins, hoi', hg, hins, hdst, hcie⟩ := hS.at_ i ci hci
  have : oi' = oi := Option.some.inj (hoi'.symm.trans hoi)
  subst this
  have hspec := drawOk_spec hok hoi hci
  have hdist : ∀ (j k : Nat) (oj ok : OpC) (d : Tmp), j ≠ k → l[j]? = some oj → l[k]? = some ok → oj.dst = some d → ok.dst ≠ some d := by
    intro j k oj ok d hjk hj hk hd hd2
    obtain ⟨pj, gj, ij, h1, _, _, _, rfl⟩ := hS.at_ j oj hj
    obtain ⟨pk, gk, ik, h2, _, _, _, rfl⟩ := hS.at_ k ok hk
    rcases Nat.lt_or_ge j k with hlt | hge
    · exact ((drawOk_spec hok h2 hk).2.2 j pj _ hlt h1 hj).1 d hd hd2
    · exact ((drawOk_spec hok h1 hj).2.2 k pk _ (by omega) h2 hk).1 d hd2 hd
  let Good : Nat → Prop := fun t => looksO ops oi' t = true ∨ ci.looks t = true
  classical
  let eI : Env := fun t => if Good t then ei t else .tup []
  let aI : Act := { tmps := Array.ofFn (n := n) fun t => if Good t.1 then a.tmps.getD t.1 undef else undef, defers := a.defers }
  have aI_get : ∀ t, t < n → aI.tmps.getD t undef = if Good t then a.tmps.getD t undef else undef := by
    intro t ht
    simp [aI, ht]
  have hen : EnvRel B G w n eI aI.tmps := by
    refine ⟨by simp [aI], fun t ht => ?_⟩
    rw [aI_get t ht]
    simp only [eI]
    by_cases hgt : Good t
    · rw [if_pos hgt, if_pos hgt]
      have notfree : ∀ {k : Nat} {ok : OpC}, (looksO ops oi' t = false ∧ ci.looks t = false) → False := by
        rintro k ok ⟨h1, h2⟩
        rcases hgt with h3 | h3
        · rw [h1] at h3; cases h3
        · rw [h2] at h3; cases h3
      rcases hei t with ⟨k, ok, hk, hlk, hd, hv⟩ | ⟨hv, hno⟩
      · rw [hv]
        obtain ⟨pk, gk, ik, h2, _, _, _, rfl⟩ := hS.at_ k ok hlk
        have hDk : D k := by
          rcases (hspec.2.2 k pk _ hk h2 hlk).2 with hw' | hw'
          · exact hready k hw'
          · exact (notfree (k := k) (ok := ci) (hw'.1 t hd)).elim
        exact hI.val k _ t hlk hDk hd ht
      · rw [hv]
        refine hI.keep t ht fun k ok hlk hDk hd => ?_
        rcases Nat.lt_trichotomy k i with h1 | rfl | h1
        · exact hno k ok h1 hlk hd
        · exact hnD hDk
        · obtain ⟨pk, gk, ik, h2, _, _, _, rfl⟩ := hS.at_ k ok hlk
          rcases ((drawOk_spec hok h2 hlk).2.2 i oi' ci h1 hoi hci).2 with hw' | hw'
          · exact hnD (hcl k pk hDk h2 i hw')
          · exact notfree (k := k) (ok := ci) (hw'.2 t hd)
    · rw [if_neg hgt, if_neg hgt]; exact rv_undef
  have hrel := hI.rel
  -- what the operation looks at is in step
  have hagree : AgreeL ei eI ci.ins.args := by
    intro t ht
    have : Good t := .inr (by
      cases hl : ci.looks t with
      | true => rfl
      | false => exact absurd ht (not_looks hl).1)
    simp only [eI]; rw [if_pos this]
  have hwantE : OpC.wanted ci eI = OpC.wanted ci ei := by
    unfold OpC.wanted
    cases hgd : ci.guard with
    | none => rfl
    | some tb =>
      obtain ⟨t, b⟩ := tb
      have : Good t := .inr (by
        cases hl : ci.looks t with
        | true => rfl
        | false => exact absurd hgd ((not_looks hl).2 b))
      simp only [eI]; rw [if_pos this]
  have hevalE : ∀ x ∈ oi'.op.operands, a.eval x = aI.eval x := by
    intro x hxo
    cases x with
    | tmp t =>
      by_cases ht : t < n
      · have : Good t := by
          have hmem : t ∈ oi'.looksAt ops := List.mem_append_left _ (List.mem_filterMap.2 ⟨.tmp t, by simpa using hxo, rfl⟩)
          exact .inl (List.contains_iff_mem.2 hmem)
        show a.tmps.getD t undef = aI.tmps.getD t undef
        rw [aI_get t ht, if_pos this]
      · show a.tmps.getD t undef = aI.tmps.getD t undef
        have h1 : ¬ t < a.tmps.size := by rw [hI.size]; exact ht
        have h2 : ¬ t < aI.tmps.size := by simp only [aI, Array.size_ofFn]; exact ht
        simp [h1, h2]
    | const c => rfl
    | global c => rfl
    | func c => rfl
  have hexec : execOp a.eval oi' = execOp aI.eval oi' := execOp_congr oi' hspec.1 hevalE
  have hwantR : Region.wanted oi' (yielded ops a.tmps) = OpC.wanted ci ei := by
    have h1 : Region.wanted oi' (yielded ops aI.tmps) = OpC.wanted ci eI := by rw [hcie]; exact wanted_eq hg hen
    rw [← hwantE, ← h1]
    unfold Region.wanted
    cases hgd : oi'.guard with
    | none => rfl
    | some jb =>
      obtain ⟨j, b⟩ := jb
      simp only [hgd, guardC] at hg
      split at hg <;> first | (cases hg; done) | skip
      rename_i t ht
      split at hg <;> first | (cases hg; done) | skip
      rename_i htn
      injection hg with hg
      have hgood : Good t := .inr (by
        cases hl : ci.looks t with
        | true => rfl
        | false =>
          refine absurd ?_ ((not_looks hl).2 b)
          rw [hcie, ← hg])
      have e1 : yielded ops aI.tmps j = yielded ops a.tmps j := by
        have s1 : a.tmps[t]? = some (a.tmps.getD t undef) := by
          have : t < a.tmps.size := by rw [hI.size]; exact htn
          simp [this]
        have s2 : aI.tmps[t]? = some (aI.tmps.getD t undef) := by
          have : t < aI.tmps.size := by simp [aI]; exact htn
          simp [this]
        simp only [yielded, ht, Option.bind_some, s1, s2]
        rw [aI_get t htn, if_pos hgood]
      simp only [e1]
  have hcd : ci.dst = oi'.dst := by rw [hcie]
  have hcin : ci.ins = ins := by rw [hcie]
  have fin : ∀ {G1 : Gh} {w1 : World} {val : Value}, Rel B G1 hc' w1 → Evo B G hc w G1 hc' w1 → Rv B G1 w1 (vs i) val → K ((putX xp a).put oi'.dst val) w1 := by
    intro G1 w1 val h1 h2 h3
    rw [putX_put fun d v hx => (hxl d v hx).2.2]
    refine hK _ _ G1 ⟨h1, hI.evo.trans h2, ?_, ?_, ?_, ?_⟩ (hb.evo hrel h2) h2.kept
    · cases hdd : oi'.dst <;> simp [Act.put, hI.size]
    · intro k ock d hlk hDk hd hdlt
      by_cases hki : k = i
      · subst hki
        have : ock = ci := Option.some.inj (hlk.symm.trans hci)
        subst this
        have hget : (a.put oi'.dst val).tmps.getD d undef = val := by rw [← hcd]; simp [Act.put, hd, hI.size, hdlt]
        rw [hget]
        exact h3
      · have hDk' : D k := hDk.resolve_right hki
        have hne := hdist k i ock ci d hki hlk hci hd
        have hget : (a.put oi'.dst val).tmps.getD d undef = a.tmps.getD d undef := by
          rw [← hcd]
          cases hdd : ci.dst with
          | none => rfl
          | some d' =>
            have : d' ≠ d := fun hh => hne (by rw [hdd, hh])
            simp [Act.put, Array.getElem?_setIfInBounds_ne this]
        rw [hget]
        exact (hI.val k ock d hlk hDk' hd hdlt).mono h2.le
    · intro t ht hno
      have hne : ci.dst ≠ some t := hno i ci hci (.inr rfl)
      have hget : (a.put oi'.dst val).tmps.getD t undef = a.tmps.getD t undef := by
        rw [← hcd]
        cases hdd : ci.dst with
        | none => rfl
        | some d' =>
          have : d' ≠ t := fun hh => hne (by rw [hdd, hh])
          simp [Act.put, Array.getElem?_setIfInBounds_ne this]
      rw [hget]
      exact (hI.keep t ht fun k ock hlk hDk => hno k ock hlk (.inl hDk)).mono h2.le
    · rw [put_defers]; exact hI.defers
  have hexecX := putX_exec (a := a) hspec.1 hxl
  have hwantX := putX_wanted (a := a) hxl
  unfold wpOp
  simp only [hoi]
  rw [hwantX, hwantR, hw, if_pos rfl]
  rcases hst with hst | ⟨f, args, hst, hf, hg'⟩
  · have hst' : stepI ins eI hc = some (vs i, hc') := by rw [← hcin, ← stepI_congr hagree]; exact hst
    obtain ⟨nx, w', G', val, hr, hnx, hv, hrel', hevo'⟩ := ins_sound (a := aI) hins hst' hen hrel
    refine .inl ?_
    unfold Oper.wp
    rw [hexecX, hexec, hr]
    rcases hnx with rfl | ⟨rfl, rfl⟩
    · exact fin hrel' hevo' hv
    · exact fin hrel' hevo' hv
  · have hst' : callI ins eI = some (f, args) := by rw [← hcin, ← callI_congr hagree]; exact hst
    obtain ⟨us, hr, hvs⟩ := call_sound (a := aI) hins hst' hf hen
    refine .inl ?_
    unfold Oper.wp
    rw [hexecX, hexec, hr]
    refine (hg' B _ w us hrel hb hvs).mono fun en w' hpost => ?_
    obtain ⟨G', val, rfl, hv, hrel', hevo'⟩ := hpost
    exact fin hrel' hevo' hv
theorem mOk_spec {fa : Bool} {ms : List Nat} {c1 : Nat} {fp : List Nat} (hm : mOk fa ms l c1 fp = true) : (∀ i, i ∈ fp → i < c1 ∧ ∃ o, l[i]? = some o ∧ lateO o = true) ∧
    (∀ j oj, l[j]? = some oj → c1 ≤ j → oj.guard = none ∧ ((∀ i, i < j → (ms.getD j 0).testBit i = true ∨ i ∈ fp) ∨ (fa = true ∧ j + 1 = l.length))) ∧
    (∀ i, i ∈ fp → ∀ j oi oj d, i ≤ j → l[i]? = some oi → l[j]? = some oj → oj.dst = some d → oi.looks d = false) := by
  simp only [mOk, Bool.and_eq_true] at hm
  obtain ⟨⟨h1, h2⟩, h3⟩ := hm
  refine ⟨fun i hi => ?_, fun j oj hj hc => ?_, fun i hi j oi oj d hij hoi hoj hd => ?_⟩
  · have := List.all_eq_true.1 h1 i hi
    simp only [Bool.and_eq_true, decide_eq_true_eq] at this
    refine ⟨this.1, ?_⟩
    have h4 := this.2
    split at h4
    · rename_i o ho; exact ⟨o, ho, h4⟩
    · cases h4
  · have hjl := (List.getElem?_eq_some_iff.1 hj).1
    have := List.all_eq_true.1 h2 j (List.mem_range.2 hjl)
    simp only [hj, Bool.or_eq_true, decide_eq_true_eq, Bool.and_eq_true] at this
    have := this.resolve_left (by omega)
    refine ⟨by simpa using this.1, ?_⟩
    rcases this.2 with h5 | h5
    · exact .inr h5
    refine .inl fun i hi => ?_
    have h4 := List.all_eq_true.1 h5 i (List.mem_range.2 hi)
    simp only [Bool.or_eq_true] at h4
    exact h4.imp id fun h5 => List.contains_iff_mem.1 h5
  · have hjl := (List.getElem?_eq_some_iff.1 hoj).1
    have := List.all_eq_true.1 (List.all_eq_true.1 h3 i hi) j (List.mem_range.2 hjl)
    simp only [hoi, hoj, hd, Bool.or_eq_true, decide_eq_true_eq] at this
    have := this.resolve_left (by omega)
    simpa using this
theorem drawOk_pre {ops : Array Oper} {m : List OpC} (h1 : drawOk ops (l ++ m) = true) : drawOk ops l = true := by
  have get : ∀ i, i < l.length → (l ++ m)[i]? = l[i]? := fun i hi => List.getElem?_append_left hi
  refine List.all_eq_true.2 fun j hj => ?_
  have hjl := List.mem_range.1 hj
  have h2 := List.all_eq_true.1 h1 j (List.mem_range.2 (by simp; omega))
  rw [get j hjl] at h2
  cases ho : ops[j]? with
  | none => simp [ho] at h2
  | some oj =>
    cases hc : l[j]? with
    | none => simp [ho, hc] at h2
    | some cj =>
      simp only [ho, hc, Bool.and_eq_true] at h2 ⊢
      refine ⟨h2.1, List.all_eq_true.2 fun i hi => ?_⟩
      have h3 := List.all_eq_true.1 h2.2 i hi
      have hij : i < j := List.mem_range.1 hi
      rw [get i (Nat.lt_trans hij hjl)] at h3
      exact h3
theorem loadV_ext {g : Bool} {s : Nat} {x v : V} (hl : loadV h g s x = some v) (hx : Ext h h') : loadV h' g s x = some v := by
  cases x <;> simp only [loadV] at hl ⊢ <;> first | exact hl | skip
  rename_i id off
  cases hg : h[id]? with
  | none => rw [hg] at hl; cases hl
  | some ob =>
    rw [hx id (List.getElem?_eq_some_iff.1 hg).1]
    exact hl
theorem flC_mem : ∀ {fl : List (Nat × Bool × Nat × Arg)} {d : Nat} {g : Bool} {s : Nat} {x : Arg}, flC fl e h → (d, g, s, x) ∈ fl → loadV h g s (x.get e) = some (e d)
  | p :: r, d, g, s, x, hf, hm => by
    obtain ⟨d', g', s', x'⟩ := p
    rcases List.mem_cons.1 hm with hh | hh
    · injection hh with h1 hh; injection hh with h2 hh; injection hh with h3 h4
      subst h1; subst h2; subst h3; subst h4
      exact hf.1
    · exact flC_mem hf.2 hh
/-- What is run late comes to the same at each place of the writers' part. -/
theorem late_same {fa : Bool} {es : Nat → Env} {c1 : Nat} {fp : List Nat} {ms : List Nat} (hes0 : es 0 = e) (hput : ∀ j oc, l[j]? = some oc → es (j + 1) = put (es j) oc.dst (vs j)) (hmo : mOk fa ms l c1 fp = true) (hc1 : c1 ≤ l.length)
    (hdist : ∀ (j k : Nat) (oj ok : OpC) (d : Tmp), j ≠ k → l[j]? = some oj → l[k]? = some ok → oj.dst = some d → ok.dst ≠ some d)
    (hx : ∀ j, j < c1 → Ext (hs j) (hs (j + 1))) (hq : ∀ j oc, l[j]? = some oc → c1 ≤ j → hs (j + 1) = hs j ∨ flC (flI l fp) (es (j + 1)) (hs (j + 1)))
    {f : Nat} (hf : f ∈ fp) {o : OpC} (ho : l[f]? = some o) (hst : stepI o.ins (es f) (hs f) = some (vs f, hs (f + 1))) : hs (f + 1) = hs f ∧ ∀ m, c1 ≤ m → m ≤ l.length → stepI o.ins (es f) (hs m) = some (vs f, hs m) := by
  obtain ⟨m1, m2, m3⟩ := mOk_spec hmo
  obtain ⟨hfc, o', ho', hlo⟩ := m1 f hf
  have : o' = o := Option.some.inj (ho'.symm.trans ho)
  subst this
  obtain ⟨od, og, oi⟩ := o'
  have hlate : (∃ d, od = some d) ∧ og = none ∧ lateI oi = true := by
    cases od <;> cases og <;> simp [lateO] at hlo
    exact ⟨⟨_, rfl⟩, rfl, hlo⟩
  obtain ⟨⟨d, rfl⟩, rfl, hli⟩ := hlate
  have hqi : quiet oi = true := by cases oi <;> simp [lateI] at hli <;> rfl
  have hsame := quiet_step hqi hst
  refine ⟨hsame, ?_⟩
  simp only at hst
  rw [hsame] at hst
  cases oi <;> simp only [lateI, Bool.false_eq_true] at hli
  case mv x =>
    intro m _ _
    simp only [stepI] at hst ⊢
    injection hst with hst; injection hst with h1 _; rw [h1]
  case ext i x =>
    intro m _ _
    simp only [stepI] at hst ⊢
    split at hst <;> first | (cases hst; done) | skip
    rename_i ws hws
    obtain ⟨y, h1, h2⟩ := map_some hst
    injection h2 with h2 _
    first
      | rw [hws]
      | skip
    simp only [h1, Option.map_some, h2]
  case bin op x y =>
    intro m _ _
    simp only [stepI] at hst ⊢
    obtain ⟨y, h1, h2⟩ := map_some hst
    injection h2 with h2 _
    simp only [h1, Option.map_some, h2]
  case load g s x =>
    have hload : loadV (hs f) g s (x.get (es f)) = some (vs f) := by
      simp only [stepI] at hst
      obtain ⟨y, h1, h2⟩ := map_some hst
      injection h2 with h2 _
      rw [h1, h2]
    have hmem : (d, g, s, x) ∈ flI l fp := List.mem_filterMap.2 ⟨f, hf, by rw [ho]; rfl⟩
    -- the temporaries that it looks at stay
    have hget : ∀ m, f < m → m ≤ l.length → x.get (es m) = x.get (es f) := by
      intro m hm hml
      cases x with
      | c v => rfl
      | t t0 =>
        have hlk : (OpC.mk (some d) none (.load g s (.t t0))).looks t0 = true := by simp [OpC.looks, Ins.args]
        show es m t0 = es f t0
        have no : ∀ k ok, f ≤ k → l[k]? = some ok → ok.dst ≠ some t0 := fun k ok hk hlk' hd => by
          have := m3 f hf k _ ok t0 hk ho hlk' hd
          rw [hlk] at this; cases this
        rcases es_spec hes0 hput t0 m hml with ⟨k, ok, hk, h1, h2, h3⟩ | ⟨h1, h2⟩
        · have hkf : k < f := Classical.byContradiction fun hn => no k ok (by omega) h1 h2
          rcases es_spec hes0 hput t0 f (by omega) with ⟨k', ok', hk', h1', h2', h3'⟩ | ⟨h1', h2'⟩
          · have : k = k' := Classical.byContradiction fun hn => hdist k k' ok ok' t0 hn h1 h1' h2 h2'
            subst this
            rw [h3, h3']
          · exact absurd h2 (h2' k ok hkf h1)
        · rcases es_spec hes0 hput t0 f (by omega) with ⟨k', ok', hk', h1', h2', h3'⟩ | ⟨h1', h2'⟩
          · exact absurd h2' (h2 k' ok' (by omega) h1')
          · rw [h1, h1']
    have hval : ∀ m, f < m → m ≤ l.length → es m d = vs f := by
      intro m hm hml
      rcases es_spec hes0 hput d m hml with ⟨k, ok, hk, h1, h2, h3⟩ | ⟨h1, h2⟩
      · have : k = f := Classical.byContradiction fun hn => hdist k f ok _ d hn h1 ho h2 rfl
        subst this
        exact h3
      · exact absurd rfl (h2 f _ hm ho)
    have key : ∀ m, c1 ≤ m → m ≤ l.length → loadV (hs m) g s (x.get (es f)) = some (vs f) := by
      intro m
      induction m with
      | zero => intro h1 _; omega
      | succ m ih =>
        intro h1 h2
        rcases Nat.lt_or_ge m c1 with h3 | h3
        · have : c1 = m + 1 := by omega
          rw [← this]
          exact loadV_ext hload (ext_le hx (by omega) (Nat.le_refl _))
        · rcases hq m _ (List.getElem?_eq_getElem (show m < l.length by omega)) h3 with h4 | h4
          · rw [h4]; exact ih h3 (by omega)
          · have := flC_mem h4 hmem
            rw [hget (m + 1) (by omega) h2, hval (m + 1) (by omega) h2] at this
            exact this
    intro m h1 h2
    simp only [stepI, key m h1 h2, Option.map_some]
theorem set_listed {listed : Array Bool} {i : Nat} (hi : i < listed.size) (j : Nat) : (listed.setIfInBounds i true).getD j true = true ↔ (listed.getD j true = true ∨ j = i) := by
  by_cases hji : j = i
  · subst hji
    have : (listed.setIfInBounds j true).getD j true = true := by
      rw [Array.getD_eq_getD_getElem?]
      simp [hi]
    simp [this]
  · rw [getD_set_ne true (fun hh => hji hh.symm)]
    simp [hji]
theorem count_set {listed : Array Bool} {i M : Nat} (hi : i < listed.size) (hM : i < M) (h1 : listed.getD i true = false) : (List.range M).countP (fun j => !(listed.setIfInBounds i true).getD j true) < (List.range M).countP (fun j => !listed.getD j true) :=
  count_less (fun j hj => by
    simp only [Bool.not_eq_true'] at hj ⊢
    cases h3 : listed.getD j true with
    | false => rfl
    | true => rw [(set_listed hi j).2 (.inl h3)] at hj; cases hj) (List.mem_range.2 hM) (by rw [h1]; rfl) (by rw [(set_listed hi i).2 (.inr rfl)]; rfl)
theorem set_D {listed : Array Bool} {i N : Nat} (hi : i < listed.size) (hiN : i < N) : (fun j => (listed.setIfInBounds i true).getD j true = true ∧ j < N) = (fun j => (listed.getD j true = true ∧ j < N) ∨ j = i) := by
  funext j
  rw [set_listed hi j]
  refine propext ⟨fun ⟨h2, h3⟩ => h2.imp (fun h4 => ⟨h4, h3⟩) (fun h4 => h4), fun h2 => ?_⟩
  rcases h2 with ⟨h3, h4⟩ | rfl
  · exact ⟨.inl h3, h4⟩
  · exact ⟨.inr rfl, hiN⟩
theorem set_cl {ops : Array Oper} {listed : Array Bool} {i N : Nat} (hi : i < listed.size) (hcl : ∀ k ok, listed.getD k true = true ∧ k < N → ops[k]? = some ok → ∀ j, waits ok j = true → listed.getD j true = true ∧ j < N)
    {oi : Oper} (hoi : ops[i]? = some oi) (hready : ∀ j, waits oi j = true → listed.getD j true = true ∧ j < N) :
    ∀ k ok, (listed.setIfInBounds i true).getD k true = true ∧ k < N → ops[k]? = some ok → ∀ j, waits ok j = true → (listed.setIfInBounds i true).getD j true = true ∧ j < N := by
  rintro k ok ⟨hk1, hk2⟩ hok' j hw
  rcases (set_listed hi k).1 hk1 with h3 | rfl
  · obtain ⟨h4, h5⟩ := hcl k ok ⟨h3, hk2⟩ hok' j hw
    exact ⟨(set_listed hi j).2 (.inl h4), h5⟩
  · have : ok = oi := Option.some.inj (hok'.symm.trans hoi)
    subst this
    obtain ⟨h4, h5⟩ := hready j hw
    exact ⟨(set_listed hi j).2 (.inl h4), h5⟩
theorem least_of {p : Nat → Prop} (hex : ∃ j, p j) : ∃ j0, p j0 ∧ ∀ j, j < j0 → ¬ p j := by
  obtain ⟨j, hj⟩ := hex
  induction j using Nat.strongRecOn with
  | ind j ih =>
    by_cases h1 : ∃ k, k < j ∧ p k
    · obtain ⟨k, hk, hpk⟩ := h1
      exact ih k hk hpk
    · exact ⟨j, hj, fun k hk hpk => h1 ⟨k, hk, hpk⟩⟩
theorem ready_some {ops : Array Oper} {listed : Array Bool} (hsz : listed.size = ops.size) (hback : ∀ k ok, ops[k]? = some ok → ∀ j, waits ok j = true → j < k) {j0 : Nat} (hj0 : j0 < ops.size) (hl0 : listed.getD j0 true = false) (hbelow : ∀ j, j < j0 → listed.getD j true = true) : Region.ready .any ops listed ≠ [] := by
  intro hrd
  have hoj : ops[j0]? = some ops[j0] := Array.getElem?_eq_getElem hj0
  have hmem : j0 ∈ Region.ready .any ops listed := by
    refine mem_ready.2 ⟨hl0, ops[j0], hoj, fun ed hed hbd => ?_⟩
    have hlt := hback j0 _ hoj ed.on (by
      unfold waits
      rw [Array.any_eq_true']
      exact ⟨ed, hed, by simp [hbd]⟩)
    have h1 := hbelow ed.on hlt
    rw [Array.getD_eq_getD_getElem?] at h1 ⊢
    have h2 : ed.on < listed.size := by omega
    rw [Array.getElem?_eq_getElem h2] at h1 ⊢
    exact h1
  rw [hrd] at hmem
  cases hmem
theorem run_puts {l m : List OpC} {e : Env} {h : Heap} {e1 : Env} {h1 : Heap} {e' : Env} {h' : Heap} {fl : List (Nat × Bool × Nat × Arg)} (hd : DGood P w0 l e h e1 h1) (hmd : MGood P w0 fl m e1 h1 e' h') :
    ∃ (es : Nat → Env) (hs : Nat → Heap) (vs : Nat → V), es 0 = e ∧ hs 0 = h ∧ es (l ++ m).length = e' ∧ hs (l ++ m).length = h' ∧
      (∀ j oc, l[j]? = some oc → es (j + 1) = put (es j) oc.dst (vs j) ∧ StepD P w0 oc (es j) (hs j) (vs j) (hs (j + 1))) ∧
      (∀ j oc, (l ++ m)[j]? = some oc → es (j + 1) = put (es j) oc.dst (vs j)) ∧
      (∀ j oc, (l ++ m)[j]? = some oc → l.length ≤ j → oc.wanted (es j) = true ∧ (hs (j + 1) = hs j ∨ flC fl (es (j + 1)) (hs (j + 1))) ∧
        (stepI oc.ins (es j) (hs j) = some (vs j, hs (j + 1)) ∨ ∃ f args, callI oc.ins (es j) = some (f, args) ∧ isFn P f = true ∧ CallGood P w0 f args (hs j) (vs j) (hs (j + 1)))) := by
  obtain ⟨ea, ha, va, a1, a2, a3, a4, a5⟩ := run_of hd
  obtain ⟨eb, hb, vb, b1, b2, b3, b4, b5⟩ := mrun_of hmd
  have idx : ∀ j, l.length ≤ j → (l ++ m)[j]? = m[j - l.length]? := fun j hj => List.getElem?_append_right hj
  refine ⟨fun j => if j < l.length then ea j else eb (j - l.length), fun j => if j < l.length then ha j else hb (j - l.length), fun j => if j < l.length then va j else vb (j - l.length), ?_, ?_, ?_, ?_, ?_, ?_, ?_⟩
  · by_cases h0 : 0 < l.length
    · simp only [if_pos h0, a1]
    · have : l.length = 0 := by omega
      rw [this] at a3
      simp only [if_neg h0, Nat.zero_sub, b1]
      rw [← a3, a1]
  · by_cases h0 : 0 < l.length
    · simp only [if_pos h0, a2]
    · have : l.length = 0 := by omega
      rw [this] at a4
      simp only [if_neg h0, Nat.zero_sub, b2]
      rw [← a4, a2]
  · simp only [List.length_append]
    rw [if_neg (by omega), Nat.add_sub_cancel_left]; exact b3
  · simp only [List.length_append]
    rw [if_neg (by omega), Nat.add_sub_cancel_left]; exact b4
  · intro j oc hj
    have hjl := (List.getElem?_eq_some_iff.1 hj).1
    obtain ⟨c1, c2⟩ := a5 j oc hj
    simp only [if_pos hjl]
    by_cases h1 : j + 1 < l.length
    · simp only [if_pos h1]; exact ⟨c1, c2⟩
    · have h2 : j + 1 = l.length := by omega
      simp only [if_neg h1]
      rw [show j + 1 - l.length = 0 by omega, b1, b2, ← a3, ← a4, ← h2]
      exact ⟨c1, c2⟩
  · intro j oc hj
    rcases Nat.lt_or_ge j l.length with h0 | h0
    · rw [List.getElem?_append_left h0] at hj
      obtain ⟨c1, c2⟩ := a5 j oc hj
      simp only [if_pos h0]
      by_cases h1 : j + 1 < l.length
      · simp only [if_pos h1]; exact c1
      · have h2 : j + 1 = l.length := by omega
        simp only [if_neg h1]
        rw [show j + 1 - l.length = 0 by omega, b1, ← a3, ← h2]
        exact c1
    · rw [idx j h0] at hj
      obtain ⟨c1, c2⟩ := b5 _ oc hj
      simp only [if_neg (show ¬ j < l.length by omega), if_neg (show ¬ j + 1 < l.length by omega), show j + 1 - l.length = j - l.length + 1 by omega]
      exact c1
  · intro j oc hj h0
    rw [idx j h0] at hj
    obtain ⟨c1, c2, c3⟩ := b5 _ oc hj
    simp only [if_neg (show ¬ j < l.length by omega), if_neg (show ¬ j + 1 < l.length by omega), show j + 1 - l.length = j - l.length + 1 by omega]
    refine ⟨c2, ?_, ?_⟩
    · rcases c3 with ⟨h1, h2 | h2⟩ | ⟨_, h2⟩
      · exact .inl (quiet_step h2 h1)
      · exact .inr h2
      · exact .inr h2
    · rcases c3 with ⟨h1, _⟩ | ⟨h1, _⟩
      · exact .inl h1
      · exact .inr h1
theorem midA_spec {ms : List Nat} {c1 : Nat} {fp : List Nat} : ∀ {r : List Nat}, midA ms l r = some (c1, fp) → c1 < l.length ∧ mOk true ms l c1 fp = true
  | [], h => by cases h
  | c :: r, h => by
    unfold midA at h
    split at h
    · rename_i hh
      injection h with h
      injection h with h1 h2
      subst h1; subst h2
      exact ⟨hh.1, hh.2.2⟩
    · exact midA_spec h
theorem midC_spec {fa : Bool} {ms : List Nat} {c1 : Nat} {fp : List Nat} (h : midC fa ms l = some (c1, fp)) : c1 < l.length ∧ ∃ fb : Bool, (fb = true → fa = true) ∧ mOk fb ms l c1 fp = true := by
  simp only [midC] at h
  split at h
  · rename_i hh
    injection h with h
    injection h with h1 h2
    subst h1; subst h2
    exact ⟨hh.1, false, by simp, hh.2⟩
  · split at h
    · rename_i hfa
      obtain ⟨h1, h2⟩ := midA_spec h
      exact ⟨h1, true, fun _ => hfa, h2⟩
    · cases h
/-- New blocks alone. -/
theorem push_wf {h : Heap} {w w' : World} {G : Gh} (hw : Wf B G h w) (hb : RowKit.Below w.heap.size w w') : Wf B G h w' ∧ Evo B G h w G h w' := by
  have hle : Le B G w G w' := by
    refine ⟨fun _ _ e => e, fun _ t e => ⟨t, e, Nat.le_refl _, fun _ => rfl⟩, fun b o hs => ⟨hs, at?_of_block (hb.block b ?_)⟩⟩
    rcases hs with hs | ⟨n, hs, _⟩
    · exact Nat.lt_of_lt_of_le hs hw.base
    · exact (hw.lim b n hs).2
  refine ⟨⟨Nat.le_trans hw.base hb.size, fun id p e => ?_, fun id t e => ?_, fun b n e => ?_, hw.inj, hw.tinj, hw.tipo⟩, ?_⟩
  · obtain ⟨h1, h2, h3, h4⟩ := hw.blk id p e
    exact ⟨h1, Nat.lt_of_lt_of_le h2 hb.size, h3, h4⟩
  · obtain ⟨h1, h2, h3, h4⟩ := hw.tip id t e
    exact ⟨h1, Nat.lt_of_lt_of_le h2 hb.size, h3, h4⟩
  · obtain ⟨h1, h2⟩ := hw.lim b n e
    exact ⟨h1, Nat.lt_of_lt_of_le h2 hb.size⟩
  · exact { Evo.refl (w := w) hw with
      le := hle, os := hb.os, tape := hb.tape, output := hb.output, size := hb.size
      frame := fun b hlt _ => hb.block b hlt }
theorem Rel.push {h : Heap} {w w' : World} {G : Gh} (hr : Rel B G h w) (hb : RowKit.Below w.heap.size w w') : Rel B G h w' ∧ Evo B G h w G h w' := by
  obtain ⟨h1, h2⟩ := push_wf hr.wf hb
  exact ⟨⟨h1, fun id o ho => (hr.obj id o ho).mono h2.le (fun _ p e => ⟨e, hb.block _ (hr.wf.blk id p e).2.1⟩) (fun _ t e => ⟨e, hb.block _ (hr.wf.tip id t e).2.1⟩)⟩, h2⟩
theorem Inv.push {w' : World} (hI : Inv P B n N l hs vs e G0 w00 ds D a w G) (hb : RowKit.Below w.heap.size w w') : Inv P B n N l hs vs e G0 w00 ds D a w' G := by
  obtain ⟨h1, h2⟩ := push_wf hI.wf hb
  have lbl : ∀ m, Le B (G.below m) w (G.below m) w' := fun m => ⟨fun _ _ e => e, fun _ t e => ⟨t, e, Nat.le_refl _, fun _ => rfl⟩, fun b o hs => ⟨hs, (h2.le.stab b o hs).2⟩⟩
  have ob : ∀ m id o, ObjRel B (G.below m) w id o → ObjRel B (G.below m) w' id o := fun m id o h => h.mono (lbl m) (fun _ p e => ⟨e, hb.block _ (hI.wf.blk id p (below_blk.1 e).2).2.1⟩) (fun _ t e => ⟨e, hb.block _ (hI.wf.tip id t (below_tip.1 e).2).2.1⟩)
  exact ⟨h1, hI.evo.trans h2, hI.dom, fun id o h3 h4 => ob _ _ _ (hI.old id o h3 h4), fun i id o h3 h4 h5 h6 h7 => ob _ _ _ (hI.new i id o h3 h4 h5 h6 h7), hI.size, fun i oc d h3 h4 h5 h6 => (hI.val i oc d h3 h4 h5 h6).mono (lbl _), fun t h3 h4 => (hI.keep t h3 h4).mono (lbl _), hI.sep, hI.defers⟩
theorem Inv2.push {hc h0 : Heap} {w' : World} (hI : Inv2 B n l hc vs e G0 h0 w00 ds D a w G) (hb : RowKit.Below w.heap.size w w') : Inv2 B n l hc vs e G0 h0 w00 ds D a w' G := by
  obtain ⟨h1, h2⟩ := hI.rel.push hb
  exact ⟨h1, hI.evo.trans h2, hI.size, fun i oc d h3 h4 h5 h6 => (hI.val i oc d h3 h4 h5 h6).mono h2.le, fun t h3 h4 => (hI.keep t h3 h4).mono h2.le, hI.defers⟩
/-- A block that nobody knows of gets a number. -/
theorem Rel.reg {h : Heap} {w : World} {G : Gh} {b : Nat} {arr : Array Value} {T : TypeId} {cs : List V} (hr : Rel B G h w) (hB : B ≤ b) (hlt : b < w.heap.size) (hun : ¬ Mapped G b) (hlim : G.lim b = none) (hcell : w.heap[b]? = some (.cells arr T (0, 0))) (hv : ∀ G' : Gh, Rvs B G' w cs arr.toList) (h1 : ∀ c ∈ cs, oneC c) :
    Rel B (G.addBlk h.length b arr.size) (h ++ [.box cs]) w ∧ Le B G w (G.addBlk h.length b arr.size) w := by
  have hw := hr.wf
  have hnew : G.blk h.length = none := by
    cases e : G.blk h.length with
    | none => rfl
    | some p => exact absurd (hw.blk _ _ e).2.2.2 (by omega)
  have blk' : ∀ id p, (G.addBlk h.length b arr.size).blk id = some p → (id = h.length ∧ p = (b, arr.size)) ∨ (id ≠ h.length ∧ G.blk id = some p) := by
    intro id p e
    by_cases hid : id = h.length
    · subst hid
      have : (b, arr.size) = p := by simpa [Gh.addBlk] using e
      exact .inl ⟨rfl, this.symm⟩
    · exact .inr ⟨hid, by simpa [Gh.addBlk, hid] using e⟩
  have hle : Le B G w (G.addBlk h.length b arr.size) w := by
    refine ⟨fun id p e => ?_, fun _ t e => ⟨t, e, Nat.le_refl _, fun _ => rfl⟩, fun _ _ hs => ⟨hs, rfl⟩⟩
    have hid : id ≠ h.length := fun hh => by rw [hh, hnew] at e; cases e
    simpa [Gh.addBlk, hid] using e
  refine ⟨⟨⟨hw.base, fun id p e => ?_, fun id t e => ?_, hw.lim, fun i j p q ei ej hpq ai aj => ?_, hw.tinj, fun i t e => ?_⟩, fun id x e => ?_⟩, hle⟩
  · rcases blk' id p e with ⟨rfl, rfl⟩ | ⟨_, e0⟩
    · exact ⟨hB, hlt, hlim, by simp⟩
    · obtain ⟨c1, c2, c3, c4⟩ := hw.blk id p e0
      exact ⟨c1, c2, c3, by simp; omega⟩
  · obtain ⟨c1, c2, c3, c4⟩ := hw.tip id t e
    exact ⟨c1, c2, c3, by simp; omega⟩
  · rcases blk' i p ei with ⟨rfl, rfl⟩ | ⟨hi, e0⟩ <;> rcases blk' j q ej with ⟨rfl, rfl⟩ | ⟨hj, f0⟩
    · rfl
    · exact absurd (.inl ⟨j, q, f0, hpq.symm⟩) hun
    · exact absurd (.inl ⟨i, p, e0, hpq⟩) hun
    · have li := (hw.blk i p e0).2.2.2
      have lj := (hw.blk j q f0).2.2.2
      exact hw.inj i j p q e0 f0 hpq ((alive_append li).1 ai) ((alive_append lj).1 aj)
  · rw [List.getElem?_append_left (hw.tip i t e).2.2.2]
    exact hw.tipo i t e
  · rcases Nat.lt_trichotomy id h.length with hl | heq | hgt
    · rw [List.getElem?_append_left hl] at e
      refine (hr.obj id x e).mono hle (fun _ p ep => ?_) (fun _ t et => ⟨et, rfl⟩)
      rcases blk' id p ep with ⟨rfl, _⟩ | ⟨_, e0⟩
      · omega
      · exact ⟨e0, rfl⟩
    · subst heq
      rw [List.getElem?_append_right (Nat.le_refl _)] at e
      simp at e
      subst e
      intro b' m hb
      have : (b, arr.size) = (b', m) := by simpa [Gh.addBlk] using hb
      injection this with e1 e2
      subst e1; subst e2
      have hvg := hv (G.addBlk h.length b arr.size)
      refine ⟨arr, T, (0, 0), hcell, rfl, .inl rfl, by have := hvg.1; simp at this; omega, h1, fun k x hk => ?_⟩
      have hkl : k < arr.size := by have := (List.getElem?_eq_some_iff.1 hk).1; have := hvg.1; simp at this; omega
      exact ⟨arr[k], by simp [hkl], hvg.2 k x arr[k] hk (by simp [hkl])⟩
    · rw [List.getElem?_eq_none (by simp; omega)] at e
      cases e
theorem Evo.reg {h0 h : Heap} {w : World} {G : Gh} {b m : Nat} {o : O} (he : Evo B G0 h0 w00 G h w) (hle : Le B G w (G.addBlk h.length b m) w) (hlo : w00.heap.size ≤ b) : Evo B G0 h0 w00 (G.addBlk h.length b m) (h ++ [o]) w := by
  have blk' : ∀ id p, (G.addBlk h.length b m).blk id = some p → (id = h.length ∧ p = (b, m)) ∨ (id ≠ h.length ∧ G.blk id = some p) := by
    intro id p e
    by_cases hid : id = h.length
    · subst hid
      have : (b, m) = p := by simpa [Gh.addBlk] using e
      exact .inl ⟨rfl, this.symm⟩
    · exact .inr ⟨hid, by simpa [Gh.addBlk, hid] using e⟩
  exact {
    le := he.le.trans hle, os := he.os, tape := he.tape, output := he.output, size := he.size, len := by have := he.len; simp; omega
    frame := he.frame
    fresh := by
      rintro c hc (⟨id, p, e, rfl⟩ | ⟨id, t, e, rfl⟩)
      · rcases blk' id p e with ⟨rfl, rfl⟩ | ⟨_, e0⟩
        · simp only at hc; omega
        · exact he.fresh _ hc (.inl ⟨id, p, e0, rfl⟩)
      · exact he.fresh _ hc (.inr ⟨id, t, e, rfl⟩)
    limk := he.limk
    nores := fun x hx ha => he.nores x hx ((alive_append (by have := he.len; omega)).1 ha)
    oldb := by
      intro x p hx e
      rcases blk' x p e with ⟨rfl, _⟩ | ⟨_, e0⟩
      · have := he.len; omega
      · exact he.oldb x p hx e0
    oldt := he.oldt
    newb := by
      intro x p hx e
      rcases blk' x p e with ⟨rfl, rfl⟩ | ⟨_, e0⟩
      · exact .inl hlo
      · rcases he.newb x p hx e0 with hf | ⟨y, q, hy, hq, hp, hal, hn⟩
        · exact .inl hf
        · exact .inr ⟨y, q, hy, hq, hp, hal, fun ha => hn ((alive_append (by have := he.len; omega)).1 ha)⟩
    newt := he.newt }
/-- What an allocation has left that was run ahead of its place. -/
structure Early (B : Nat) (cs : List V) (T : TypeId) (w00 : World) (b : Nat) (w : World) (G : Gh) : Prop where
  lo : w00.heap.size ≤ b
  hi : b < w.heap.size
  un : ¬ Mapped G b
  lim : G.lim b = none
  cell : ∃ arr : Array Value, w.heap[b]? = some (.cells arr T (0, 0)) ∧ ∀ (G' : Gh) (w' : World), Rvs B G' w' cs arr.toList
theorem Early.kept {cs : List V} {T : TypeId} {b : Nat} {G' : Gh} {w' : World} (h : Early B cs T w00 b w G) (hk : Kept w G w' G') : Early B cs T w00 b w' G' := by
  obtain ⟨h1, h2, h3⟩ := hk.blk b h.hi h.un
  obtain ⟨arr, h4, h5⟩ := h.cell
  exact ⟨h.lo, Nat.lt_of_lt_of_le h.hi hk.size, h2, h3.trans h.lim, arr, h1.trans h4, h5⟩
theorem run_alloc {o : Oper} {t : TypeId} {ins : Ins} (hop : o.op = .alloc t) (hc : insC P n o = some ins) : ∃ cs, ins = .boxz cs ∧ (∀ c ∈ cs, oneC c) ∧ ∀ (a : Act) (w : World), ∃ arr : Array Value, (execOp a.eval o).run P w = .ok (.value (.pointer (some ⟨w.heap.size, 0, none⟩))) { w with heap := w.heap.push (.cells arr t) } ∧ ∀ (B : Nat) (G : Gh) (w' : World), Rvs B G w' cs arr.toList := by
  simp only [insC, hop] at hc
  obtain ⟨cs, hz, rfl⟩ := map_some hc
  refine ⟨cs, rfl, ?_, fun a w => ?_⟩
  · obtain ⟨z, _, hzz⟩ := zeroT_run hz (default : World)
    exact (hzz 0 ⟨fun _ => none, fun _ => none, fun _ => none⟩ default).2
  · obtain ⟨z, hzr, hzz⟩ := zeroT_run hz w
    exact ⟨z.cells, by simp [execOp, hop, Instr.alloc, hzr, newVar, newRow], fun B G w' => (hzz B G w').1⟩
theorem floatA_spec {ops : Array Oper} {k : Nat} (h : floatA ops k = true) : ∃ o t d, ops[k - 1]? = some o ∧ o.guard = none ∧ o.dst = some d ∧ o.op = .alloc t := by
  unfold floatA at h
  split at h
  · rename_i o ho
    simp only [Bool.and_eq_true] at h
    obtain ⟨⟨h1, h2⟩, h3⟩ := h
    split at h3
    · rename_i t ht
      obtain ⟨d, hd⟩ := Option.isSome_iff_exists.1 h2
      exact ⟨o, t, d, ho, by simpa using h1, hd, ht⟩
    · cases h3
  · cases h
theorem draw_sound2 {id : Nat} {ops : Array Oper} {m t : List OpC} {fb : Bool} {fp : List Nat} {e1 : Env} {h1 : Heap} {Q : Exit → Act → World → Prop} (hm : P.follows .mixedOrders = true) (hl : opsC P ops n ops.toList = some ((l ++ m) ++ t)) (hok : drawOk ops (l ++ m) = true)
    (hmo : mOk fb (masks ops.toList []) (l ++ m) l.length fp = true) (hfb : fb = true → floatA ops (l ++ m).length = true) (hcut : ∀ j, (l ++ m).length ≤ j → j < ops.size → (masks ops.toList []).getD j 0 = 2 ^ j - 1) (hd : DGood P w0 l e h e1 h1) (hmd : MGood P w0 (flI (l ++ m) fp) m e1 h1 e' h')
    (hr : Rel B G h w) (hb : Base w0 B w) (he : EnvRel B G w n e a.tmps) (hp : Post B G h w a.defers n e' h' (wpOps P ops Q (List.range' (l ++ m).length (ops.size - (l ++ m).length)))) : (Code.region id ops true).wp P Q a w := by
  obtain ⟨es, hs, vs, hes0, hhs0, hesN, hhsN, hrun, hput, hmid⟩ := run_puts hd hmd
  obtain ⟨hlen, hat⟩ := seen_of hl
  obtain ⟨N1, hN1⟩ : ∃ N, l.length = N := ⟨_, rfl⟩
  obtain ⟨N, hN⟩ : ∃ N, (l ++ m).length = N := ⟨_, rfl⟩
  have hNN : N1 ≤ N := by rw [← hN, ← hN1, List.length_append]; omega
  have hNs : N ≤ ops.size := by
    have h2 := hlen
    have h3 := hN
    simp only [List.length_append, Array.length_toList] at h2 h3; omega
  have hS : Seen P n ops (l ++ m) := ⟨by omega, fun j oc hj => by
    have hjl := (List.getElem?_eq_some_iff.1 hj).1
    simpa using hat j oc (by rw [List.getElem?_append_left hjl]; exact hj)⟩
  have hS1 : Seen P n ops l := ⟨by omega, fun j oc hj => by
    have hjl := (List.getElem?_eq_some_iff.1 hj).1
    exact hS.at_ j oc (by rw [List.getElem?_append_left hjl]; exact hj)⟩
  have hok1 := drawOk_pre hok
  obtain ⟨m1, m2, m3⟩ := mOk_spec hmo
  have hx : ∀ j, j < N1 → Ext (hs j) (hs (j + 1)) := fun j hj => (hrun j l[j] (List.getElem?_eq_getElem (by omega))).2.ext
  have hdist : ∀ (j k : Nat) (oj ok : OpC) (d : Tmp), j ≠ k → (l ++ m)[j]? = some oj → (l ++ m)[k]? = some ok → oj.dst = some d → ok.dst ≠ some d := by
    intro j k oj ok d hjk hj hk hd hd2
    obtain ⟨pj, gj, ij, h1, _, _, _, rfl⟩ := hS.at_ j oj hj
    obtain ⟨pk, gk, ik, h2, _, _, _, rfl⟩ := hS.at_ k ok hk
    rcases Nat.lt_or_ge j k with hlt | hge
    · exact ((drawOk_spec hok h2 hk).2.2 j pj _ hlt h1 hj).1 d hd hd2
    · exact ((drawOk_spec hok h1 hj).2.2 k pk _ (by omega) h2 hk).1 d hd2 hd
  have hback : ∀ k ok, ops[k]? = some ok → ∀ j, waits ok j = true → j < k := by
    intro k ok hk j hw
    have hkl := (Array.getElem?_eq_some_iff.1 hk).1
    rcases Nat.lt_or_ge k N with h1 | h1
    · obtain ⟨ed, hed, hbd⟩ := Array.any_eq_true'.1 hw
      simp only [Bool.and_eq_true, beq_iff_eq] at hbd
      obtain ⟨hb1, rfl⟩ := hbd
      exact (drawOk_spec hok hk (List.getElem?_eq_getElem (show k < (l ++ m).length by omega))).2.1 ed hed hb1
    · exact seq_back (hcut k (by omega) hkl) hk hw
  have hlate : ∀ f, f ∈ fp → ∃ o, (l ++ m)[f]? = some o ∧ o.wanted (es f) = true ∧ hs (f + 1) = hs f ∧ ∀ k, N1 ≤ k → k ≤ N → stepI o.ins (es f) (hs k) = some (vs f, hs k) := by
    intro f hf
    obtain ⟨hfc, o, ho, hlo⟩ := m1 f hf
    have ho1 : l[f]? = some o := by rw [← List.getElem?_append_left hfc (l₂ := m)]; exact ho
    have hwt : o.wanted (es f) = true ∧ callI o.ins (es f) = none := by
      obtain ⟨od, og, oi⟩ := o
      cases od <;> cases og <;> simp [lateO] at hlo
      refine ⟨rfl, ?_⟩
      cases oi <;> simp [lateI] at hlo <;> rfl
    have hst : stepI o.ins (es f) (hs f) = some (vs f, hs (f + 1)) := by
      rcases (hrun f o ho1).2 with ⟨hw, _⟩ | ⟨_, hst, _⟩ | ⟨_, f', args, hc, _⟩
      · rw [hwt.1] at hw; cases hw
      · exact hst
      · rw [hwt.2] at hc; cases hc
    obtain ⟨h3, h4⟩ := late_same hes0 hput hmo (by rw [List.length_append]; omega) hdist (fun j hj => hx j (by omega)) (fun j oc hj hc => (hmid j oc hj hc).2.1) hf ho hst
    exact ⟨o, ho, hwt.1, h3, fun k hk1 hk2 => h4 k (by omega) (by omega)⟩
  refine wp_region_any hm ?_
  -- the start
  have hdr := hr.heap (w' := { w with drawn := w.drawn + 1 }) ⟨rfl, rfl, rfl⟩ rfl
  have hrel0 := hdr.1
  have hwf0 : Wf B G (hs 0) { w with drawn := w.drawn + 1 } := by rw [hhs0]; exact hrel0.wf
  have hext0 : Ext (hs 0) (hs N1) := ext_le hx (Nat.zero_le _) (Nat.le_refl _)
  have belowG : ∀ {w' : World}, Le B G w' (G.below (hs 0).length) w' := fun {w'} =>
    ⟨fun i p e1 => below_blk.2 ⟨(hwf0.blk i p e1).2.2.2, e1⟩, fun i t e1 => ⟨t, below_tip.2 ⟨(hwf0.tip i t e1).2.2.2, e1⟩, Nat.le_refl _, fun _ => rfl⟩, fun _ _ hsn => ⟨hsn, rfl⟩⟩
  have hI0 : Inv P B n N1 l hs vs e G w a.defers (fun _ => False) a { w with drawn := w.drawn + 1 } G := by
    refine ⟨⟨hwf0.base, fun i p ep => ?_, fun i t et => ?_, hwf0.lim, fun x y p q ex ey hpq ax ay => ?_, hwf0.tinj, fun i t et => ?_⟩, ?_, ?_, ?_, ?_, he.1, ?_, ?_, ?_, rfl⟩
    · obtain ⟨c1, c2, c3, c4⟩ := hwf0.blk i p ep
      exact ⟨c1, c2, c3, Nat.lt_of_lt_of_le c4 hext0.len⟩
    · obtain ⟨c1, c2, c3, c4⟩ := hwf0.tip i t et
      exact ⟨c1, c2, c3, Nat.lt_of_lt_of_le c4 hext0.len⟩
    · exact hwf0.inj x y p q ex ey hpq ((hext0.alive (hwf0.blk x p ex).2.2.2).1 ax) ((hext0.alive (hwf0.blk y q ey).2.2.2).1 ay)
    · rw [hext0 i (hwf0.tip i t et).2.2.2]; exact hwf0.tipo i t et
    · exact {
        le := hdr.2.le, os := rfl, tape := rfl, output := rfl, size := Nat.le_refl _, len := hext0.len
        frame := fun _ _ _ => rfl
        fresh := fun _ _ m => m
        limk := fun _ _ _ => rfl
        nores := fun x hxl ha => (hext0.alive hxl).1 ha
        oldb := fun _ _ _ e1 => e1
        oldt := fun _ t _ e1 => ⟨t, e1, .inl rfl⟩
        newb := fun x p hxl e1 => absurd (hwf0.blk x p e1).2.2.2 (by omega)
        newt := fun x t hxl e1 => absurd (hwf0.tip x t e1).2.2.2 (by omega) }
    · rintro i b (⟨k, e1⟩ | ⟨t, e1, _⟩)
      · exact .inl (hwf0.blk i _ e1).2.2.2
      · exact .inl (hwf0.tip i t e1).2.2.2
    · intro i o hi ho
      rw [hext0 i hi, hhs0] at ho
      exact (hrel0.obj i o ho).mono belowG (fun _ p ep => ⟨(below_blk.1 ep).2, rfl⟩) (fun _ t et => ⟨(below_tip.1 et).2, rfl⟩)
    · intro i o ob _ hD; exact hD.elim
    · intro i oc d _ hD; exact hD.elim
    · intro t ht _
      exact ((he.2 t ht).mono hdr.2.le).mono belowG
    · intro i i' b m hm' ha ha'
      have lt0 : ∀ i, At G i b → i < (hs 0).length := by
        rintro i (⟨k, e1⟩ | ⟨t, e1, _⟩)
        · exact (hwf0.blk i _ e1).2.2.2
        · exact (hwf0.tip i t e1).2.2.2
      have h0m := (ext_le hx (Nat.zero_le m) hm').len
      exact ⟨fun _ => Nat.lt_of_lt_of_le (lt0 i' ha') h0m, fun _ => Nat.lt_of_lt_of_le (lt0 i ha) h0m⟩
  -- all has been run but the end
  have fin2 : ∀ (fuel : Nat) (listed : Array Bool) (a1 : Act) (w1 : World) (G1 : Gh), listed.size = ops.size → (List.range ops.size).countP (fun j => !listed.getD j true) ≤ fuel →
      (∀ j, j < ops.size → listed.getD j true = true → j < N) → (∀ j, j < N → listed.getD j true = true) →
      Inv2 B n (l ++ m) (hs N) vs e G (hs 0) w a.defers (fun j => listed.getD j true = true ∧ j < N) a1 w1 G1 → wpAny P .any ops Q fuel listed a1 w1 := by
    intro fuel listed a1 w1 G1 hsz hcnt hpre hall hI
    have hd := hp G1 a1 w1 (by rw [← hhsN, hN]; exact hI.rel) (by rw [← hhsN, hN, ← hhs0]; exact hI.evo) ⟨hI.size, fun t ht => by
      rw [← hesN, hN]
      rcases es_spec hes0 hput t N (by omega) with ⟨k, ok, hk, h1, h2, h3⟩ | ⟨h1, h2⟩
      · rw [h3]; exact hI.val k ok t h1 ⟨hall k hk, hk⟩ h2 ht
      · rw [h1]; exact hI.keep t ht fun k ok hlk hD => h2 k ok (by have := (List.getElem?_eq_some_iff.1 hlk).1; omega) hlk⟩ hI.defers
    rw [hN] at hd
    refine tail_any hback (ops.size - N) N fuel listed a1 w1 (by omega) ?_ hsz (fun j hj => ⟨hpre j hj, hall j⟩) (fun j h1 h2 => hcut j (by omega) h2) hd
    refine Nat.le_trans (Nat.le_trans (Nat.le_of_eq ?_) (count_from (p := fun j => !listed.getD j true) (N := N) (M := ops.size) fun j h1 h2 => ?_)) hcnt
    · rfl
    · cases hc : listed.getD j true with
      | false => rfl
      | true => have := hpre j h2 hc; omega
  -- the allocation at the end, where it may be run ahead of others
  obtain ⟨oA, t0, dA, cs, hA⟩ : ∃ (oA : Oper) (t0 : TypeId) (dA : Tmp) (cs : List V), fb = true → N1 < N → ops[N - 1]? = some oA ∧ oA.guard = none ∧ oA.dst = some dA ∧ (l ++ m)[N - 1]? = some (OpC.mk (some dA) none (.boxz cs)) ∧ dA < n ∧ (∀ c ∈ cs, oneC c) ∧
      ∀ (a : Act) (w : World), ∃ arr : Array Value, (execOp a.eval oA).run P w = .ok (.value (.pointer (some ⟨w.heap.size, 0, none⟩))) { w with heap := w.heap.push (.cells arr t0) } ∧ ∀ (B : Nat) (G : Gh) (w' : World), Rvs B G w' cs arr.toList := by
    by_cases hc : fb = true ∧ N1 < N
    · obtain ⟨o, t1, d, h1, h2, h3, h4⟩ := floatA_spec (hfb hc.1)
      rw [hN] at h1
      have hci : (l ++ m)[N - 1]? = some (l ++ m)[N - 1] := List.getElem?_eq_getElem (show N - 1 < (l ++ m).length by omega)
      obtain ⟨oj, g, ins, g1, g2, g3, g4, g5⟩ := hS.at_ _ _ hci
      have : oj = o := Option.some.inj (g1.symm.trans h1)
      subst this
      obtain ⟨cs, rfl, hone, hrunA⟩ := run_alloc h4 g3
      rw [h2] at g2
      simp only [guardC] at g2
      injection g2 with g2
      subst g2
      rw [h3] at g5 g4
      refine ⟨oj, t1, d, cs, fun _ _ => ⟨h1, h2, h3, by rw [hci, g5], by simpa [dstOk] using g4, hone, hrunA⟩⟩
    · exact ⟨default, default, 0, [], fun h1 h2 => absurd ⟨h1, h2⟩ hc⟩
  have hfree : ∀ (i : Nat) (oi : Oper) (ci : OpC), fb = true → N1 < N → i < N - 1 → ops[i]? = some oi → (l ++ m)[i]? = some ci → waits oA i = false → looksO ops oi dA = false ∧ ci.looks dA = false ∧ oi.dst ≠ some dA := by
    intro i oi ci h1 h2 hi hoi hci hw
    obtain ⟨a1, a2, a3, a4, a5, a6, a7⟩ := hA h1 h2
    obtain ⟨b1, b2⟩ := (drawOk_spec hok a1 a4).2.2 i oi ci hi hoi hci
    rcases b2 with b2 | b2
    · rw [hw] at b2; cases b2
    · exact ⟨(b2.2 dA a3).1, (b2.2 dA a3).2, fun hd => b1 dA hd a3⟩
  let NX : Option Nat → Nat := fun x => if x.isSome then N - 1 else N
  let X : Option Nat → Option (Tmp × Value) := fun x => x.map fun b => (dA, Value.pointer (some ⟨b, 0, none⟩))
  have hXl : ∀ (x : Option Nat) (i : Nat) (oi : Oper) (ci : OpC), (∀ b, x = some b → fb = true ∧ N1 < N) → i < NX x → ops[i]? = some oi → (l ++ m)[i]? = some ci → (x.isSome = true → waits oA i = false) → ∀ d v, X x = some (d, v) → looksO ops oi d = false ∧ ci.looks d = false ∧ oi.dst ≠ some d := by
    intro x i oi ci hx hi hoi hci hw d v hxd
    cases x with
    | none => cases hxd
    | some b =>
      injection hxd with hxd
      injection hxd with e1 e2
      subst e1
      obtain ⟨h1, h2⟩ := hx b rfl
      exact hfree i oi ci h1 h2 hi hoi hci (hw rfl)
  have finX : ∀ (fuel : Nat) (x : Option Nat) (listed : Array Bool) (a1 : Act) (w1 : World) (G1 : Gh), listed.size = ops.size → (List.range ops.size).countP (fun j => !listed.getD j true) ≤ fuel →
      (∀ j, j < ops.size → listed.getD j true = true → j < N) → (∀ j, j < N → listed.getD j true = true) →
      (∀ b, x = some b → fb = true ∧ N1 < N ∧ listed.getD (N - 1) true = true ∧ Early B cs t0 w b w1 G1) →
      Inv2 B n (l ++ m) (hs (NX x)) vs e G (hs 0) w a.defers (fun j => listed.getD j true = true ∧ j < NX x) a1 w1 G1 → wpAny P .any ops Q fuel listed (putX (X x) a1) w1 := by
    intro fuel x listed a1 w1 G1 hsz hcnt hpre hall hE hI
    cases x with
    | none => exact fin2 fuel listed a1 w1 G1 hsz hcnt hpre hall hI
    | some b =>
      obtain ⟨h1, h2, h3, hEb⟩ := hE b rfl
      obtain ⟨q1, q2, q3, q4, q5, q6, q7⟩ := hA h1 h2
      have hI : Inv2 B n (l ++ m) (hs (N - 1)) vs e G (hs 0) w a.defers (fun j => listed.getD j true = true ∧ j < N - 1) a1 w1 G1 := hI
      obtain ⟨_, _, hst⟩ := hmid (N - 1) _ q4 (by omega)
      have hst : stepI (.boxz cs) (es (N - 1)) (hs (N - 1)) = some (vs (N - 1), hs (N - 1 + 1)) := by
        rcases hst with hst | ⟨f, args, hst, _⟩
        · exact hst
        · cases hst
      simp only [stepI] at hst
      injection hst with hst
      injection hst with v1 v2
      rw [show N - 1 + 1 = N by omega] at v2
      obtain ⟨arr, c1, c2⟩ := hEb.cell
      obtain ⟨hr1, hle1⟩ := hI.rel.reg (Nat.le_trans hr.wf.base hEb.lo) hEb.hi hEb.un hEb.lim c1 (fun G' => c2 G' w1) q6
      refine fin2 fuel listed (a1.put (some dA) (.pointer (some ⟨b, 0, none⟩))) w1 (G1.addBlk (hs (N - 1)).length b arr.size) hsz hcnt hpre hall ⟨?_, ?_, ?_, ?_, ?_, ?_⟩
      · rw [← v2]; exact hr1
      · rw [← v2]; exact hI.evo.reg hle1 hEb.lo
      · simp [Act.put, hI.size]
      · intro i oc d hoc hD hd hdn
        by_cases hi : i = N - 1
        · subst hi
          have : oc = _ := Option.some.inj (hoc.symm.trans q4)
          subst this
          injection hd with hd
          subst hd
          have hget : (a1.put (some dA) (.pointer (some ⟨b, 0, none⟩))).tmps.getD dA undef = .pointer (some ⟨b, 0, none⟩) := by simp [Act.put, hI.size, hdn]
          rw [hget, ← v1]
          exact .ptr (n := arr.size) (by simp [Gh.addBlk])
        · have hne := hdist i (N - 1) oc _ d hi hoc q4 hd
          have hget : (a1.put (some dA) (.pointer (some ⟨b, 0, none⟩))).tmps.getD d undef = a1.tmps.getD d undef := by
            have : dA ≠ d := fun hh => hne (by rw [hh])
            simp [Act.put, Array.getElem?_setIfInBounds_ne this]
          rw [hget]
          exact (hI.val i oc d hoc ⟨hD.1, by have := hD.2; omega⟩ hd hdn).mono hle1
      · intro t1 ht hno
        have hne := hno (N - 1) _ q4 ⟨h3, by omega⟩
        have hget : (a1.put (some dA) (.pointer (some ⟨b, 0, none⟩))).tmps.getD t1 undef = a1.tmps.getD t1 undef := by
          have : dA ≠ t1 := fun hh => hne (by rw [hh])
          simp [Act.put, Array.getElem?_setIfInBounds_ne this]
        rw [hget]
        exact (hI.keep t1 ht fun i oc hoc hD => hno i oc hoc ⟨hD.1, by have := hD.2; omega⟩).mono hle1
      · rw [put_defers]; exact hI.defers
  -- the allocation, run ahead
  have early : ∀ (a1 : Act) (w1 : World) (K : Act → World → Prop), fb = true → N1 < N → (∀ arr : Array Value, (∀ (B : Nat) (G : Gh) (w' : World), Rvs B G w' cs arr.toList) → K (a1.put (some dA) (.pointer (some ⟨w1.heap.size, 0, none⟩))) { w1 with heap := w1.heap.push (.cells arr t0) }) → wpOp P ops Q (N - 1) K a1 w1 := by
    intro a1 w1 K h1 h2 hK
    obtain ⟨q1, q2, q3, q4, q5, q6, q7⟩ := hA h1 h2
    obtain ⟨arr, r1, r2⟩ := q7 a1 w1
    unfold wpOp
    simp only [q1]
    rw [if_pos (by unfold Region.wanted; rw [q2])]
    refine .inl ?_
    unfold Oper.wp
    rw [r1, Oper.upon_value, q3]
    exact hK arr r2
  have below1 : ∀ (w1 : World) (arr : Array Value), RowKit.Below w1.heap.size w1 { w1 with heap := w1.heap.push (.cells arr t0) } := fun w1 arr =>
    ⟨rfl, rfl, rfl, by simp, fun i hi => by simp [Array.getElem?_push, Nat.ne_of_lt hi]⟩
  have early1 : ∀ (w1 : World) (G1 : Gh) (h1 : Heap) (arr : Array Value), w.heap.size ≤ w1.heap.size → Wf B G1 h1 w1 → (∀ (B : Nat) (G : Gh) (w' : World), Rvs B G w' cs arr.toList) → Early B cs t0 w w1.heap.size { w1 with heap := w1.heap.push (.cells arr t0) } G1 := by
    intro w1 G1 h1 arr hsz hw hrv
    refine ⟨hsz, by simp, ?_, ?_, arr, by simp, fun G' w' => hrv B G' w'⟩
    · rintro (⟨id, p, e1, e2⟩ | ⟨id, t1, e1, e2⟩)
      · have := (hw.blk id p e1).2.1; omega
      · have := (hw.tip id t1 e1).2.1; omega
    · cases hl : G1.lim w1.heap.size with
      | none => rfl
      | some k => have := (hw.lim _ _ hl).2; omega
  have base1 : ∀ (w1 : World) (arr : Array Value), Base w0 B w1 → B ≤ w1.heap.size → Base w0 B { w1 with heap := w1.heap.push (.cells arr t0) } := fun w1 arr hb1 hB => ⟨hb1.1, hb1.2.trans ((below1 w1 arr).mono hB)⟩
  have setA : ∀ {listed : Array Bool} {M : Nat}, listed.size = ops.size → N - 1 < ops.size → M ≤ N - 1 → (fun j => (listed.setIfInBounds (N - 1) true).getD j true = true ∧ j < M) = (fun j => listed.getD j true = true ∧ j < M) := by
    intro listed M hsz hNo hM
    funext j
    refine propext ⟨fun hh => ⟨?_, hh.2⟩, fun hh => ⟨(set_listed (by omega) j).2 (.inl hh.1), hh.2⟩⟩
    rcases (set_listed (by omega) j).1 hh.1 with h3 | h3
    · exact h3
    · have := hh.2; omega
  -- the writers' part
  have key2 : ∀ (fuel mm : Nat) (x : Option Nat) (listed : Array Bool) (a1 : Act) (w1 : World) (G1 : Gh), N1 ≤ mm → mm ≤ NX x → listed.size = ops.size → (List.range ops.size).countP (fun j => !listed.getD j true) ≤ fuel →
      (∀ j, j < ops.size → listed.getD j true = true → j < mm ∨ (x.isSome = true ∧ j = N - 1)) → (∀ j, j < mm → listed.getD j true = true ∨ j ∈ fp) →
      (∀ k ok, listed.getD k true = true ∧ k < ops.size → ops[k]? = some ok → ∀ j, waits ok j = true → listed.getD j true = true ∧ j < ops.size) →
      (∀ b, x = some b → fb = true ∧ N1 < N ∧ listed.getD (N - 1) true = true ∧ Early B cs t0 w b w1 G1) →
      Inv2 B n (l ++ m) (hs mm) vs e G (hs 0) w a.defers (fun j => listed.getD j true = true ∧ j < NX x) a1 w1 G1 → Base w0 B w1 → wpAny P .any ops Q fuel listed (putX (X x) a1) w1 := by
    intro fuel
    induction fuel with
    | zero =>
      intro mm x listed a1 w1 G1 h1 h2 hsz hcnt hpre hpend hcl hE hI hb1
      have hNX : NX x ≤ N := by show (if x.isSome then N - 1 else N) ≤ N; split <;> omega
      have all : ∀ j, j < ops.size → listed.getD j true = true := fun j hj => by
        cases hc : listed.getD j true with
        | true => rfl
        | false =>
          have : 0 < (List.range ops.size).countP (fun j => !listed.getD j true) := List.countP_pos_iff.2 ⟨j, List.mem_range.2 hj, by rw [hc]; rfl⟩
          omega
      have hmm : mm = NX x := by
        rcases Nat.lt_or_ge mm (NX x) with h3 | h3
        · rcases hpre mm (by omega) (all mm (by omega)) with h4 | ⟨h4, h5⟩
          · omega
          · have : NX x = N - 1 := by show (if x.isSome then N - 1 else N) = N - 1; rw [if_pos h4]
            omega
        · omega
      subst hmm
      refine finX 0 x listed a1 w1 G1 hsz hcnt (fun j hj hlj => ?_) (fun j hj => all j (by omega)) hE hI
      rcases hpre j hj hlj with h4 | ⟨h4, h5⟩
      · omega
      · obtain ⟨b, hb⟩ := Option.isSome_iff_exists.1 h4
        have := (hE b hb).2.1; omega
    | succ fuel ih =>
      intro mm x listed a1 w1 G1 h1 h2 hsz hcnt hpre hpend hcl hE hI hb1
      have hNX : NX x ≤ N := by show (if x.isSome then N - 1 else N) ≤ N; split <;> omega
      have hNXs : x.isSome = true → NX x = N - 1 := fun h4 => by show (if x.isSome then N - 1 else N) = N - 1; rw [if_pos h4]
      have hNXn : x = none → NX x = N := fun h4 => by subst h4; rfl
      have hEs : x.isSome = true → fb = true ∧ N1 < N ∧ listed.getD (N - 1) true = true := fun h4 => by
        obtain ⟨b, hb⟩ := Option.isSome_iff_exists.1 h4
        exact ⟨(hE b hb).1, (hE b hb).2.1, (hE b hb).2.2.1⟩
      by_cases hall : ∀ j, j < N → listed.getD j true = true
      · have hmm : mm = NX x := by
          rcases Nat.lt_or_ge mm (NX x) with h3 | h3
          · rcases hpre mm (by omega) (hall mm (by omega)) with h4 | ⟨h4, h5⟩
            · omega
            · have := hNXs h4; omega
          · omega
        subst hmm
        refine finX _ x listed a1 w1 G1 hsz hcnt (fun j hj hlj => ?_) hall hE hI
        rcases hpre j hj hlj with h4 | ⟨h4, h5⟩
        · omega
        · have := (hEs h4).2.1; omega
      obtain ⟨j0, ⟨hj0, hl0⟩, hbelow⟩ := least_of (p := fun j => j < N ∧ listed.getD j true = false) (Classical.byContradiction fun hno => hall fun j hj => by
        cases hc : listed.getD j true with
        | true => rfl
        | false => exact absurd ⟨j, hj, hc⟩ hno)
      refine ⟨fun hrd => absurd hrd (ready_some hsz hback (show j0 < ops.size by omega) hl0 fun j hj => by
        cases hc : listed.getD j true with
        | true => rfl
        | false => exact absurd ⟨by omega, hc⟩ (hbelow j hj)), fun i hi => ?_⟩
      obtain ⟨hil, hli, hready0⟩ := waits_ready hsz hi
      have hoi : ops[i]? = some ops[i] := Array.getElem?_eq_getElem hil
      generalize ops[i] = oi at hoi
      have hreadyL : ∀ j, waits oi j = true → listed.getD j true = true ∧ j < ops.size := fun j hw => hready0 oi hoi j hw
      have clD : ∀ k ok, ((listed.getD k true = true ∧ k < ops.size) ∨ k = i) → ops[k]? = some ok → ∀ j, waits ok j = true → ((listed.getD j true = true ∧ j < ops.size) ∨ j = i) := by
        rintro k ok (hk | rfl) hok' j hw
        · exact .inl (hcl k ok hk hok' j hw)
        · have : ok = oi := Option.some.inj (hok'.symm.trans hoi)
          subst this
          exact .inl (hreadyL j hw)
      have hcnt' := count_set (listed := listed) (i := i) (M := ops.size) (by omega) hil hli
      have hclS := set_cl (N := ops.size) (by omega) hcl hoi hreadyL
      by_cases hfl : x = none ∧ i + 1 = N ∧ fb = true ∧ mm < i
      · obtain ⟨rfl, hiN, hfbt, hmi⟩ := hfl
        obtain rfl : i = N - 1 := by omega
        have h12 : N1 < N := by omega
        have hB : B ≤ w1.heap.size := hI.rel.wf.base
        refine early a1 w1 _ hfbt h12 fun arr hrv => ?_
        refine ih mm (some w1.heap.size) (listed.setIfInBounds (N - 1) true) a1 _ G1 h1 (by show mm ≤ N - 1; omega) (by simpa using hsz) (by omega) (fun j hj hlj => ?_) (fun j hj => ?_) hclS (fun b hb => ?_) ?_ (base1 w1 arr hb1 hB)
        · rcases (set_listed (by omega) j).1 hlj with h3 | rfl
          · rcases hpre j hj h3 with h4 | ⟨h4, _⟩
            · exact .inl h4
            · cases h4
          · exact .inr ⟨rfl, rfl⟩
        · exact (hpend j hj).imp (fun h3 => (set_listed (by omega) j).2 (.inl h3)) (fun h4 => h4)
        · injection hb with hb
          subst hb
          exact ⟨hfbt, h12, (set_listed (by omega) _).2 (.inr rfl), early1 w1 G1 (hs mm) arr hI.evo.size hI.rel.wf hrv⟩
        · have hI' := hI.push (below1 w1 arr)
          have e1 : (fun j => (listed.setIfInBounds (N - 1) true).getD j true = true ∧ j < NX (some w1.heap.size)) = (fun j => listed.getD j true = true ∧ j < NX none) := by
            have e2 := setA (listed := listed) (M := N - 1) hsz (by omega) (Nat.le_refl _)
            refine Eq.trans e2 ?_
            funext j
            refine propext ⟨fun hh => ⟨hh.1, by show j < N; have := hh.2; omega⟩, fun hh => ⟨hh.1, ?_⟩⟩
            have h5 : j < N := hh.2
            rcases hpre j (by omega) hh.1 with h4 | ⟨h4, _⟩
            · omega
            · cases h4
          rw [e1]
          exact hI'
      have him : i < mm ∨ (i = mm ∧ mm < NX x) := by
        rcases Nat.lt_or_ge i mm with h3 | h3
        · exact .inl h3
        refine .inr (Classical.byContradiction fun hno => ?_)
        rcases Nat.lt_or_ge i N with h4 | h4
        · have hnl : x.isSome = true → i ≠ N - 1 := fun h5 h6 => by
            have := (hEs h5).2.2
            rw [← h6, hli] at this; cases this
          have h5 : mm < i := by
            rcases Nat.lt_or_ge mm i with h6 | h6
            · exact h6
            have him' : i = mm := by omega
            have h7 : ¬ mm < NX x := fun h8 => hno ⟨him', h8⟩
            cases hx : x.isSome with
            | true => have := hNXs hx; have := hnl hx; omega
            | false => have := hNXn (by simpa using hx); omega
          obtain ⟨_, h6⟩ := m2 i _ (List.getElem?_eq_getElem (show i < (l ++ m).length by omega)) (by omega)
          rcases h6 with h6 | ⟨h6, h7⟩
          · rcases h6 mm h5 with h7 | h7
            · have h7' : ((masks ops.toList []).getD i 0).testBit mm = true := h7
              rcases masks_spec clD (r := ops.toList) (ms := []) (fun k => by simp) (fun k _ i hi => by simp at hi) i (.inr rfl) mm h7' with ⟨h8, _⟩ | h8
              · rcases hpre mm (by omega) h8 with h9 | ⟨_, h9⟩
                · omega
                · omega
              · omega
            · have := (m1 mm h7).1; omega
          · rw [hN] at h7
            cases hx : x.isSome with
            | true => exact hnl hx (by omega)
            | false => exact hfl ⟨by simpa using hx, h7, h6, h5⟩
        · rcases seq_all clD (hcut i (by omega) hil) (.inr rfl) (show j0 < i by omega) with ⟨h8, _⟩ | h8
          · rw [hl0] at h8; cases h8
          · omega
      have hiN : i < NX x := by omega
      have hnD : ¬ (listed.getD i true = true ∧ i < NX x) := fun hD => by rw [hli] at hD; cases hD.1
      have hready : ∀ j, waits oi j = true → listed.getD j true = true ∧ j < NX x := fun j hw => ⟨(hreadyL j hw).1, by have := hback i oi hoi j hw; omega⟩
      have hclX : ∀ k ok, (listed.getD k true = true ∧ k < NX x) → ops[k]? = some ok → ∀ j, waits ok j = true → (listed.getD j true = true ∧ j < NX x) := fun k ok hD hok' j hw => ⟨(hcl k ok ⟨hD.1, by have := hD.2; omega⟩ hok' j hw).1, by have := hback k ok hok' j hw; have := hD.2; omega⟩
      have hEx : ∀ b, x = some b → fb = true ∧ N1 < N := fun b hb => ⟨(hE b hb).1, (hE b hb).2.1⟩
      have hwA : x.isSome = true → waits oA i = false := fun hx => by
        cases hc : waits oA i with
        | false => rfl
        | true =>
          obtain ⟨e1, e2, e3⟩ := hEs hx
          have := (hcl (N - 1) oA ⟨e3, by omega⟩ (hA e1 e2).1 i hc).1
          rw [hli] at this; cases this
      have hEk : ∀ (w2 : World) (G2 : Gh), Kept w1 G1 w2 G2 → ∀ b, x = some b → fb = true ∧ N1 < N ∧ (listed.setIfInBounds i true).getD (N - 1) true = true ∧ Early B cs t0 w b w2 G2 := fun w2 G2 hk b hb => by
        obtain ⟨e1, e2, e3, e4⟩ := hE b hb
        exact ⟨e1, e2, (set_listed (by omega) _).2 (.inl e3), e4.kept hk⟩
      rcases him with him | ⟨rfl, hmN⟩
      · have hif : i ∈ fp := by
          rcases hpend i him with h3 | h3
          · rw [hli] at h3; cases h3
          · exact h3
        obtain ⟨ci, hci, hwci, _, hlt⟩ := hlate i hif
        refine step_at2 hS hok hI hclX (by omega) hnD hoi hci hready hb1 (fun t => es_spec hes0 hput t i (by omega)) hwci (.inl (hlt mm h1 (by omega))) (xp := X x) (hXl x i oi ci hEx hiN hoi hci hwA) (K := wpAny P .any ops Q fuel (listed.setIfInBounds i true)) fun a2 w2 G2 hI2 hb2 hk2 => ?_
        refine ih mm x (listed.setIfInBounds i true) a2 w2 G2 h1 h2 (by simpa using hsz) (by omega) (fun j hj hlj => ?_) (fun j hj => ?_) hclS (hEk w2 G2 hk2) ?_ hb2
        · rcases (set_listed (by omega) j).1 hlj with h3 | rfl
          · exact hpre j hj h3
          · exact .inl him
        · exact (hpend j hj).imp (fun h3 => (set_listed (by omega) j).2 (.inl h3)) (fun h4 => h4)
        · rw [set_D (by omega) hiN]; exact hI2
      · have hci : (l ++ m)[i]? = some (l ++ m)[i] := List.getElem?_eq_getElem (show i < (l ++ m).length by omega)
        obtain ⟨hwci, _, hst⟩ := hmid i _ hci (by omega)
        refine step_at2 hS hok hI hclX (by omega) hnD hoi hci hready hb1 (fun t => es_spec hes0 hput t i (by omega)) hwci hst (xp := X x) (hXl x i oi _ hEx hiN hoi hci hwA) (K := wpAny P .any ops Q fuel (listed.setIfInBounds i true)) fun a2 w2 G2 hI2 hb2 hk2 => ?_
        refine ih (i + 1) x (listed.setIfInBounds i true) a2 w2 G2 (by omega) (by omega) (by simpa using hsz) (by omega) (fun j hj hlj => ?_) (fun j hj => ?_) hclS (hEk w2 G2 hk2) ?_ hb2
        · rcases (set_listed (by omega) j).1 hlj with h3 | rfl
          · exact (hpre j hj h3).imp (fun h4 => by omega) (fun h4 => h4)
          · exact .inl (by omega)
        · by_cases hji : j = i
          · subst hji; exact .inl ((set_listed (by omega) j).2 (.inr rfl))
          · exact (hpend j (by omega)).imp (fun h3 => (set_listed (by omega) j).2 (.inl h3)) (fun h4 => h4)
        · rw [set_D (by omega) hiN]; exact hI2
  -- the part that draws
  have conv : ∀ (x : Option Nat) (listed : Array Bool), (∀ b, x = some b → fb = true ∧ N1 < N) → (∀ j, j < ops.size → listed.getD j true = true → j < N1 ∨ (x.isSome = true ∧ j = N - 1)) → N1 ≤ NX x ∧ (fun j => listed.getD j true = true ∧ j < NX x) = (fun j => listed.getD j true = true ∧ j < N1) := by
    intro x listed hEx hpre
    have h1 : N1 ≤ NX x := by
      cases x with
      | none => exact hNN
      | some b => have := (hEx b rfl).2; show N1 ≤ N - 1; omega
    have h2 : NX x ≤ N := by show (if x.isSome then N - 1 else N) ≤ N; split <;> omega
    refine ⟨h1, ?_⟩
    funext j
    refine propext ⟨fun hh => ⟨hh.1, ?_⟩, fun hh => ⟨hh.1, by have := hh.2; omega⟩⟩
    have h3 := hh.2
    rcases hpre j (by omega) hh.1 with h4 | ⟨h4, h5⟩
    · exact h4
    · have : NX x = N - 1 := by show (if x.isSome then N - 1 else N) = N - 1; rw [if_pos h4]
      omega
  have key : ∀ (fuel : Nat) (x : Option Nat) (listed : Array Bool) (a1 : Act) (w1 : World) (G1 : Gh), listed.size = ops.size → (List.range ops.size).countP (fun j => !listed.getD j true) ≤ fuel →
      (∀ j, j < ops.size → listed.getD j true = true → j < N1 ∨ (x.isSome = true ∧ j = N - 1)) →
      (∀ k ok, listed.getD k true = true ∧ k < ops.size → ops[k]? = some ok → ∀ j, waits ok j = true → listed.getD j true = true ∧ j < ops.size) →
      (∀ b, x = some b → fb = true ∧ N1 < N ∧ listed.getD (N - 1) true = true ∧ Early B cs t0 w b w1 G1) →
      Inv P B n N1 l hs vs e G w a.defers (fun j => listed.getD j true = true ∧ j < N1) a1 w1 G1 → Base w0 B w1 → wpAny P .any ops Q fuel listed (putX (X x) a1) w1 := by
    intro fuel
    induction fuel with
    | zero =>
      intro x listed a1 w1 G1 hsz hcnt hpre hcl hE hI hb1
      have all : ∀ j, j < ops.size → listed.getD j true = true := fun j hj => by
        cases hc : listed.getD j true with
        | true => rfl
        | false =>
          have : 0 < (List.range ops.size).countP (fun j => !listed.getD j true) := List.countP_pos_iff.2 ⟨j, List.mem_range.2 hj, by rw [hc]; rfl⟩
          omega
      obtain ⟨hNX1, e1⟩ := conv x listed (fun b hb => ⟨(hE b hb).1, (hE b hb).2.1⟩) hpre
      refine key2 0 N1 x listed a1 w1 G1 (Nat.le_refl _) hNX1 hsz hcnt hpre (fun j hj => .inl (all j (by omega))) hcl hE ?_ hb1
      have hI2 := hI.two hx (fun j hj => .inl ⟨all j (by omega), hj⟩) hN1
      rw [e1]
      exact ⟨hI2.rel, hI2.evo, hI2.size, fun i oc d h3 hD h4 h5 => hI2.val i oc d (by have := hD.2; rw [List.getElem?_append_left (by omega)] at h3; exact h3) hD h4 h5, fun t ht h3 => hI2.keep t ht fun i oc h4 hD => h3 i oc (by have := hD.2; rw [List.getElem?_append_left (by omega)]; exact h4) hD, hI2.defers⟩
    | succ fuel ih =>
      intro x listed a1 w1 G1 hsz hcnt hpre hcl hE hI hb1
      have hEs : x.isSome = true → fb = true ∧ N1 < N ∧ listed.getD (N - 1) true = true := fun h4 => by
        obtain ⟨b, hb⟩ := Option.isSome_iff_exists.1 h4
        exact ⟨(hE b hb).1, (hE b hb).2.1, (hE b hb).2.2.1⟩
      have hEx : ∀ b, x = some b → fb = true ∧ N1 < N := fun b hb => ⟨(hE b hb).1, (hE b hb).2.1⟩
      obtain ⟨hNX1, e1⟩ := conv x listed hEx hpre
      by_cases hall : ∀ j, j < N1 → listed.getD j true = true ∨ j ∈ fp
      · refine key2 (fuel + 1) N1 x listed a1 w1 G1 (Nat.le_refl _) hNX1 hsz hcnt hpre hall hcl hE ?_ hb1
        have hI2 := hI.two hx (fun j hj => (hall j hj).imp (fun h3 => ⟨h3, hj⟩) fun h3 => by
          obtain ⟨o, _, _, h4, _⟩ := hlate j h3
          exact h4) hN1
        rw [e1]
        exact ⟨hI2.rel, hI2.evo, hI2.size, fun i oc d h3 hD h4 h5 => hI2.val i oc d (by have := hD.2; rw [List.getElem?_append_left (by omega)] at h3; exact h3) hD h4 h5, fun t ht h3 => hI2.keep t ht fun i oc h4 hD => h3 i oc (by have := hD.2; rw [List.getElem?_append_left (by omega)]; exact h4) hD, hI2.defers⟩
      obtain ⟨q0, hq0, hq1, hq2⟩ : ∃ q, q < N1 ∧ listed.getD q true = false ∧ q ∉ fp := Classical.byContradiction fun hno => hall fun j hj => by
        cases hc : listed.getD j true with
        | true => exact .inl rfl
        | false => exact .inr (Classical.byContradiction fun h4 => hno ⟨j, hj, hc, h4⟩)
      obtain ⟨j0, ⟨hj0, hl0⟩, hbelow⟩ := least_of (p := fun j => j < N1 ∧ listed.getD j true = false) ⟨q0, hq0, hq1⟩
      refine ⟨fun hrd => absurd hrd (ready_some hsz hback (show j0 < ops.size by omega) hl0 fun j hj => by
        cases hc : listed.getD j true with
        | true => rfl
        | false => exact absurd ⟨by omega, hc⟩ (hbelow j hj)), fun i hi => ?_⟩
      obtain ⟨hil, hli, hready0⟩ := waits_ready hsz hi
      have hoi : ops[i]? = some ops[i] := Array.getElem?_eq_getElem hil
      generalize ops[i] = oi at hoi
      have hreadyL : ∀ j, waits oi j = true → listed.getD j true = true ∧ j < ops.size := fun j hw => hready0 oi hoi j hw
      have clD : ∀ k ok, ((listed.getD k true = true ∧ k < ops.size) ∨ k = i) → ops[k]? = some ok → ∀ j, waits ok j = true → ((listed.getD j true = true ∧ j < ops.size) ∨ j = i) := by
        rintro k ok (hk | rfl) hok' j hw
        · exact .inl (hcl k ok hk hok' j hw)
        · have : ok = oi := Option.some.inj (hok'.symm.trans hoi)
          subst this
          exact .inl (hreadyL j hw)
      have hcnt' := count_set (listed := listed) (i := i) (M := ops.size) (by omega) hil hli
      have hclS := set_cl (N := ops.size) (by omega) hcl hoi hreadyL
      by_cases hfl : x = none ∧ i + 1 = N ∧ fb = true ∧ N1 ≤ i
      · obtain ⟨rfl, hiN, hfbt, hmi⟩ := hfl
        obtain rfl : i = N - 1 := by omega
        have h12 : N1 < N := by omega
        have hB : B ≤ w1.heap.size := hI.wf.base
        refine early a1 w1 _ hfbt h12 fun arr hrv => ?_
        refine ih (some w1.heap.size) (listed.setIfInBounds (N - 1) true) a1 _ G1 (by simpa using hsz) (by omega) (fun j hj hlj => ?_) hclS (fun b hb => ?_) ?_ (base1 w1 arr hb1 hB)
        · rcases (set_listed (by omega) j).1 hlj with h3 | rfl
          · rcases hpre j hj h3 with h4 | ⟨h4, _⟩
            · exact .inl h4
            · cases h4
          · exact .inr ⟨rfl, rfl⟩
        · injection hb with hb
          subst hb
          exact ⟨hfbt, h12, (set_listed (by omega) _).2 (.inr rfl), early1 w1 G1 _ arr hI.evo.size hI.wf hrv⟩
        · rw [setA (listed := listed) (M := N1) hsz (by omega) (by omega)]
          exact hI.push (below1 w1 arr)
      have hiN : i < N1 := by
        rcases Nat.lt_or_ge i N1 with h3 | h3
        · exact h3
        exfalso
        have hbit : ((masks ops.toList []).getD i 0).testBit q0 = true := by
          rcases Nat.lt_or_ge i N with h4 | h4
          · obtain ⟨_, h6⟩ := m2 i _ (List.getElem?_eq_getElem (show i < (l ++ m).length by omega)) (by omega)
            rcases h6 with h6 | ⟨h6, h7⟩
            · exact (h6 q0 (by omega)).resolve_right hq2
            · exfalso
              rw [hN] at h7
              cases hxx : x.isSome with
              | true =>
                have := (hEs hxx).2.2
                rw [show N - 1 = i by omega, hli] at this; cases this
              | false => exact hfl ⟨by simpa using hxx, h7, h6, h3⟩
          · rw [hcut i (by omega) hil, Nat.testBit_two_pow_sub_one]
            simp; omega
        rcases masks_spec clD (r := ops.toList) (ms := []) (fun k => by simp) (fun k _ i hi => by simp at hi) i (.inr rfl) q0 hbit with ⟨h8, _⟩ | h8
        · rw [hq1] at h8; cases h8
        · omega
      have hci : l[i]? = some l[i] := List.getElem?_eq_getElem (by omega)
      have hci' : (l ++ m)[i]? = some l[i] := by rw [List.getElem?_append_left (by omega)]; exact hci
      have hready : ∀ j, waits oi j = true → listed.getD j true = true ∧ j < N1 := fun j hw => ⟨(hreadyL j hw).1, by have := hback i oi hoi j hw; omega⟩
      have hwA : x.isSome = true → waits oA i = false := fun hxx => by
        cases hc : waits oA i with
        | false => rfl
        | true =>
          obtain ⟨e1, e2, e3⟩ := hEs hxx
          have := (hcl (N - 1) oA ⟨e3, by omega⟩ (hA e1 e2).1 i hc).1
          rw [hli] at this; cases this
      refine step_at hS1 hN1 hok1 hes0 hrun hI (fun k ok hD hok' j hw => ⟨(hcl k ok ⟨hD.1, by have := hD.2; omega⟩ hok' j hw).1, by have := hback k ok hok' j hw; have := hD.2; omega⟩) hiN (fun hD => by rw [hli] at hD; cases hD.1) hoi hci hready hb1 (xp := X x) (hXl x i oi _ hEx (by omega) hoi hci' hwA) (K := wpAny P .any ops Q fuel (listed.setIfInBounds i true)) fun a2 w2 G2 hI2 hb2 hk2 => ?_
      refine ih x (listed.setIfInBounds i true) a2 w2 G2 (by simpa using hsz) (by omega) (fun j hj hlj => ?_) hclS (fun b hb => ?_) ?_ hb2
      · rcases (set_listed (by omega) j).1 hlj with h3 | rfl
        · exact hpre j hj h3
        · exact .inl hiN
      · obtain ⟨e1, e2, e3, e4⟩ := hE b hb
        exact ⟨e1, e2, (set_listed (by omega) _).2 (.inl e3), e4.kept hk2⟩
      · rw [set_D (by omega) hiN]; exact hI2
  refine key ops.size none (Array.replicate ops.size false) a { w with drawn := w.drawn + 1 } G (by simp) ?_ ?_ ?_ (fun b hb => by cases hb) ?_ (hb.evo hr hdr.2)
  · refine Nat.le_trans List.countP_le_length ?_
    simp
  · intro j hj h1
    rw [Array.getD_eq_getD_getElem?] at h1
    simp [hj] at h1
  · rintro k ok ⟨h1, h2⟩
    rw [Array.getD_eq_getD_getElem?] at h1
    simp [h2] at h1
  · have e1 : (fun j => (Array.replicate ops.size false).getD j true = true ∧ j < N1) = (fun _ => False) := by
      funext j
      refine propext ⟨fun ⟨h1, h2⟩ => ?_, fun hh => hh.elim⟩
      have h3 : j < ops.size := by omega
      rw [Array.getD_eq_getD_getElem?] at h1
      simp [h3] at h1
    rw [e1]; exact hI0
end
end Go.Vm
end
