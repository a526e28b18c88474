/- append and copy. -/
import Derived.Test.YtfihnnebffkbfaaDoorVmInsH
namespace Go.Vm
set_option linter.unusedVariables false
set_option linter.unusedSimpArgs false

section
variable {P : Program} {B : Nat} {G : Gh} {h h' : Heap} {w : World} {n : Nat} {e : Env} {a : Act} {o : Oper} {v : V}

theorem growBy_le (nl : Nat) : ∀ (r c : Nat), c < nl → 256 ≤ c → Builtin.growBy nl r c ≤ 2 * nl
  | 0, c, h1, _ => by simp only [Builtin.growBy]; omega
  | r + 1, c, h1, h2 => by
    simp only [Builtin.growBy]
    split
    · omega
    · by_cases h3 : c + (c + 768) / 4 < nl
      · exact growBy_le nl r _ h3 (by omega)
      · have : Builtin.growBy nl r (c + (c + 768) / 4) = c + (c + 768) / 4 := by
          cases r with
          | zero => rfl
          | succ r => simp only [Builtin.growBy]; rw [if_pos (by omega)]
        rw [this]; omega

theorem nextcap_le {need cap : Nat} (hlt : cap < need) : Builtin.nextslicecap need cap ≤ 2 * need := by
  unfold Builtin.nextslicecap
  split
  · omega
  · split
    · omega
    · exact growBy_le need 4 cap hlt (by omega)

theorem zeroCells_size (z : Array Value) (n : Nat) : (Builtin.zeroCells z n).size = n * z.size := by simp [Builtin.zeroCells]

/-- What every append begins with. -/
structure AppTy (P : Program) (t u el : TypeId) (sz bt : Nat) (z : Value) : Prop where
  ht : P.underlying t = some (.slice el)
  hu : ∃ d, P.underlying u = some d ∧ ∀ k, d ≠ .int k
  hsz : sizeT P el = some sz
  hi : ∃ inf, P.info? el = some inf ∧ inf.bytes = bt
  hz : ∀ w, (zeroValue el).run P w = .ok z w
  hzl : z.cells.size = sz
  sz0 : 0 < sz
  bt0 : 0 < bt

variable {t u el : TypeId} {sz bt : Nat} {z : Value}

/-- append, where there is room. -/
theorem app_fits (hT : AppTy P t u el sz bt z) {ty : TypeId} {base : Option Addr} {l c m : Nat} {x : Value} {new : Array Value} (hl : (Builtin.lenOf x).run P w = .ok m w)
    (hfit : l + m ≤ c) (hn : (Builtin.firstCells sz m x).run P w = .ok new w) {w' : World}
    (hst : (match base with | none => w' = w | some ad => (storeCells (ad.add (l * sz)) new.toList).run P w = .ok () w')) :
    (Builtin.append_ #[t, u] ty #[.slice base l c, x]).run P w = .ok (.slice base (l + m) c) w' := by
  obtain ⟨d, hu, hd⟩ := hT.hu
  obtain ⟨inf, hi1, hi2⟩ := hT.hi
  have hm : (match d with | .int _ => true | _ => false) = false := by cases d <;> first | rfl | exact absurd rfl (hd _)
  cases base with
  | none =>
    simp only at hst; subst hst
    simp [Builtin.append_, run_underlying hT.ht, run_sizeT hT.hsz, run_underlying hu]
    cases d <;> first | (simp [hl, hfit, hn]; done) | exact absurd rfl (hd _)
  | some ad =>
    simp only at hst
    simp [Builtin.append_, run_underlying hT.ht, run_sizeT hT.hsz, run_underlying hu]
    cases d <;> first | (simp [hl, hfit, hn, hst]; done) | exact absurd rfl (hd _)

/-- append, where there is none: a new row. -/
theorem app_grows (hT : AppTy P t u el sz bt z) {ty : TypeId} {base : Option Addr} {l c m : Nat} {x : Value} {new old : Array Value} (hl : (Builtin.lenOf x).run P w = .ok m w)
    (hfit : c < l + m) (hroom : room (l + m) bt = true) (hn : ∀ w' : World, w'.heap = w.heap → (Builtin.firstCells sz m x).run P w' = .ok new w') (ho : ∀ w' : World, w'.heap = w.heap → (Builtin.firstCells sz l (.slice base l c)).run P w' = .ok old w') :
    ∃ cap, l + m ≤ cap ∧ (Builtin.append_ #[t, u] ty #[.slice base l c, x]).run P w =
      .ok (.slice (some ⟨w.heap.size, 0, none⟩) (l + m) cap) { w with drawn := w.drawn + 1, heap := w.heap.push (.cells (old ++ new ++ Builtin.zeroCells z.cells (cap - (l + m))) el) } := by
  obtain ⟨d, hu, hd⟩ := hT.hu
  obtain ⟨inf, hi1, hi2⟩ := hT.hi
  simp only [room, decide_eq_true_eq] at hroom
  have hb0 := hT.bt0
  have h1 : l + m ≤ (l + m) * bt := Nat.le_mul_of_pos_right _ hb0
  have h2 : Builtin.nextslicecap (l + m) c * bt ≤ 281474976710656 := by
    have := Nat.mul_le_mul_right bt (nextcap_le hfit)
    rw [Nat.mul_assoc] at this
    omega
  refine ⟨l + m + w.tape w.drawn (.appendCap (l + m) c el) % (2 ^ 63 - (l + m)), by omega, ?_⟩
  have hn' := hn w.drew rfl
  have ho' := ho w.drew rfl
  have hng : ¬ (l + m ≤ c) := by omega
  have hb : inf.bytes ≠ 0 := by omega
  have h2' : ¬ (281474976710656 < Builtin.nextslicecap (l + m) c * inf.bytes) := by rw [hi2]; omega
  simp [Builtin.append_, run_underlying hT.ht, run_sizeT hT.hsz, run_underlying hu]
  cases d <;> first | exact absurd rfl (hd _) | skip
  all_goals simp [hl, hng, run_info hi1, hb, h2', Question.forced, Question.cut, hn', ho', hT.hz, newRow]
  all_goals rfl

theorem row_get {arr tail : Array Value} {xs : List V} (hv : Rvs B G w xs arr.toList) {k : Nat} {x : V} (hx : xs[k]? = some x) : ∃ u, (arr ++ tail)[k]? = some u ∧ Rv B G w x u := by
  have hlt : k < arr.size := by have := (List.getElem?_eq_some_iff.1 hx).1; have := hv.1; simp at this; omega
  exact ⟨arr[k], by rw [Array.getElem?_append_left hlt]; exact Array.getElem?_eq_getElem hlt, hv.2 k x arr[k] hx (by simp [hlt])⟩

/-- The new row of an append, as a value. -/
theorem newRow_ok {mu : Bool} {es : List V} {arr tail : Array Value} {T : TypeId} {cap : Nat} (hr : Rel B G h w) (hv : Rvs B G w (flat es) arr.toList) (h1 : ∀ c ∈ flat es, oneC c) (hsz : ∀ x ∈ es, (cells x).length = sz)
    (hcap : es.length ≤ cap) (harr : (arr ++ tail).size = cap * sz) :
    ∃ G', Rel B G' (newRowV h sz mu es).2 { w with drawn := w.drawn + 1, heap := w.heap.push (.cells (arr ++ tail) T) } ∧ Evo B G h w G' (newRowV h sz mu es).2 { w with drawn := w.drawn + 1, heap := w.heap.push (.cells (arr ++ tail) T) } ∧
      Rv B G' { w with drawn := w.drawn + 1, heap := w.heap.push (.cells (arr ++ tail) T) } (newRowV h sz mu es).1 (.slice (some ⟨w.heap.size, 0, none⟩) es.length cap) := by
  have hal : arr.size = (flat es).length := by have := hv.1; simpa using this
  have hle2 : (flat es).length ≤ (arr ++ tail).size := by simp; omega
  cases mu with
  | true =>
    simp only [newRowV, if_true]
    obtain ⟨hrel, hevo⟩ := push_blk (o := .box (flat es)) (n := (arr ++ tail).size) hr (w' := { w with drawn := w.drawn + 1, heap := w.heap.push (.cells (arr ++ tail) T) }) ⟨rfl, rfl, rfl⟩ rfl (by
      intro hle b m hb
      have : (b, m) = (w.heap.size, (arr ++ tail).size) := by simpa [Gh.addBlk] using hb.symm
      injection this with e1 e2
      subst e1; subst e2
      refine ⟨arr ++ tail, T, (0, 0), push_new rfl, rfl, .inl rfl, hle2, h1, fun k x hk => ?_⟩
      obtain ⟨u, hu, hru⟩ := row_get (tail := tail) hv hk
      exact ⟨u, hu, hru.mono hle⟩)
    exact ⟨_, hrel, hevo, .hsl (n := (arr ++ tail).size) (b := w.heap.size) (by simp [Gh.addBlk]) hcap (by omega)⟩
  | false =>
    simp only [newRowV, Bool.false_eq_true, if_false]
    obtain ⟨hrel, hevo⟩ := push_tip (n := (flat es).length) (cap := cap) (sz := sz) hr (w' := { w with drawn := w.drawn + 1, heap := w.heap.push (.cells (arr ++ tail) T) }) ⟨rfl, rfl, rfl⟩ rfl
      ⟨arr ++ tail, T, (0, 0), rfl, by omega, fun o _ => by simp⟩
    refine ⟨_, hrel, hevo, .sl (fun k => ((arr ++ tail)[k]?).getD undef) hsz (fun _ => rfl) hcap (fun k hk => ?_) h1 (fun k x hk => ?_) (fun hf => by cases hf) (fun id hid => ?_)⟩
    · refine ⟨.inr ⟨0 + (flat es).length, by simp [Gh.addTip], by show 0 + k < _; omega⟩, ?_⟩
      have hb := push_new (w := w) (w' := { w with drawn := w.drawn + 1, heap := w.heap.push (.cells (arr ++ tail) T) }) (ob := .cells (arr ++ tail) T) rfl
      have hlt : k < (arr ++ tail).size := by omega
      simp only [at?, World.cell?, hb]
      simp only [Option.isSome_none, Bool.false_eq_true, if_false, Nat.zero_add]
      rw [Array.getElem?_eq_getElem hlt]; rfl
    · obtain ⟨u, hu, hru⟩ := row_get (tail := tail) hv hk
      rw [hu]
      exact hru.mono hevo.le
    · injection hid with hid
      subst hid
      exact ⟨⟨(flat es).length, w.heap.size, 0, cap, sz⟩, by simp [Gh.addTip], Nat.le_refl _, fun _ => ⟨rfl, rfl, rfl⟩⟩

theorem o_append {c : Call} {i : Ins} (hop : o.op = .call c) (hb : c.callee = .builtin .append) (hc : insC P n o = some i) (hs : stepI i e h = some (v, h')) (he : EnvRel B G w n e a.tmps) (hr : Rel B G h w) : Outc P B G h w o a v h' := by
  simp only [insC, hop, callC, hb] at hc
  split at hc <;> first | (cases hc; done) | skip
  all_goals (first | contradiction | skip)
  rename_i x y t u hbb e1 e2
  have ha := toList_two e1
  have ht := toList_two e2
  split at hc <;> first | (cases hc; done) | skip
  rename_i el hu
  split at hc <;> first | (cases hc; done) | skip
  rename_i d' dl sz bt zs gx gy hnint e3 edl e4 e5 e6 e7 e8
  split at hc <;> first | (cases hc; done) | skip
  rename_i hcond
  simp only [not_or] at hcond
  obtain ⟨hs0, hb0, hzl⟩ := hcond
  have hzl : zs.length = sz := Classical.byContradiction fun hh => hzl hh
  injection hc with hc
  subst hc
  generalize hmu : (isU8 dl || _) = mu at hs
  have r1 := argC_rv he e7
  have r2 := argC_rv he e8
  obtain ⟨cs, hcs⟩ := run_bi (P := P) (w := w) (a := a) hop hb
  rw [ha, ht] at hcs
  rw [show (#[x, y].map a.eval) = #[a.eval x, a.eval y] from by simp] at hcs
  generalize a.eval x = qx at r1 hcs
  generalize a.eval y = qy at r2 hcs
  obtain ⟨z, hzr, hzz⟩ := zeroT_run e6 w
  have hT : AppTy P t u el sz bt z := by
    refine ⟨hu, ⟨d', e3, fun k hk => ?_⟩, e4, ?_, ?_, ?_, by omega, by omega⟩
    · subst hk; exact hnint _ rfl
    · unfold bytesT at e5
      obtain ⟨inf, h1, h2⟩ := map_some e5
      exact ⟨inf, h1, h2⟩
    · intro w'
      obtain ⟨z', hz', hzz'⟩ := zeroT_run e6 w'
      have : z' = z := by
        unfold zeroT at e6
        split at e6 <;> first | (cases e6; done) | skip
        rename_i inf ei
        split at e6 <;> first | (cases e6; done) | skip
        rename_i zv ez
        have a1 : ∀ w, (zeroValue el).run P w = .ok zv w := fun w => by simp [zeroValue, run_info ei, ez]
        have b1 := (a1 w).symm.trans hzr
        have b2 := (a1 w').symm.trans hz'
        injection b1 with b1
        injection b2 with b2
        exact b2.symm.trans b1
      subst this
      exact hz'
    · have := (hzz B G w).1.1
      simp at this; omega
  simp only [stepI, appV] at hs
  cases esrc : srcElems h sz (gy.get e) with
  | none => simp [esrc] at hs
  | some new =>
  simp only [esrc, Option.bind_some] at hs
  obtain ⟨hl2, hsz2, hone2, nvs, hnvs, hnf⟩ := src_run P hr esrc r2
  have hnvl : nvs.length = new.length * sz := by rw [hnvs.1, flat_length hsz2]
  have hnf2 : ∀ w', w'.heap = w.heap → (Builtin.firstCells sz new.length qy).run P w' = .ok nvs.toArray w' := fun w' hh => by
    have := hnf w' hh _ (Nat.le_refl _)
    rwa [List.take_of_length_le (by omega)] at this
  -- a new row, behind elements that are there
  have grow : ∀ {h2 : Heap} {es : List V} {base : Option Addr} {cap : Nat}, Rel B G h2 w → qx = .slice base es.length cap → cap < es.length + new.length → room (es.length + new.length) bt = true → (∀ x ∈ es, (cells x).length = sz) → (∀ c ∈ flat es, oneC c) →
      (∃ ovs, Rvs B G w (flat es) ovs ∧ ∀ w', w'.heap = w.heap → (Builtin.firstCells sz es.length qx).run P w' = .ok ovs.toArray w') →
      ∃ cap' arr, es.length + new.length ≤ cap' ∧ (execOp a.eval o).run P w = .ok (.value (.slice (some ⟨w.heap.size, 0, none⟩) (es.length + new.length) cap')) { w with drawn := w.drawn + 1, heap := w.heap.push (.cells (arr ++ Builtin.zeroCells z.cells (cap' - (es.length + new.length))) el) } ∧
        Rvs B G w (flat (es ++ new)) arr.toList ∧ (arr ++ Builtin.zeroCells z.cells (cap' - (es.length + new.length))).size = cap' * sz := by
    intro h2 es base cap hr2 hq hcap hroom hsz1 hone1 hold
    obtain ⟨ovs, hovs, hof⟩ := hold
    subst hq
    obtain ⟨cap', hc1, hc2⟩ := app_grows (w := w) hT (ty := o.type) (base := base) (c := cap) hl2 hcap hroom hnf2 hof
    refine ⟨cap', ovs.toArray ++ nvs.toArray, hc1, by rw [hcs]; simp [builtin, hc2], ?_, ?_⟩
    · rw [flat_append]
      have := rvs_append hovs hnvs
      simpa using this
    · have hol : ovs.length = es.length * sz := by rw [hovs.1, flat_length hsz1]
      simp only [Array.size_append, List.size_toArray, zeroCells_size, hT.hzl, hol, hnvl]
      rw [← Nat.add_mul, ← Nat.add_mul]
      congr 1
      omega
  split at hs <;> first | (cases hs; done) | skip
  · -- nil
    rename_i ex
    rw [ex] at r1
    cases r1
    split at hs
    · rename_i hemp
      injection hs with hs
      injection hs with h1 h2; subst h1; subst h2
      have : new = [] := by simpa using hemp
      subst this
      refine Outc.same hr (val := .slice none 0 0) ?_ .nsl
      have := app_fits (w := w) (w' := w) hT (ty := o.type) (base := none) (l := 0) (c := 0) hl2 (by simp) (hnf2 w rfl) rfl
      rw [hcs]; simp [builtin, this]
    · rename_i hemp
      split at hs <;> first | (cases hs; done) | skip
      rename_i hroom
      injection hs with hs
      have hpos : 0 < new.length := by cases new <;> simp_all
      obtain ⟨cap', arr, hc1, hrun, hv, harr⟩ := grow (es := []) hr rfl (by simpa using hpos) (by simpa using hroom) (fun x hx => by simp at hx) (fun c hc => by simp [flat] at hc) ⟨[], rvs_nil, fun w' hh => by simp [Builtin.firstCells]⟩
      simp only [List.nil_append, List.length_nil, Nat.zero_add] at hv hrun hc1 harr
      obtain ⟨G', hg1, hg2, hg3⟩ := newRow_ok (mu := mu) (T := el) hr hv hone2 hsz2 hc1 harr
      rw [hs] at hg1 hg2 hg3
      exact ⟨_, _, G', _, hrun, .inl rfl, hg3, hg1, hg2⟩
  · -- a slice of elements
    rename_i s own es ex
    split at hs <;> first | (cases hs; done) | skip
    rename_i hss
    subst hss
    have hsrc : srcElems h s (.sl s own es) = some es := by simp [srcElems]
    rw [ex] at r1
    obtain ⟨hl1, hsz1, hone1, ovs, hovs, hof⟩ := src_run P hr hsrc r1
    have hovl : ovs.length = es.length * s := by rw [hovs.1, flat_length hsz1]
    have hof2 : ∀ w', w'.heap = w.heap → (Builtin.firstCells s es.length qx).run P w' = .ok ovs.toArray w' := fun w' hh => by
      have := hof w' hh _ (Nat.le_refl _)
      rwa [List.take_of_length_le (by omega)] at this
    have hone3 : ∀ c ∈ flat (es ++ new), oneC c := fun c hc => by
      rw [flat_append] at hc
      rcases List.mem_append.1 hc with hc | hc
      · exact hone1 c hc
      · exact hone2 c hc
    have hsz3 : ∀ x ∈ es ++ new, (cells x).length = s := fun x hx => by
      rcases List.mem_append.1 hx with hx | hx
      · exact hsz1 x hx
      · exact hsz2 x hx
    have r1' := r1
    cases r1 with
    | sl vs hsz hsp hcap hcc h1 hrr hfull htip =>
      rename_i ad cap
      split at hs <;> first | (cases hs; done) | skip
      · -- without spare places
        have hcf := hfull rfl
        split at hs
        · rename_i hemp
          injection hs with hs
          injection hs with h1 h2; subst h1; subst h2
          have : new = [] := by simpa using hemp
          subst this
          have hnv0 : nvs = [] := by have := hnvl; simpa using this
          subst hnv0
          refine Outc.same hr (val := .slice (some ad) es.length cap) ?_ r1'
          have := app_fits (w := w) (w' := w) hT (ty := o.type) (base := some ad) (l := es.length) (c := cap) hl2 (by simp; omega) (hnf2 w rfl) (by simp [storeCells])
          rw [hcs]; simp at this; simp [builtin, this]
        · rename_i hemp
          split at hs <;> first | (cases hs; done) | skip
          rename_i hroom
          injection hs with hs
          have hpos : 0 < new.length := by cases new <;> simp_all
          obtain ⟨cap', arr, hc1, hrun, hv, harr⟩ := grow (es := es) hr rfl (by omega) hroom hsz1 hone1 ⟨ovs, hovs, hof2⟩
          have hlen : (es ++ new).length = es.length + new.length := by simp
          obtain ⟨G', hg1, hg2, hg3⟩ := newRow_ok (mu := mu) (T := el) hr hv hone3 hsz3 (by rw [hlen]; exact hc1) harr
          rw [hs] at hg1 hg2 hg3
          rw [hlen] at hg3
          exact ⟨_, _, G', _, hrun, .inl rfl, hg3, hg1, hg2⟩
      · -- the tip of a row
        rename_i id
        split at hs <;> first | (cases hs; done) | skip
        rename_i hcond
        simp only [Bool.and_eq_true] at hcond
        obtain ⟨hroom, htp⟩ := hcond
        have hid : h[id]? = some (.tip (flat es).length) := by
          unfold isTip at htp
          split at htp
          · rename_i m hm
            rw [hm]
            simp at htp; rw [htp]
          · cases htp
        injection hs with hs
        injection hs with h1' h2'; subst h1'; subst h2'
        obtain ⟨tp, htp1, htp2, htp3⟩ := htip id rfl
        obtain ⟨htn, arr0, T0, fz0, hrow1, hrow2, hrow3⟩ := hr.obj id _ hid tp htp1
        obtain ⟨hade, hcape, hsze⟩ := htp3 htn.symm
        subst hade
        have hfl1 := flat_length hsz1
        have hlenE : (es ++ new).length = es.length + new.length := by simp
        have hflE : (flat (es ++ new)).length = (es.length + new.length) * s := by rw [flat_length hsz3, hlenE]
        by_cases hfit : es.length + new.length ≤ cap
        · -- in its place
          have hbound : tp.off + es.length * s + nvs.length ≤ arr0.size := by
            have : (es.length + new.length) * s ≤ tp.cap * tp.sz := by
              rw [← hcape, ← hsze]; exact Nat.mul_le_mul_right s hfit
            rw [Nat.add_mul] at this
            omega
          have hone4 : ∀ u ∈ nvs, u.oneCell' = true := by
            intro u hm
            obtain ⟨k, hk, rfl⟩ := List.mem_iff_getElem.1 hm
            have hk' : k < (flat new).length := by rw [← hnvs.1]; exact hk
            exact one_of_rv (hnvs.2 k _ _ (List.getElem?_eq_getElem hk') (List.getElem?_eq_getElem hk)) (hone2 _ (List.getElem_mem hk'))
          obtain ⟨w', hw1, hw2, hw3, hw4, arr', hw5, hw6, hw7⟩ := storeCells_run P (o := tp.off + es.length * s) nvs 0 arr0 w hrow1 hrow3 (by omega) hone4
          have hrun := app_fits (w := w) (w' := w') hT (ty := o.type) (base := some ⟨tp.blk, tp.off, none⟩) (l := es.length) (c := cap) hl2 hfit (hnf2 w rfl) (by simp only [add_at]; exact hw1)
          have hat0 : ∀ k, k < tp.off + es.length * s → at? w' tp.blk k = at? w tp.blk k := by
            intro k hk
            have := hw7 k
            rw [if_neg (by omega)] at this
            simp only [at?, World.cell?, hw5, hrow1]
            simp [this]
          obtain ⟨hrel, hevo⟩ := grow_in (n := (flat (es ++ new)).length) hr hw2 htp1 (by rw [htn, hflE, hfl1]; exact Nat.mul_le_mul_right s (by omega)) hw3 hw4 (by rw [htn, hfl1]; exact hat0)
            ⟨arr', T0, fz0, hw5, by rw [hw6]; exact hrow2, by rw [hw6]; exact hrow3⟩ ⟨_, hid⟩
          refine ⟨_, w', _, .slice (some ⟨tp.blk, tp.off, none⟩) (es.length + new.length) cap, by rw [hcs]; simp [builtin, hrun], .inl rfl, ?_, hrel, hevo⟩
          have hwnew := hnvs.mono hevo.le
          rw [← hlenE]
          refine .sl (fun k => if k < (flat es).length then vs k else nvs.getD (k - (flat es).length) undef) hsz3 (fun _ => rfl) (by rw [hlenE]; exact hfit) (fun k hk => ?_) hone3 (fun k x hx => ?_) (fun hf => by cases hf) (fun id' hid' => ?_)
          · refine ⟨.inr ⟨tp.off + (flat (es ++ new)).length, by simp [Gh.addTip], by show tp.off + k < _; omega⟩, ?_⟩
            show at? w' tp.blk (tp.off + k) = _
            by_cases hk2 : k < (flat es).length
            · rw [if_pos hk2, hat0 (tp.off + k) (by omega)]
              exact (hcc k hk2).2
            · rw [if_neg hk2]
              have h7 := hw7 (tp.off + k)
              rw [if_pos (by rw [hflE, Nat.add_mul] at hk; omega)] at h7
              simp only [at?, World.cell?, hw5]
              simp only [Option.isSome_none, Bool.false_eq_true, if_false]
              have hk3 : k - (flat es).length < nvs.length := by rw [hflE, Nat.add_mul] at hk; omega
              rw [h7, show tp.off + k - (tp.off + es.length * s + 0) = k - (flat es).length by omega, List.getD_eq_getElem?_getD, List.getElem?_eq_getElem hk3]; rfl
          · rw [flat_append] at hx
            by_cases hk2 : k < (flat es).length
            · rw [List.getElem?_append_left hk2] at hx
              simp only [hk2, if_true]
              exact (hrr k x hx).mono hevo.le
            · rw [List.getElem?_append_right (by omega)] at hx
              simp only [hk2, if_false]
              have hk3 : k - (flat es).length < nvs.length := by rw [hnvs.1]; exact (List.getElem?_eq_some_iff.1 hx).1
              rw [List.getD_eq_getElem?_getD, List.getElem?_eq_getElem hk3]
              exact hwnew.2 _ x _ hx (List.getElem?_eq_getElem hk3)
          · injection hid' with hid'
            subst hid'
            exact ⟨{ tp with n := (flat (es ++ new)).length }, by simp [Gh.addTip], Nat.le_refl _, fun _ => ⟨rfl, hcape, hsze⟩⟩
        · -- into a new row
          obtain ⟨cap', arr, hc1, hrun, hv, harr⟩ := grow (es := es) hr rfl (by omega) hroom hsz1 hone1 ⟨ovs, hovs, hof2⟩
          generalize Builtin.zeroCells z.cells (cap' - (es.length + new.length)) = tail at hrun harr
          have hpos : 0 < new.length := by omega
          have hal : arr.size = (flat (es ++ new)).length := by have := hv.1; simpa using this
          obtain ⟨hrel, hevo⟩ := grow_new (n := (flat (es ++ new)).length) (cap := cap') (sz := s) hr (w' := { w with drawn := w.drawn + 1, heap := w.heap.push (.cells (arr ++ tail) el) }) ⟨rfl, rfl, rfl⟩ htp1
            (by rw [htn, hflE, hfl1]; exact Nat.mul_lt_mul_of_pos_right (by omega) (by omega)) rfl ⟨_, _, (0, 0), rfl, by omega, fun o _ => by simp⟩ ⟨_, hid⟩
          refine ⟨_, _, _, _, hrun, .inl rfl, ?_, hrel, hevo⟩
          rw [← hlenE]
          refine .sl (fun k => ((arr ++ tail)[k]?).getD undef) hsz3 (fun _ => rfl) (by rw [hlenE]; exact hc1) (fun k hk => ?_) hone3 (fun k x hx => ?_) (fun hf => by cases hf) (fun id' hid' => ?_)
          · refine ⟨.inr ⟨0 + (flat (es ++ new)).length, by simp [Gh.addTip], by show 0 + k < _; omega⟩, ?_⟩
            have hb := push_new (w := w) (w' := { w with drawn := w.drawn + 1, heap := w.heap.push (.cells (arr ++ tail) el) }) (ob := .cells (arr ++ tail) el) rfl
            have hlt : k < (arr ++ tail).size := by simp; omega
            simp only [at?, World.cell?, hb]
            simp only [Option.isSome_none, Bool.false_eq_true, if_false, Nat.zero_add]
            rw [Array.getElem?_eq_getElem hlt]; rfl
          · obtain ⟨u, hu, hru⟩ := row_get (tail := tail) hv hx
            rw [hu]
            exact hru.mono hevo.le
          · injection hid' with hid'
            subst hid'
            exact ⟨⟨(flat (es ++ new)).length, w.heap.size, 0, cap', s⟩, by simp [Gh.addTip], Nat.le_refl _, fun _ => ⟨rfl, rfl, rfl⟩⟩
  · -- a slice in a box
    rename_i s id len ex
    split at hs <;> first | (cases hs; done) | skip
    rename_i hcond
    obtain ⟨rfl, rfl, hroom⟩ := hcond
    split at hs <;> first | (cases hs; done) | skip
    rename_i cs ho
    split at hs <;> first | (cases hs; done) | skip
    rename_i hlecs
    injection hs with hs
    injection hs with h1' h2'; subst h1'; subst h2'
    have hsrc : srcElems h 1 (.hsl 1 id len) = some (cs.take len) := by simp [srcElems, ho, hlecs]
    rw [ex] at r1
    obtain ⟨hl1, hsz1, hone1, ovs, hovs, hof⟩ := src_run P hr hsrc r1
    have hlt : (cs.take len).length = len := by simp; omega
    have hone0 : ∀ c ∈ cs.take len, oneC c := by
      cases r1 with
      | hsl hb hl hn =>
        obtain ⟨arr, T, fz, _, _, _, _, h5, _⟩ := (hr.obj id _ ho _ _ hb).out
        exact fun c hc => h5 c (List.mem_of_mem_take hc)
    have hone3 : ∀ c ∈ cs.take len ++ flat new, oneC c := fun c hc => by
      rcases List.mem_append.1 hc with hc | hc
      · exact hone0 c hc
      · exact hone2 c hc
    have hfln : (flat new).length = new.length := by rw [flat_length hsz2]; omega
    cases r1 with
    | hsl hb hl hn =>
      rename_i b nn cap
      obtain ⟨arr0, T0, fz0, hrow1, hrow2, hrow3, hrow4, hrow5, hrow6⟩ := (hr.obj id _ ho b nn hb).out
      by_cases hfit : len + new.length ≤ cap
      · have hone4 : ∀ u ∈ nvs, u.oneCell' = true := by
          intro u hm
          obtain ⟨k, hk, rfl⟩ := List.mem_iff_getElem.1 hm
          have hk' : k < (flat new).length := by rw [← hnvs.1]; exact hk
          exact one_of_rv (hnvs.2 k _ _ (List.getElem?_eq_getElem hk') (List.getElem?_eq_getElem hk)) (hone2 _ (List.getElem_mem hk'))
        obtain ⟨w', hw1, hw2, hw3, hw4, arr', hw5, hw6, hw7⟩ := storeCells_run P (o := 0 + len * 1) nvs 0 arr0 w hrow1 (by rw [hrow2]; intro k hk; omega) (by omega) hone4
        have hrun := app_fits (w := w) (w' := w') hT (ty := o.type) (base := some ⟨b, 0, none⟩) (l := len) (c := cap) hl2 hfit (hnf2 w rfl) (by simp only [add_at]; exact hw1)
        obtain ⟨hrel, hevo⟩ := transfer (o := .box (cs.take len ++ flat new)) hr hw2 hb (.inl ⟨cs, ho⟩) hw3 hw4 (by
          intro hle b' n' hb'
          have : (b', n') = (b, nn) := by simpa [Gh.addBlk] using hb'.symm
          injection this with e1 e2
          subst e1; subst e2
          refine ⟨arr', T0, fz0, hw5, hw6.trans hrow2, hrow3, by simp; omega, hone3, fun k x hk => ?_⟩
          have h7 := hw7 k
          by_cases hk2 : k < len
          · rw [List.getElem?_append_left (by omega), List.getElem?_take, if_pos hk2] at hk
            rw [if_neg (by omega)] at h7
            obtain ⟨u, hu1, hu2⟩ := hrow6 k x hk
            exact ⟨u, by rw [h7]; exact hu1, hu2.mono hle⟩
          · rw [List.getElem?_append_right (by omega), hlt] at hk
            have hk3 : k - len < nvs.length := by rw [hnvs.1]; exact (List.getElem?_eq_some_iff.1 hk).1
            rw [if_pos (by omega), show k - (0 + len * 1 + 0) = k - len by omega] at h7
            exact ⟨nvs[k - len], by rw [h7]; exact List.getElem?_eq_getElem hk3, (hnvs.2 _ x _ hk (List.getElem?_eq_getElem hk3)).mono hle⟩)
        exact ⟨_, w', _, .slice (some ⟨b, 0, none⟩) (len + new.length) cap, by rw [hcs]; simp [builtin, hrun], .inl rfl, .hsl (n := nn) (b := b) (by simp [Gh.addBlk]) hfit hn, hrel, hevo⟩
      · obtain ⟨hr2, hevo2⟩ := set_blk (o := .dead) hr (.refl w) hb (.inl ⟨cs, ho⟩) rfl (fun _ _ => rfl) (fun _ => trivial)
        have hovl : ovs.length = len := by rw [hovs.1, flat_length hsz1, hlt]; omega
        obtain ⟨cap', arr, hc1, hrun, hv, harr⟩ := grow (es := cs.take len) (base := some ⟨b, 0, none⟩) (cap := cap) hr2 (by rw [hlt]) (by rw [hlt]; omega) (by rw [hlt]; exact hroom) hsz1 hone1 ⟨ovs, hovs, fun w' hh => by
          have h8 := hof w' hh _ (Nat.le_refl _)
          have h9 : ovs.take (len * 1) = ovs := List.take_of_length_le (by omega)
          rw [hlt, h9] at h8
          rw [hlt]; exact h8⟩
        rw [hlt] at hc1 hrun harr
        have hfe : flat (cs.take len ++ new) = cs.take len ++ flat new := by rw [flat_append, flat_one hone0]
        have hlen : (cs.take len ++ new).length = len + new.length := by simp; omega
        obtain ⟨G', hg1, hg2, hg3⟩ := newRow_ok (mu := true) (sz := 1) (es := cs.take len ++ new) (T := el) hr2 hv (by rw [hfe]; exact hone3) (fun x hx => by
          rcases List.mem_append.1 hx with hx | hx
          · exact hsz1 x hx
          · exact hsz2 x hx) (by rw [hlen]; exact hc1) harr
        simp only [newRowV, if_true, hfe, hlen, List.length_set] at hg1 hg2 hg3
        exact ⟨_, _, G', _, hrun, .inl rfl, hg3, hg1, hevo2.trans hg2⟩

/-! ### copy -/

theorem o_copy {c : Call} {i : Ins} (hop : o.op = .call c) (hb : c.callee = .builtin .copy) (hc : insC P n o = some i) (hs : stepI i e h = some (v, h')) (he : EnvRel B G w n e a.tmps) (hr : Rel B G h w) : Outc P B G h w o a v h' := by
  simp only [insC, hop, callC, hb] at hc
  split at hc <;> first | (cases hc; done) | skip
  all_goals (first | contradiction | skip)
  rename_i x y t u hbb e1 e2
  have ha := toList_two e1
  have ht := toList_two e2
  split at hc <;> first | (cases hc; done) | skip
  rename_i el hu
  split at hc <;> first | (cases hc; done) | skip
  rename_i sz gx gy e4 e7 e8
  split at hc <;> first | (cases hc; done) | skip
  rename_i hs0
  injection hc with hc
  subst hc
  have r1 := argC_rv he e7
  have r2 := argC_rv he e8
  obtain ⟨cs0, hcs⟩ := run_bi (P := P) (w := w) (a := a) hop hb
  rw [ha, ht] at hcs
  rw [show (#[x, y].map a.eval) = #[a.eval x, a.eval y] from by simp] at hcs
  generalize a.eval x = qx at r1 hcs
  generalize a.eval y = qy at r2 hcs
  simp only [stepI] at hs
  split at hs <;> first | (cases hs; done) | skip
  rename_i k id len ex
  split at hs <;> first | (cases hs; done) | skip
  rename_i hk
  subst hk
  split at hs <;> first | (cases hs; done) | skip
  rename_i cs ho
  cases esrc : srcElems h k (gy.get e) with
  | none => simp [esrc] at hs
  | some new =>
  simp only [esrc, Option.bind_some] at hs
  split at hs <;> first | (cases hs; done) | skip
  rename_i hle
  injection hs with hs
  injection hs with h1' h2'; subst h1'; subst h2'
  obtain ⟨hl2, hsz2, hone2, nvs, hnvs, hnf⟩ := src_run P hr esrc r2
  have hnvl : nvs.length = new.length * k := by rw [hnvs.1, flat_length hsz2]
  rw [ex] at r1
  cases r1 with
  | hsl hb' hl hn =>
    rename_i b nn cap
    have hmin : min new.length len ≤ new.length := Nat.min_le_left _ _
    have hft : flat (new.take (min new.length len)) = (flat new).take (min new.length len * k) := by
      have e1 : flat new = flat (new.take (min new.length len)) ++ flat (new.drop (min new.length len)) := by
        rw [← flat_append, List.take_append_drop]
      have e2 : (flat (new.take (min new.length len))).length = min new.length len * k := by
        rw [flat_length (fun x hx => hsz2 x (List.mem_of_mem_take hx)), List.length_take, Nat.min_eq_left hmin]
      rw [e1, List.take_left' e2]
    have hrow := hr.obj id _ ho b nn hb'
    have hu2 : Rvs B G w (flat (new.take (min new.length len))) (nvs.take (min new.length len * k)) := by rw [hft]; exact rvs_take hnvs
    obtain ⟨w', hr1, hsm, hr3, hr4, hr5⟩ := row_write (P := P) (off := 0) hrow hu2 (fun c hc => by rw [hft] at hc; exact hone2 c (List.mem_of_mem_take hc)) (by omega)
    obtain ⟨hrel, hevo⟩ := set_blk (o := .box (splice cs 0 (flat (new.take (min new.length len))))) hr hsm hb' (.inl ⟨cs, ho⟩) hr3 hr4 (by
      intro hle b' n' hb2
      have : (b', n') = (b, nn) := Option.some.inj (hb2.symm.trans hb')
      injection this with e1 e2
      subst e1; subst e2
      exact hr5 G w' rfl hle)
    refine ⟨_, w', G, _, ?_, .inl rfl, .int .i64 _, hrel, hevo⟩
    rw [hcs]
    simp only [builtin, Builtin.copy_]
    simp [run_underlying hu, hl2, run_sizeT e4, goInt]
    have hfc := hnf w rfl (min new.length len) hmin
    have hmin2 : Nat.min new.length len = min new.length len := rfl
    rw [hmin2, hfc]
    simp [hr1]

end
end Go.Vm
