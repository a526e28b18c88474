/- Stores, maps, bytes of a text, made slices. -/
import Derived.Test.YtfihnnebffkbfaaDoorVmInsE
namespace Go.Vm
set_option linter.unusedVariables false
set_option linter.unusedSimpArgs false

section
variable {P : Program} {B : Nat} {G : Gh} {h h' : Heap} {w : World} {n : Nat} {e : Env} {a : Act} {o : Oper} {v : V}

/-- A box whose block is written. -/
theorem row_write {b nn : Nat} {cs xs : List V} {off : Nat} {us : List Value} (hrow : Row B G w b nn cs) (hu : Rvs B G w xs us) (h2 : ∀ c ∈ xs, oneC c) (hle : off + xs.length ≤ cs.length) :
    ∃ w', (storeCells ⟨b, off, none⟩ us).run P w = .ok () w' ∧ Sm w w' ∧ w'.heap.size = w.heap.size ∧ (∀ c, c ≠ b → w'.heap[c]? = w.heap[c]?) ∧
      ∀ G' w'', w''.heap[b]? = w'.heap[b]? → Le B G w G' w'' → Row B G' w'' b nn (splice cs off xs) := by
  obtain ⟨arr, T, fz, h1, hsz, hfz, hlen, hone, hcell⟩ := hrow.out
  have ho : ∀ u ∈ us, u.oneCell' = true := by
    intro u hm
    obtain ⟨k, hk, rfl⟩ := List.mem_iff_getElem.1 hm
    have hk' : k < xs.length := by rw [← hu.1]; exact hk
    exact one_of_rv (hu.2 k _ _ (List.getElem?_eq_getElem hk') (List.getElem?_eq_getElem hk)) (h2 _ (List.getElem_mem hk'))
  obtain ⟨w', hr1, hr2, hr3, hr4, arr', hr5, hr6, hr7⟩ := storeCells_run P (o := off) us 0 arr w h1 (by rw [hsz]; intro k hk; omega) (by rw [hu.1]; omega) ho
  refine ⟨w', hr1, hr2, hr3, hr4, fun G' w'' hb hle' => ⟨arr', T, fz, hb.trans hr5, hr6.trans hsz, hfz, ?_, splice_one hone h2, fun k x hx => ?_⟩⟩
  · rw [show (splice cs off xs).length = cs.length from splice_length cs xs off hle]; exact hlen
  · unfold splice at hx
    rw [splice_get cs xs off hle] at hx
    have h7 := hr7 k
    rw [Nat.add_zero, hu.1] at h7
    split at hx <;> rename_i hk
    · rw [if_pos hk] at h7
      have hkk : k - off < us.length := by rw [hu.1]; omega
      exact ⟨us[k - off], by rw [h7]; exact List.getElem?_eq_getElem hkk, (hu.2 _ x _ hx (List.getElem?_eq_getElem hkk)).mono hle'⟩
    · rw [if_neg hk] at h7
      obtain ⟨z, hz, hrz⟩ := hcell k x hx
      exact ⟨z, by rw [h7]; exact hz, hrz.mono hle'⟩

theorem o_store {t : TypeId} {x y : Operand} {i : Ins} (hop : o.op = .store t x y) (hc : insC P n o = some i) (hs : stepI i e h = some (v, h')) (he : EnvRel B G w n e a.tmps) (hr : Rel B G h w) : Outc P B G h w o a v h' := by
  simp only [insC, hop] at hc
  split at hc <;> first | (cases hc; done) | skip
  rename_i s ga gx e1 e2 e3
  injection hc with hc; subst hc
  have r1 := argC_rv he e2
  have r2 := argC_rv he e3
  simp only [stepI, storeV] at hs
  split at hs <;> first | (cases hs; done) | skip
  rename_i id off ea
  split at hs <;> first | (cases hs; done) | skip
  rename_i cs ho
  split at hs <;> first | (cases hs; done) | skip
  rename_i hcond
  obtain ⟨hc1, hc2, hc3⟩ := hcond
  injection hs with hs
  injection hs with h1 h2; subst h1; subst h2
  obtain ⟨hu, h2⟩ := cells_rv r2 hc3
  rw [ea] at r1
  generalize hx : a.eval x = q at r1
  cases r1 with
  | ptr hb =>
    rename_i b nn
    have hrow := hr.obj id _ ho b nn hb
    obtain ⟨w', hr1, hsm, hr3, hr4, hr5⟩ := row_write (P := P) (off := off) hrow hu h2 (by omega)
    obtain ⟨hrel, hevo⟩ := set_blk (o := .box (splice cs off (cells (gx.get e)))) hr hsm hb (.inl ⟨cs, ho⟩) hr3 hr4 (by
      intro hle b' n' hb'
      have : (b', n') = (b, nn) := Option.some.inj (hb'.symm.trans hb)
      injection this with e1 e2
      subst e1; subst e2
      exact hr5 G w' rfl hle)
    refine ⟨_, w', G, undef, ?_, .inr ⟨rfl, rfl⟩, rv_undef, hrel, hevo⟩
    have hsz : (a.eval y).cells.size = s := by have := hu.1; simp at this; omega
    simp [execOp, hop, Instr.storeAt, hx, Instr.sureAddr, storeVar, run_sizeT e1, hsz, hr1]

/-! ### Maps -/

theorem o_makeMap {t : TypeId} {rs : Option Operand} {i : Ins} (hop : o.op = .makeMap t rs) (hc : insC P n o = some i) (hs : stepI i e h = some (v, h')) (he : EnvRel B G w n e a.tmps) (hr : Rel B G h w) : Outc P B G h w o a v h' := by
  cases rs with
  | some x => simp [insC, hop] at hc
  | none =>
    simp [insC, hop] at hc
    subst hc
    simp [stepI] at hs
    obtain ⟨rfl, rfl⟩ := hs
    obtain ⟨hrel, hevo⟩ := push_blk (o := .map []) (n := 0) hr (w' := { w with heap := w.heap.push (.map #[] 0) }) ⟨rfl, rfl, rfl⟩ rfl (by
      intro hle b m hb
      have : (b, m) = (w.heap.size, 0) := by simpa [Gh.addBlk] using hb.symm
      injection this with e1 e2
      subst e1; subst e2
      exact ⟨#[], 0, push_new rfl, rfl, fun k x q hx => by simp at hx⟩)
    refine ⟨_, _, _, _, ?_, .inl rfl, .map (n := 0) (b := w.heap.size) (by simp [Gh.addBlk]), hrel, hevo⟩
    simp [execOp, hop, Instr.makeMap]

theorem same_bits {c : LK} {k k' : V} {u u' : Value} (hk : eqLeaf c k k' = some true) (h1 : Rv B G w k u) (h2 : Rv B G w k' u') (d : Nat) (hc : c = .i ∨ c = .s) : Instr.sameBits d u' u = true := by
  unfold eqLeaf at hk
  split at hk <;> first | (cases hk; done) | skip
  · rcases hc with hc | hc <;> cases hc
  · split at hk <;> first | (cases hk; done) | skip
    rename_i hkk
    subst hkk
    cases h1; cases h2
    simp at hk; subst hk
    cases d <;> simp [Instr.sameBits, beq_toListBytes]
  · cases h1; cases h2
    simp at hk; subst hk
    cases d <;> simp [Instr.sameBits, beq_toListBytes]

theorem o_mapset {t : TypeId} {m k x : Operand} {i : Ins} (hop : o.op = .mapUpdate t m k x ∨ o.op = .insert t m k x) (hc : insC P n o = some i) (hs : stepI i e h = some (v, h')) (he : EnvRel B G w n e a.tmps) (hr : Rel B G h w) : Outc P B G h w o a v h' := by
  have hc' : (match P.underlying t with
    | some (.map kt _) => match P.underlying kt, argC n m, argC n k, argC n x with
      | some .string, some m, some k, some v => some (Ins.mapset .s m k v)
      | some (.int _), some m, some k, some v => some (Ins.mapset .i m k v)
      | _, _, _, _ => none
    | _ => none) = some i := by rcases hop with hop | hop <;> (simp only [insC, hop] at hc; exact hc)
  clear hc
  split at hc' <;> first | (cases hc'; done) | skip
  rename_i kt el hu
  have hex : (execOp a.eval o).run P w = ((Instr.mapUpdate t (a.eval m) (a.eval k) (a.eval x)).run P w).andThen fun _ w' => .ok .skip w' := by
    rcases hop with hop | hop <;> simp [execOp, hop]
  have main : ∀ {c : LK} {gm gk gx : Arg}, ((c = .i ∧ ∃ kk, P.underlying kt = some (.int kk)) ∨ (c = .s ∧ P.underlying kt = some .string)) → argC n m = some gm → argC n k = some gk → argC n x = some gx →
      i = .mapset c gm gk gx → Outc P B G h w o a v h' := by
    intro c gm gk gx hk e1 e2 e3 hi
    subst hi
    have r1 := argC_rv he e1
    have r2 := argC_rv he e2
    have r3 := argC_rv he e3
    generalize a.eval m = qm at r1 hex
    generalize a.eval k = qk at r2 hex
    generalize a.eval x = qx at r3 hex
    have und : ∃ kind, P.underlying kt = some kind ∧ ((c = .i ∧ ∃ kk, kind = .int kk) ∨ (c = .s ∧ kind = .string)) := by
      rcases hk with ⟨rfl, kk, hu'⟩ | ⟨rfl, hu'⟩
      · exact ⟨_, hu', .inl ⟨rfl, kk, rfl⟩⟩
      · exact ⟨_, hu', .inr ⟨rfl, rfl⟩⟩
    obtain ⟨kind, hkind, hkc⟩ := und
    have ck : ∀ b, (Instr.checkKey b 10000 kt qk).run P w = .ok () w := fun b => checkKey_run (es := []) (i := 0) (r := none) hk r2 b 9999
    simp only [stepI] at hs
    split at hs
    · cases hs
    split at hs <;> first | (cases hs; done) | skip
    rename_i id em
    split at hs <;> first | (cases hs; done) | skip
    rename_i es ho
    obtain ⟨es', hes, h2⟩ := map_some hs
    injection h2 with h1 h2; subst h1; subst h2
    rw [em] at r1
    cases r1 with
    | map hb =>
      rename_i b nn
      obtain ⟨l, clock, hl, hE⟩ := hr.obj id _ ho b nn hb
      have hgo : (getObj b).run P w = .ok (.map l clock) w := by simp [getObj, Sem.run, hl]
      have hblt := (hr.wf.blk id _ hb).2.1
      obtain ⟨r, hf, hes2⟩ := map_some hes
      obtain ⟨r', hr1, hr2⟩ := findNow_run hkc r2 hE hf
      have fin : ∀ (l' : Array MapEntry) (c' : Nat), (Instr.mapUpdate t (.map (some b)) qk qx).run P w = .ok () { w with heap := w.heap.setIfInBounds b (.map l' c') } → (∀ G' w', Le B G w G' w' → Ents B G' w' es' l'.toList) → Outc P B G h w o a (.tup []) (h.set id (.map es')) := by
        intro l' c' hrun hents
        obtain ⟨hrel, hevo⟩ := set_blk (o := .map es') hr (w' := { w with heap := w.heap.setIfInBounds b (.map l' c') }) ⟨rfl, rfl, rfl⟩ hb (.inr ⟨es, ho⟩) (by simp) (fun c hc => by simp [Array.getElem?_setIfInBounds_ne (Ne.symm hc)]) (by
          intro hle b' n' hb'
          have : (b', n') = (b, nn) := Option.some.inj (hb'.symm.trans hb)
          injection this with e1 e2
          subst e1; subst e2
          exact ⟨l', c', by simp at hblt; simp [hblt], hents _ _ hle⟩)
        exact ⟨_, _, G, undef, by rw [hex, hrun]; rfl, .inr ⟨rfl, rfl⟩, rv_undef, hrel, hevo⟩
      have hset : ∀ ob, (setObj b ob).run P w = .ok () { w with heap := w.heap.setIfInBounds b ob } := fun ob => by simp [setObj, Sem.run, hl]
      cases r with
      | none =>
        cases r' with
        | some q => exact hr2.elim
        | none =>
          simp at hes2; subst hes2
          refine fin (l.push { key := qk, val := qx, born := clock }) (clock + 1) ?_ ?_
          · simp [Instr.mapUpdate, run_underlying hu, hgo, ck, Instr.findKey, run_underlying hkind, hr1, hset]
          · intro G' w' hle
            refine ⟨by have := hE.1; simp at this ⊢; exact this, fun j p q hp hq => ?_⟩
            simp only [Array.toList_push] at hq
            by_cases hj : j < es.length
            · rw [List.getElem?_append_left hj] at hp
              rw [List.getElem?_append_left (by rw [hE.1]; exact hj)] at hq
              exact ⟨((hE.2 j p q hp hq).1).mono hle, ((hE.2 j p q hp hq).2).mono hle⟩
            · rw [List.getElem?_append_right (by omega)] at hp
              rw [List.getElem?_append_right (by rw [hE.1]; omega), hE.1] at hq
              have hj0 : j - es.length = 0 := by have := (List.getElem?_eq_some_iff.1 hp).1; simp at this; omega
              rw [hj0] at hp hq
              simp at hp hq
              subst hp; subst hq
              exact ⟨r2.mono hle, r3.mono hle⟩
      | some p =>
        cases r' with
        | none => exact hr2.elim
        | some q =>
          obtain ⟨p1, p2⟩ := p
          obtain ⟨q1, q2⟩ := q
          obtain ⟨hpq, _, _, pe, hpe, _, heq⟩ := hr2
          have hpq' : p1 = q1 := hpq
          subst hpq'
          simp at hes2; subst hes2
          have hjl : p1 < l.size := by
            have := (List.getElem?_eq_some_iff.1 hpe).1
            have h3 := hE.1
            simp at this h3; omega
          have hold : Rv B G w pe.1 (l[p1].key) := by
            have := (List.getElem?_eq_some_iff.1 hpe).1
            exact (hE.2 p1 pe l[p1] (by simpa using hpe) (by simp [hjl])).1
          have hsb := same_bits heq r2 hold 10000 (by rcases hk with ⟨rfl, _⟩ | ⟨rfl, _⟩ <;> simp)
          refine fin (l.modify p1 fun e => { e with key := qk, val := qx }) clock ?_ ?_
          · simp [Instr.mapUpdate, run_underlying hu, hgo, ck, Instr.findKey, run_underlying hkind, hr1, hjl, Instr.keyThatStays, hsb, hset]
          · intro G' w' hle
            refine ⟨by have := hE.1; simp at this ⊢; exact this, fun j pp qq hp hq => ?_⟩
            rw [List.getElem?_set] at hp
            simp only [Array.getElem?_toList, Array.getElem?_modify] at hq
            by_cases hj : p1 = j
            · subst hj
              rw [if_pos rfl] at hp hq
              split at hp <;> first | (cases hp; done) | skip
              injection hp with hp
              subst hp
              simp [hjl] at hq
              subst hq
              exact ⟨r2.mono hle, r3.mono hle⟩
            · rw [if_neg hj] at hp hq
              have hq' : l.toList[j]? = some qq := by simpa using hq
              exact ⟨((hE.2 j pp qq hp hq').1).mono hle, ((hE.2 j pp qq hp hq').2).mono hle⟩
  split at hc' <;> first | (cases hc'; done) | skip
  · rename_i hu' e1 e2 e3
    injection hc' with hc'
    exact main (.inr ⟨rfl, hu'⟩) e1 e2 e3 hc'.symm
  · rename_i hu' e1 e2 e3
    injection hc' with hc'
    exact main (.inl ⟨rfl, _, hu'⟩) e1 e2 e3 hc'.symm

theorem o_clear {c : Call} {i : Ins} (hop : o.op = .call c) (hb : c.callee = .builtin .clear) (hc : insC P n o = some i) (hs : stepI i e h = some (v, h')) (he : EnvRel B G w n e a.tmps) (hr : Rel B G h w) : Outc P B G h w o a v h' := by
  simp only [insC, hop, callC, hb] at hc
  split at hc <;> first | (cases hc; done) | skip
  all_goals (first | contradiction | skip)
  rename_i x t hbb e1 e2
  have ha := toList_one e1
  have ht := toList_one e2
  split at hc <;> first | (cases hc; done) | skip
  rename_i k el hu
  obtain ⟨gx, e3, rfl⟩ := map_some hc
  have r := argC_rv he e3
  obtain ⟨cs, hcs⟩ := run_bi (P := P) (w := w) (a := a) hop hb
  rw [ha, ht] at hcs
  simp only [stepI] at hs
  rw [show (#[x].map a.eval) = #[a.eval x] from by simp] at hcs
  generalize a.eval x = q at r hcs
  split at hs <;> first | (cases hs; done) | skip
  · rename_i ex
    injection hs with hs
    injection hs with h1 h2; subst h1; subst h2
    rw [ex] at r
    cases r
    refine Outc.same hr (val := undef) ?_ rv_undef
    rw [hcs]; simp [builtin, Builtin.clear_, run_underlying hu, undef]
  · rename_i id ex
    split at hs <;> first | (cases hs; done) | skip
    rename_i es ho
    injection hs with hs
    injection hs with h1 h2; subst h1; subst h2
    rw [ex] at r
    cases r with
    | map hb' =>
      rename_i b nn
      obtain ⟨l, clock, hl, hE⟩ := hr.obj id _ ho b nn hb'
      have hgo : (getObj b).run P w = .ok (.map l clock) w := by simp [getObj, Sem.run, hl]
      have hblt := (hr.wf.blk id _ hb').2.1
      have hset : ∀ ob, (setObj b ob).run P w = .ok () { w with heap := w.heap.setIfInBounds b ob } := fun ob => by simp [setObj, Sem.run, hl]
      obtain ⟨hrel, hevo⟩ := set_blk (o := .map []) hr (w' := { w with heap := w.heap.setIfInBounds b (.map #[] clock) }) ⟨rfl, rfl, rfl⟩ hb' (.inr ⟨es, ho⟩) (by simp) (fun c hc => by simp [Array.getElem?_setIfInBounds_ne (Ne.symm hc)]) (by
        intro hle b' n' hb2
        have : (b', n') = (b, nn) := Option.some.inj (hb2.symm.trans hb')
        injection this with e1 e2
        subst e1; subst e2
        exact ⟨#[], clock, by simp at hblt; simp [hblt], rfl, fun k x q hx => by simp at hx⟩)
      refine ⟨_, _, G, undef, ?_, .inl rfl, rv_undef, hrel, hevo⟩
      rw [hcs]; simp [builtin, Builtin.clear_, run_underlying hu, undef, hgo, hset]

end
end Go.Vm
