/- Slices that are written out, bytes of a text, a text of bytes, made slices. -/
import Derived.Test.YtfihnnebffkbfaaDoorVmInsF
import Derived.Laws.BytesString
namespace Go.Vm
set_option linter.unusedVariables false
set_option linter.unusedSimpArgs false

section
variable {P : Program} {B : Nat} {G : Gh} {h h' : Heap} {w : World} {n : Nat} {e : Env} {a : Act} {o : Oper} {v : V}

/-- A new slice, without spare places, of a new row of cells. -/
theorem outc_row {arr : Array Value} {T : TypeId} {sz : Nat} {es : List V} (hr : Rel B G h w) (hx : (execOp a.eval o).run P w = .ok (.value (.slice (some ⟨w.heap.size, 0, none⟩) es.length es.length)) { w with heap := w.heap.push (.cells arr T) })
    (hsz : ∀ x ∈ es, (cells x).length = sz) (hv : Rvs B G w (flat es) arr.toList) (h1 : ∀ c ∈ flat es, oneC c) : Outc P B G h w o a (.sl sz .full es) h := by
  obtain ⟨hrel, hevo⟩ := push_lim (n := arr.size) hr (w' := { w with heap := w.heap.push (.cells arr T) }) ⟨rfl, rfl, rfl⟩ rfl
  have hal : arr.size = (flat es).length := by have := hv.1; simpa using this
  refine ⟨_, _, _, _, hx, .inl rfl, .sl (fun k => arr.toList.getD k undef) hsz (fun _ => rfl) (Nat.le_refl _) (fun k hk => ?_) h1 (fun k x hk => ?_) (fun _ => rfl) (fun id hid => by cases hid), hrel, hevo⟩
  · have hlt : k < arr.size := by omega
    refine ⟨.inr ⟨arr.size, by simp [Gh.addLim], by show 0 + k < _; omega⟩, ?_⟩
    have := push_new (w := w) (w' := { w with heap := w.heap.push (.cells arr T) }) (ob := .cells arr T) rfl
    simp only [at?, World.cell?, this]
    simp [hlt]
  · have hlt : k < arr.toList.length := by have := (List.getElem?_eq_some_iff.1 hk).1; simp; omega
    have := (hv.2 k x arr.toList[k] hk (List.getElem?_eq_getElem hlt)).mono hevo.le
    rw [List.getD_eq_getElem?_getD, List.getElem?_eq_getElem hlt]
    exact this

/-- A new box of cells. -/
theorem outc_rowb {arr : Array Value} {T : TypeId} {es : List V} (hr : Rel B G h w) (hx : (execOp a.eval o).run P w = .ok (.value (.slice (some ⟨w.heap.size, 0, none⟩) es.length es.length)) { w with heap := w.heap.push (.cells arr T) })
    (hsz : ∀ x ∈ es, (cells x).length = 1) (hv : Rvs B G w (flat es) arr.toList) (h1 : ∀ c ∈ flat es, oneC c) : Outc P B G h w o a (.hsl 1 h.length es.length) (h ++ [.box (flat es)]) := by
  have hal : arr.size = (flat es).length := by have := hv.1; simpa using this
  have hfl := flat_length hsz
  obtain ⟨hrel, hevo⟩ := push_blk (o := .box (flat es)) (n := arr.size) hr (w' := { w with heap := w.heap.push (.cells arr T) }) (ob := .cells arr T) ⟨rfl, rfl, rfl⟩ rfl (by
    intro hle b k hb
    have : (b, k) = (w.heap.size, arr.size) := by simpa [Gh.addBlk] using hb.symm
    injection this with e1 e2
    subst e1; subst e2
    refine ⟨arr, T, (0, 0), push_new rfl, rfl, .inl rfl, by omega, h1, fun k x hk => ?_⟩
    have hlt : k < arr.size := by have := (List.getElem?_eq_some_iff.1 hk).1; omega
    exact ⟨arr[k], by simp [hlt], (hv.2 k x arr[k] hk (by simp only [Array.getElem?_toList]; exact Array.getElem?_eq_getElem hlt)).mono hle⟩)
  exact ⟨_, _, _, _, hx, .inl rfl, .hsl (n := arr.size) (b := w.heap.size) (by simp [Gh.addBlk]) (Nat.le_refl _) (by omega), hrel, hevo⟩

def mkParts (s : Nat) : Nat → List Arg → List (Nat × Nat × Arg)
  | _, [] => []
  | i, g :: r => (i * s, s, g) :: mkParts s (i + 1) r

theorem seqParts_mk {s : Nat} : ∀ {pl : List (Nat × Operand)} {i : Nat} {gs : List Arg}, seqParts n i pl = some gs → partsC n (fun k => some (k * s, s)) pl = some (mkParts s i gs)
  | [], i, gs, hs => by simp [seqParts] at hs; subst hs; rfl
  | (j, x) :: pl, i, gs, hs => by
    simp only [seqParts] at hs
    split at hs <;> first | (cases hs; done) | skip
    rename_i hij
    subst hij
    split at hs <;> first | (cases hs; done) | skip
    rename_i g gs' e1 e2
    injection hs with hs; subst hs
    simp only [partsC, e1, seqParts_mk e2, mkParts]

theorem fillC_seq {s : Nat} : ∀ (gs : List Arg) (i : Nat) (done rest : List V), done.length = i * s → rest.length = gs.length * s → (∀ g ∈ gs, (cells (g.get e)).length = s ∧ stor (g.get e) = true) →
    fillC e (done ++ rest) (mkParts s i gs) = some (done ++ flat (gs.map (·.get e)))
  | [], i, done, rest, hd, hr, _ => by
    have : rest = [] := by simpa using hr
    subst this
    simp [mkParts, fillC, flat]
  | g :: gs, i, done, rest, hd, hr, hg => by
    obtain ⟨h1, h2⟩ := hg g (by simp)
    have hrl : rest.length = s + gs.length * s := by rw [hr]; simp [Nat.succ_mul]; omega
    simp only [mkParts, fillC]
    rw [if_pos ⟨h1, by simp; omega, h2⟩]
    have hsp : splice (done ++ rest) (i * s) (cells (g.get e)) = (done ++ cells (g.get e)) ++ rest.drop s := by
      unfold splice
      rw [h1, ← hd, List.take_left', List.drop_append, List.drop_eq_nil_of_le (by omega)]
      · simp
      · rfl
    rw [hsp, fillC_seq gs (i + 1) (done ++ cells (g.get e)) (rest.drop s) (by simp [hd, h1, Nat.succ_mul]) (by simp; omega) (fun x hx => hg x (by simp [hx]))]
    simp [flat]

/-- Zero cells, over and over. -/
theorem zrow {zs : List V} {z : Array Value} {s c : Nat} (hz : Rvs B G w zs z.toList) (hl : zs.length = s) (hs : 0 < s) :
    Rvs B G w ((List.replicate c zs).flatten) ((Array.range (c * s)).map (z[· % z.size]!)).toList := by
  have hzs : z.size = s := by have := hz.1; simp at this; omega
  have hlen : ∀ c, ((List.replicate c zs).flatten).length = c * s := by intro c; simp [List.length_flatten, hl]
  have hget : ∀ c k, k < c * s → ((List.replicate c zs).flatten)[k]? = zs[k % s]? := by
    intro c
    induction c with
    | zero => intro k hk; simp at hk
    | succ c ih =>
      intro k hk
      rw [List.replicate_succ, List.flatten_cons]
      by_cases hks : k < s
      · rw [List.getElem?_append_left (by omega), Nat.mod_eq_of_lt hks]
      · rw [List.getElem?_append_right (by omega), hl, ih (k - s) (by rw [Nat.succ_mul] at hk; omega)]
        congr 1
        rw [Nat.mod_eq_sub_mod (by omega : k ≥ s)]
  refine ⟨by rw [hlen]; simp, fun k x u hx hu => ?_⟩
  have hk : k < c * s := by have := (List.getElem?_eq_some_iff.1 hx).1; rw [hlen] at this; exact this
  rw [hget c k hk] at hx
  have hm : k % s < z.size := by rw [hzs]; exact Nat.mod_lt _ hs
  have hu2 : u = z[k % s]'hm := by
    simp [hk, hzs] at hu
    rw [← hu, getElem!_pos z (k % s) hm]
  subst hu2
  exact hz.2 _ x _ hx (by simp [hm])

theorem o_buildSlice {t : TypeId} {len : Nat} {parts : Array (Nat × Operand)} {i : Ins} (hop : o.op = .buildSlice t len parts) (hc : insC P n o = some i) (hs : stepI i e h = some (v, h')) (he : EnvRel B G w n e a.tmps) (hr : Rel B G h w) : Outc P B G h w o a v h' := by
  simp only [insC, hop] at hc
  split at hc <;> first | (cases hc; done) | skip
  rename_i el hu
  split at hc <;> first | (cases hc; done) | skip
  rename_i s zs gs e1 e2 e3
  split at hc <;> first | (cases hc; done) | skip
  rename_i hcond
  obtain ⟨hs0, hlen, hbig, hzl⟩ := hcond
  have hq : i = .bsl s gs ∨ (s = 1 ∧ i = .bslb gs) := by
    by_cases hh : s = 1 ∧ 8 ≤ len ∧ u8T P el = true
    · rw [if_pos hh] at hc; injection hc with hc; exact .inr ⟨hh.1, hc.symm⟩
    · rw [if_neg hh] at hc; injection hc with hc; exact .inl hc.symm
  clear hc
  have hs2 : (gs.all fun p => decide ((cells (p.get e)).length = s) && stor (p.get e)) = true ∧ ((v = .sl s .full (gs.map (·.get e)) ∧ h' = h) ∨ (s = 1 ∧ v = .hsl 1 h.length gs.length ∧ h' = h ++ [.box (flat (gs.map (·.get e)))])) := by
    rcases hq with rfl | ⟨rfl, rfl⟩ <;> simp only [stepI] at hs <;> split at hs <;> first | (cases hs; done) | skip
    · rename_i hall; injection hs with hs; injection hs with h1 h2; exact ⟨hall, .inl ⟨h1.symm, h2.symm⟩⟩
    · rename_i hall; injection hs with hs; injection hs with h1 h2; exact ⟨hall, .inr ⟨rfl, h1.symm, h2.symm⟩⟩
  obtain ⟨hall, hvv⟩ := hs2
  clear hs hq
  have hg : ∀ g ∈ gs, (cells (g.get e)).length = s ∧ stor (g.get e) = true := by
    intro g hm
    have := List.all_eq_true.1 hall g hm
    simpa using this
  obtain ⟨z, hzr, hzz⟩ := zeroT_run e2 w
  have hz := (hzz B G w).1
  have hz1 := (hzz B G w).2
  have hseq := fillC_seq (e := e) gs 0 [] ((List.replicate len zs).flatten) (by simp) (by simp [List.length_flatten, hzl, hlen]) hg
  simp only [List.nil_append] at hseq
  obtain ⟨arr', hf', hv', h1'⟩ := fill_run he (pl := parts.toList) (place' := fun k => some (k * s, s)) (seqParts_mk (s := s) e3) (fun i p hp => hp) hseq (zrow (c := len) hz hzl hs0) (by
    intro c hc
    obtain ⟨l, hl, hcl⟩ := List.mem_flatten.1 hc
    rw [(List.mem_replicate.1 hl).2] at hcl
    exact hz1 c hcl)
  have hmem : ∀ x ∈ gs.map (·.get e), (cells x).length = s := by
    intro x hx
    obtain ⟨g, hg', rfl⟩ := List.mem_map.1 hx
    exact (hg g hg').1
  have hlen' : (gs.map (·.get e)).length = len := by simpa using hlen
  suffices hexec : (execOp a.eval o).run P w = .ok (.value (.slice (some ⟨w.heap.size, 0, none⟩) (gs.map (·.get e)).length (gs.map (·.get e)).length)) { w with heap := w.heap.push (.cells arr' el) } by
    rcases hvv with ⟨rfl, rfl⟩ | ⟨rfl, rfl, rfl⟩
    · exact outc_row hr (arr := arr') (T := el) hexec hmem hv' h1'
    · have := outc_rowb hr (arr := arr') (T := el) hexec hmem hv' h1'
      rwa [List.length_map] at this
  rw [hlen']
  have hparts : (parts.map fun (i, x) => (i, a.eval x)).toList = parts.toList.map fun (i, x) => (i, a.eval x) := by simp
  simp only [execOp, hop, Instr.buildSlice, Sem.run_bind, run_underlying hu, Result.andThen_ok, run_sizeT e1, hparts]
  rw [if_neg (by omega)]
  by_cases hl0 : len * s = 0
  · have hl00 : len = 0 := by rcases Nat.mul_eq_zero.1 hl0 with h | h; exact h; omega
    subst hl00
    have hg0 : gs = [] := by simpa using hlen
    subst hg0
    simp [flat] at hv'
    have harr : arr' = #[] := by have := hv'.1; simpa using this
    subst harr
    have hp0 : parts.toList = [] := by
      cases hp : parts.toList with
      | nil => rfl
      | cons p r =>
        obtain ⟨j, x⟩ := p
        rw [hp] at e3
        simp only [seqParts] at e3
        split at e3 <;> first | (cases e3; done) | skip
        split at e3 <;> first | (cases e3; done) | skip
    rw [if_pos hl0]
    simp [hp0, Instr.fill, newRow, _root_.Go.Array.range_zero']
  · rw [if_neg hl0]
    simp only [Sem.run_bind, hzr, Result.andThen_ok, Sem.run_pure]
    rw [hf']
    simp [newRow]

/-! ### Bytes of a text, a text of bytes -/

theorem o_toBytes {t u : TypeId} {x : Operand} {g : Arg} (hop : o.op = .convert t u x) (hc : insC P n o = some (.toBytes g)) (hs : stepI (.toBytes g) e h = some (v, h')) (he : EnvRel B G w n e a.tmps) (hr : Rel B G h w) : Outc P B G h w o a v h' := by
  simp only [insC, hop] at hc
  split at hc <;> first | (cases hc; done) | skip
  case h_5 => split at hc <;> first | (cases hc; done) | (split at hc <;> cases hc)
  · split at hc <;> cases hc
  rename_i el gx e1 e2 e3
  split at hc <;> first | (cases hc; done) | skip
  rename_i hel
  injection hc with hc
  injection hc with hc; subst hc
  have r := argC_rv he e3
  simp only [stepI] at hs
  split at hs <;> first | (cases hs; done) | skip
  rename_i s es
  injection hs with hs
  injection hs with h1 h2; subst h1; subst h2
  rw [es] at r
  generalize hx : a.eval x = q at r
  cases r
  -- what is drawn
  obtain ⟨cap, hcap, hch⟩ : ∃ cap, s.length ≤ cap ∧ (choose (.appendCap s.length 0 el)).run P w = .ok cap { w with drawn := w.drawn + 1 } := by
    refine ⟨s.length + w.tape w.drawn (.appendCap s.length 0 el) % (2 ^ 63 - s.length), by omega, ?_⟩
    simp [Question.forced, Question.cut]
  have hsz : (⟨s.toArray⟩ : ByteArray).size = s.length := by simp [ByteArray.size]
  let arr : Array Value := (s.map fun b => Value.int .u8 b.toNat).toArray ++ Array.replicate (cap - s.length) (.int .u8 0)
  have harr : arr.size = cap := by simp [arr]; omega
  let w1 : World := { w with drawn := w.drawn + 1, heap := w.heap.push (.cells arr el (cap, cap + 1)) }
  have hrun : (execOp a.eval o).run P w = .ok (.value (.slice (some ⟨w.heap.size, 0, none⟩) s.length cap)) w1 := by
    have hel2 : (Array.map (fun (b : UInt8) => Value.int IntKind.u8 b.toNat) s.toArray ++ Array.replicate (cap - s.length) (Value.int .u8 0)) = arr := by simp [arr]
    simp only [execOp, hop, Sem.run_bind, hx, convert, run_underlying e1, run_underlying e2, run_underlying hel, Result.andThen_ok, Conv.stringToBytes, hsz, hch, newRow, markStringish, run_newObj, hel2]
    have hshape : World.shape? { w with drawn := w.drawn + 1, heap := w.heap.push (.cells arr el) } w.heap.size = some (el, cap) := by
      simp [World.shape?, harr]
    simp only [hshape, Sem.run_pure, run_shape, Result.andThen_ok, run_freeze, Sem.run_bind]
    congr 1
    simp only [World.freeze, w1]
    simp
    apply Array.ext
    · simp
    · intro i h1 h2
      rw [Array.getElem_modify, Array.getElem_push, Array.getElem_push]
      by_cases hi : i < w.heap.size
      · rw [if_neg (by omega), dif_pos hi, dif_pos hi]
      · rw [if_pos (by simp at h2; omega), dif_neg hi, dif_neg hi]
        simp
  have hd : Rel B G h { w with drawn := w.drawn + 1 } ∧ Evo B G h w G h { w with drawn := w.drawn + 1 } := hr.heap ⟨rfl, rfl, rfl⟩ rfl
  obtain ⟨hrel, hevo⟩ := push_blk (o := .box (s.map ofByte)) (n := cap) hd.1 (w' := w1) (ob := .cells arr el (cap, cap + 1)) ⟨rfl, rfl, rfl⟩ rfl (by
    intro hle b m hb
    have : (b, m) = (w.heap.size, cap) := by simpa [Gh.addBlk] using hb.symm
    injection this with e1 e2
    subst e1; subst e2
    refine ⟨arr, el, (m, m + 1), push_new (w := { w with drawn := w.drawn + 1 }) rfl, harr, by simp only; omega, by simpa using hcap, fun c hc => ?_, fun k x hk => ?_⟩
    · obtain ⟨b, _, rfl⟩ := List.mem_map.1 hc
      trivial
    · rw [List.getElem?_map] at hk
      obtain ⟨b, hb, rfl⟩ := map_some hk
      have hlt := (List.getElem?_eq_some_iff.1 hb).1
      refine ⟨.int .u8 b.toNat, ?_, .int _ _⟩
      simp only [arr]
      rw [Array.getElem?_append_left (by simpa using hlt)]
      simp [hb])
  exact ⟨_, w1, _, _, hrun, .inl rfl, .hsl (n := cap) (b := w.heap.size) (by simp [Gh.addBlk]) hcap (by omega), hrel, hd.2.trans hevo⟩

/-- Bytes that are told as bytes: their block is marked. -/
theorem o_mark {t u : TypeId} {x : Operand} {g : Arg} (hop : o.op = .convert t u x) (hc : insC P n o = some (.mark g)) (hs : stepI (.mark g) e h = some (v, h')) (he : EnvRel B G w n e a.tmps) (hr : Rel B G h w) : Outc P B G h w o a v h' := by
  simp only [insC, hop] at hc
  split at hc <;> first | (cases hc; done) | skip
  · split at hc <;> cases hc
  · split at hc <;> cases hc
  rename_i e0 el gx e1 e2 e3
  split at hc <;> first | (cases hc; done) | skip
  rename_i hel
  split at hc <;> first | (cases hc; done) | skip
  rename_i htu
  injection hc with hc
  injection hc with hc; subst hc
  have r := argC_rv he e3
  simp only [stepI] at hs
  split at hs <;> first | (cases hs; done) | skip
  rename_i sz id len es
  split at hs <;> first | (cases hs; done) | skip
  rename_i cs ho
  injection hs with hs
  injection hs with h1 h2; subst h1; subst h2
  rw [es] at r
  generalize hx : a.eval x = q at r
  cases r with
  | hsl hb hl hn =>
  rename_i b nn cap
  have hrow := hr.obj id _ ho b nn hb
  obtain ⟨arr, T, fz, a1, a2, a3, a4, a5, a6⟩ := hrow.out
  have hshape : World.shape? w b = some (T, nn) := by simp [World.shape?, a1, a2]
  have hrun : (execOp a.eval o).run P w = .ok (.value (.slice (some ⟨b, 0, none⟩) len cap)) (w.freeze ⟨b, nn, none⟩ 1) := by
    simp only [execOp, hop, Sem.run_bind, hx, convert, run_underlying e1, run_underlying e2, run_underlying hel, Result.andThen_ok, htu, markStringish, Sem.run_pure, run_shape, hshape, run_freeze]
  have hset : h.set id (.box cs) = h := by
    apply List.ext_getElem?
    intro i
    rw [List.getElem?_set]
    split
    · rename_i hi; subst hi; rw [if_pos (List.getElem?_eq_some_iff.1 ho).1, ho]
    · rfl
  have hblt : b < w.heap.size := by
    rcases Nat.lt_or_ge b w.heap.size with h1 | h1
    · exact h1
    · rw [Array.getElem?_eq_none h1] at a1; cases a1
  have hheap : ∀ c, (w.freeze ⟨b, nn, none⟩ 1).heap[c]? = if c = b then some (.cells arr T (if fz.1 == fz.2 then (nn, nn + 1) else (min fz.1 nn, max fz.2 (nn + 1)))) else w.heap[c]? := by
    intro c
    simp only [World.freeze]
    rw [if_neg (by omega)]
    simp only [Array.getElem?_modify]
    by_cases hcb : c = b
    · subst hcb
      rw [if_pos rfl, if_pos rfl, a1]
      rfl
    · rw [if_neg (fun hh => hcb hh.symm), if_neg hcb]
  have hsize : (w.freeze ⟨b, nn, none⟩ 1).heap.size = w.heap.size := by
    simp only [World.freeze]
    rw [if_neg (by omega)]
    simp
  obtain ⟨hrel, hevo⟩ := set_blk (w' := w.freeze ⟨b, nn, none⟩ 1) (o := .box cs) hr ⟨rfl, rfl, rfl⟩ hb (.inl ⟨cs, ho⟩) hsize (fun c hc => by rw [hheap, if_neg hc]) (fun hle b' n' hb' => by
    have : (b', n') = (b, nn) := Option.some.inj (hb'.symm.trans hb)
    injection this with e1 e2
    subst e1; subst e2
    refine ⟨arr, T, _, by rw [hheap, if_pos rfl], a2, ?_, a4, a5, fun k x hk => ?_⟩
    · by_cases hf : fz.1 = fz.2
      · rw [if_pos (by simpa using hf)]; exact .inr (Nat.le_refl _)
      · rw [if_neg (by simpa using hf)]; right; simp only; omega
    · obtain ⟨z, hz, hrz⟩ := a6 k x hk
      exact ⟨z, hz, hrz.mono hle⟩)
  rw [hset] at hrel hevo
  exact ⟨_, _, _, _, hrun, .inl rfl, .hsl (n := nn) (b := b) hb hl hn, hrel, hevo⟩

/-! ### Made slices -/

theorem o_makeSlice {t : TypeId} {l c : Operand} {i : Ins} (hop : o.op = .makeSlice t l c) (hc : insC P n o = some i) (hs : stepI i e h = some (v, h')) (he : EnvRel B G w n e a.tmps) (hr : Rel B G h w) : Outc P B G h w o a v h' := by
  simp only [insC, hop] at hc
  split at hc <;> first | (cases hc; done) | skip
  rename_i el hu
  split at hc <;> first | (cases hc; done) | skip
  rename_i s bt zs gl gc e1 e2 e3 e4 e5
  split at hc <;> first | (cases hc; done) | skip
  rename_i hcond
  obtain ⟨hs0, hzl, hb0⟩ := hcond
  injection hc with hc; subst hc
  have r1 := argC_rv he e4
  have r2 := argC_rv he e5
  simp only [stepI] at hs
  split at hs <;> first | (cases hs; done) | skip
  rename_i m cc el' ec'
  split at hs <;> first | (cases hs; done) | skip
  rename_i hcond2
  obtain ⟨h0, hmc, hroom⟩ := hcond2
  injection hs with hs
  injection hs with h1 h2; subst h1; subst h2
  rw [el'] at r1; rw [ec'] at r2
  generalize hx : a.eval l = q1 at r1
  generalize hy : a.eval c = q2 at r2
  cases r1; cases r2
  have hbt : ∃ inf, P.info? el = some inf ∧ inf.bytes = bt := by
    unfold bytesT at e2
    obtain ⟨inf, h1, h2⟩ := map_some e2
    exact ⟨inf, h1, h2⟩
  obtain ⟨inf, hinf, hbt⟩ := hbt
  simp only [room, decide_eq_true_eq] at hroom
  have hcb : cc.toNat ≤ cc.toNat * bt := Nat.le_mul_of_pos_right _ hb0
  have hcc : cc ≤ 140737488355328 := by omega
  have hbc : ((bt : Int) * cc) ≤ 140737488355328 := by
    have : ((cc.toNat * bt : Nat) : Int) ≤ 140737488355328 := Int.ofNat_le.2 hroom
    rw [Int.natCast_mul, Int.toNat_of_nonneg (by omega), Int.mul_comm] at this
    exact this
  have wr : ∀ x : Int, 0 ≤ x → x ≤ 140737488355328 → IntKind.i64.wrap x = x := by
    intro x h1 h2
    simp [IntKind.wrap, IntKind.bits, IntKind.signed]; omega
  have wm := wr m h0 (by omega)
  have wc := wr cc (by omega) hcc
  obtain ⟨z, hzr, hzz⟩ := zeroT_run e3 w
  have hz := (hzz B G w).1
  have hz1 := (hzz B G w).2
  have hrow := zrow (c := cc.toNat) hz hzl hs0
  let arr : Array Value := (Array.range (cc.toNat * s)).map (z.cells[· % z.cells.size]!)
  have harr : arr.size = cc.toNat * s := by simp [arr]
  have h1' : ∀ c ∈ (List.replicate cc.toNat zs).flatten, oneC c := by
    intro c hc
    obtain ⟨l, hl, hcl⟩ := List.mem_flatten.1 hc
    rw [(List.mem_replicate.1 hl).2] at hcl
    exact hz1 c hcl
  obtain ⟨hrel, hevo⟩ := push_blk (o := .box ((List.replicate cc.toNat zs).flatten)) (n := arr.size) hr (w' := { w with heap := w.heap.push (.cells arr el) }) ⟨rfl, rfl, rfl⟩ rfl (by
    intro hle b k hb
    have : (b, k) = (w.heap.size, arr.size) := by simpa [Gh.addBlk] using hb.symm
    injection this with e1 e2
    subst e1; subst e2
    have hl := hrow.1
    refine ⟨arr, el, (0, 0), push_new rfl, rfl, .inl rfl, by simp only [Array.length_toList] at hl; rw [← hl]; exact Nat.le_refl _, h1', fun k x hk => ?_⟩
    have hlt : k < arr.size := by
      have := (List.getElem?_eq_some_iff.1 hk).1
      simp only [Array.length_toList] at hl
      have h3 : arr.size = ((List.replicate cc.toNat zs).flatten).length := hl
      omega
    exact ⟨arr[k], by simp [hlt], (hrow.2 k x arr[k] hk (by simp only [Array.getElem?_toList]; exact Array.getElem?_eq_getElem hlt)).mono hle⟩)
  refine ⟨_, { w with heap := w.heap.push (.cells arr el) }, _, .slice (some ⟨w.heap.size, 0, none⟩) m.toNat cc.toNat, ?_, .inl rfl, .hsl (n := arr.size) (b := w.heap.size) (by simp [Gh.addBlk]) (by omega) (by rw [harr]; exact Nat.le_refl _), hrel, hevo⟩
  have t1 : ¬ (((decide (cc < 0) || decide ((bt : Int) * cc > 2 ^ 48)) || decide (m < 0) || decide (m > cc)) = true) := by
    simp; omega
  simp only [execOp, hop, Instr.makeSlice, Sem.run_bind, hx, hy, run_underlying hu, Result.andThen_ok, asInt, asIntOf, Sem.run_pure, run_info hinf, hbt, wm, wc]
  rw [if_neg t1]
  by_cases hn : cc.toNat * s = 0
  · have harr0 : arr = #[] := by apply Array.eq_empty_of_size_eq_zero; rw [harr]; exact hn
    simp [run_sizeT e1, hn, newRow, harr0, _root_.Go.Array.range_zero']
  · simp [run_sizeT e1, hn, hzr, newRow, arr]

end
end Go.Vm
