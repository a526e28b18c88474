/- vary.Key by its walk, as a function of the machine's library. -/
import Derived.Test.YtfihnnebffkbfaaDoorVRGet
import Derived.Test.YtfihnnebffkbfaaDoorVJoin
import Derived.Test.YtfihnnebffkbfaaDoorVItoa
import Derived.Test.YtfihnnebffkbfaaDoorVKey2
import Derived.Lib.ItoaLen
set_option linter.unusedVariables false
set_option linter.unusedSimpArgs false
namespace Go.Proofs.YtfihnnebffkbfaaDoor.Vh
open Go.Vm Go.Vt
variable {L : FuncId → List V → V → Prop} {h : Heap}
/-- A field's text of a name, and how many such fields there are. -/
def gv (l : List Fld) (name : Bs) : Bs × Nat := (joinS (valsOf l name), (valsOf l name).length)
def keyS (names : List Bs) (l : List Fld) : Bs := Kq.keyG (gv l) names
def KeyB (names : List Bs) (l : List Fld) : Prop := names.length ≤ 300 ∧ (∀ s ∈ names, s.length ≤ 300) ∧ l.length ≤ 3000 ∧ sumF l ≤ 3000
def LKey : FuncId → List V → V → Prop := fun f args v => f = i_vary_Key ∧ ∃ (x y : V) (names : List Bs) (l : List Fld), ListV 1 x (strs names) ∧ ListV 2 y (flds l) ∧ (names = [] ∨ KeyB names l) ∧ args = [x, y] ∧ v = .str (keyS names l)
theorem flds_flat : ∀ (l : List Fld), ∀ c ∈ flat (flds l), ∃ s, c = .str s
  | [], c, h => by simp [flds, flat] at h
  | f :: r, c, h => by
    have e : flat (flds (f :: r)) = [.str f.1, .str f.2] ++ flat (flds r) := rfl
    rw [e] at h
    rcases List.mem_append.1 h with h | h
    · rcases List.mem_cons.1 h with rfl | h
      · exact ⟨_, rfl⟩
      · rcases List.mem_cons.1 h with rfl | h
        · exact ⟨_, rfl⟩
        · cases h
    · exact flds_flat r c h
theorem rv_no {B : Nat} {G : Gh} {w : World} {x : V} {l : List Fld} {v : Value} (hx : ListV 2 x (flds l)) (h : Rv B G w x v) :
    (∃ p n c, v = .slice p n c) ∧ ∀ w', RowKit.Below w.heap.size w w' → ∃ x', ListV 2 x' (flds l) ∧ Rv w'.heap.size G0 w' x' v := by
  rcases hx with ⟨he, rfl⟩ | ⟨own, rfl⟩
  · cases h
    exact ⟨⟨_, _, _, rfl⟩, fun w' _ => ⟨.nsl, .inl ⟨he, rfl⟩, .nsl⟩⟩
  · generalize hes : flds l = es at h
    cases h with
    | sl vs hsz hsp hcap hc h1 hr hfull htip =>
      subst hes
      refine ⟨⟨_, _, _, rfl⟩, fun w' hb => ⟨.sl 2 .no (flds l), .inr ⟨_, rfl⟩, .sl vs hsz hsp hcap (fun k hk => ?_) h1 (fun k x hx => ?_) (by intro h; cases h) (by intro id h; cases h)⟩⟩
      · have h2 := (hc k hk).2
        have hlt := World.block_lt_of_cell? w _ h2
        exact ⟨.inl (Nat.lt_of_lt_of_le hlt hb.size), (hb.cell hlt).trans h2⟩
      · have h3 := hr k x hx
        obtain ⟨s, rfl⟩ := flds_flat l x (List.mem_of_getElem? hx)
        generalize vs k = u at h3
        cases h3
        exact .str _
theorem calls_val {w : World} {f : FuncId} {args : List V} {x : V} (hL : LibAt Tryd.prog w L) (hS : SortAt Tryd.prog w L) (hc : Cf F L f args [] (Pu [] x)) {vs : List Value} (ha : Rvs w.heap.size G0 w args vs) :
    Calls Tryd.prog f vs.toArray w fun e w' => ∃ G val, e = .returned val ∧ Rv w.heap.size G w' x val ∧ RowKit.Below w.heap.size w w' := by
  obtain ⟨v, h', hev, rfl, _⟩ := hc
  refine ((sound (w0 := w) hm hF hL hS hev).2 _ G0 w vs (rel0 w) ⟨Nat.le_refl _, .refl _ _⟩ ha).mono ?_
  rintro en w' ⟨G', val, rfl, hv, hr, he⟩
  exact ⟨G', val, rfl, hv, he.os, he.tape, he.output, he.size, fun k hk => he.frame k hk (not_mapped0 k)⟩
theorem vals_bound (l : List Fld) (name : Bs) (h1 : l.length ≤ 3000) (h2 : sumF l ≤ 3000) : (gv l name).1.length ≤ 9000 := by
  have := vals_join l name
  show (joinS (valsOf l name)).length ≤ _
  omega
theorem keyG_len (g : Bs → Bs × Nat) (hg : ∀ s, (g s).1.length ≤ 9000) : ∀ (names : List Bs), (∀ s ∈ names, s.length ≤ 300) → (Kq.keyG g names).length ≤ 9400 * names.length
  | [], _ => by simp [Kq.keyG]
  | x :: r, h => by
    have h1 := keyG_len g hg r (fun s hs => h s (List.mem_cons_of_mem _ hs))
    have h2 := h x (List.mem_cons_self ..)
    have h3 := hg x
    have h4 := Lib.itoa_length_le ((g x).1.length : Int) (by omega) (by omega)
    have h5 : (Kq.part x (g x).1 (g x).2).length ≤ 9400 := by
      unfold Kq.part
      split <;> simp <;> omega
    show (Kq.part x (g x).1 (g x).2 ++ Kq.keyG g r).length ≤ _
    rw [List.length_append, List.length_cons]
    omega
theorem key_at {w0 : World} (ht : TabAt w0) : LibAt Tryd.prog w0 LKey := by
  rintro f args v ⟨rfl, x, y, names, l, hx, hy, hkb, rfl, rfl⟩
  refine ⟨by kernel_rfl, good_below fun B G h w vs hr hb hv => ?_⟩
  obtain ⟨a, b, rfl, ha, hl⟩ := rvs_two hv
  obtain ⟨⟨lp, ln, lc, rfl⟩, hno⟩ := rv_no hy hl
  have hn : ∃ blk off p c, a = .slice p names.length c ∧ (0 < names.length → p = some ⟨blk, off, none⟩ ∧ blk < w.heap.size) ∧ ∀ i (hi : i < names.length), w.cell? ⟨blk, off + i, none⟩ = some (.string ⟨names[i].toArray⟩) := by
    rcases rv_texts hx ha with ⟨rfl, p, cap, rfl⟩ | ⟨hne, blk, o, cap, rfl, hcap, hc⟩
    · exact ⟨0, 0, p, cap, rfl, by simp, by simp⟩
    · refine ⟨blk, o, _, cap, rfl, fun h0 => ⟨rfl, ?_⟩, fun i hi => hc i _ (List.getElem?_eq_getElem hi)⟩
      exact World.block_lt_of_cell? w _ (hc 0 _ (List.getElem?_eq_getElem h0))
  obtain ⟨blk, off, p, c, rfl, hp, hc⟩ := hn
  have hkb' : ∀ {s : Bs}, s ∈ names → KeyB names l := fun hs => hkb.resolve_left (by rintro rfl; cases hs)
  refine (Kq.key_calls names (gv l) blk off c p lp ln lc w hp hc (fun i hi w' hb' => ?_) (fun n hn w' hb' => ?_) (fun n hn => ?_) (fun i hi => ?_) ?_).mono fun e w' ⟨h1, h2⟩ => ⟨_, h1, .str _, h2⟩
  · obtain ⟨k1, k2, k3, k4⟩ := hkb' (List.getElem_mem hi)
    obtain ⟨y', hy', hv'⟩ := hno w' hb'
    have hf : ∀ f ∈ l, f.1.length ≤ 140737488355328 := fun f hf => by have := sumF_mem hf; omega
    have hj := vals_join l names[i]
    have hn := k2 _ (List.getElem_mem hi)
    refine (calls_val (join_at w') (by rintro f ⟨_, x, l, _, _, _, h, _⟩; cases h) (Get_ok (L := LJoin) (h := []) (joinOk fun _ _ _ h => h) hy' (name := names[i]) (by omega) hf (by omega) (by omega)) (vs := [.slice lp ln lc, .string ⟨names[i].toArray⟩]) (rvs_of rfl ?_)).mono ?_
    · intro k hk hk'
      match k, hk with
      | 0, _ => exact hv'
      | 1, _ => exact .str _
    · rintro e w'' ⟨G', val, rfl, hrv, hbl⟩
      refine ⟨?_, hbl⟩
      unfold getV at hrv
      cases hrv with
      | tup hl hr =>
        rename_i vs
        match vs, hl with
        | [u1, u2], _ =>
          have h1 := hr 0 _ _ rfl rfl
          have h2 := hr 1 _ _ rfl rfl
          cases h1
          cases h2
          rfl
  · have htab : TabAt w' := Lib.tabBelow_of_tabIs ht w' ((hb.2.mono hb.1).trans (hb'.mono (Nat.le_trans hb.1 hr.wf.base)))
    refine (Tryd.strconv_Itoa n (by omega) (by omega) w' htab).mono fun e w'' ⟨h1, k, os, h2⟩ => ?_
    subst h2
    exact ⟨h1, Lib.below_grow _ _ (Nat.le_refl _) k os⟩
  · exact Lib.itoa_length_le n (by omega) (by omega)
  · obtain ⟨k1, k2, k3, k4⟩ := hkb' (List.getElem_mem hi)
    have h1 := keyG_len (gv l) (fun s => vals_bound l s k3 k4) (names.take i) (fun s hs => k2 s (List.mem_of_mem_take hs))
    have h2 := vals_bound l names[i] k3 k4
    have h3 := k2 _ (List.getElem_mem hi)
    rw [List.length_take] at h1
    omega
  · rcases hkb with rfl | ⟨k1, _⟩
    · simp
    · omega
def KeyOk (L : FuncId → List V → V → Prop) : Prop := ∀ {x y : V} {names : List Bs} {l : List Fld} {h : Heap}, ListV 1 x (strs names) → ListV 2 y (flds l) → (names = [] ∨ KeyB names l) → Cf F L i_vary_Key [x, y] h (Pu h (.str (keyS names l)))
theorem keyOk {L : FuncId → List V → V → Prop} (hL : ∀ f a v, LKey f a v → L f a v) : KeyOk L :=
  fun hx hy hk => wlib (hL _ _ _ ⟨rfl, _, _, _, _, hx, hy, hk, rfl, rfl⟩) ⟨rfl, [], by simp⟩
end Go.Proofs.YtfihnnebffkbfaaDoor.Vh
