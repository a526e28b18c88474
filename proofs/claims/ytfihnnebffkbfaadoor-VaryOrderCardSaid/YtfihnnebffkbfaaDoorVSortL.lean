/- slices.Sort of texts by the shelf's contract, as a function of the machine's library. -/
import Derived.Test.YtfihnnebffkbfaaDoorVh
import Derived.Test.YtfihnnebffkbfaaDoorVmLib
import Derived.Test.YtfihnnebffkbfaaDoorHShelf
set_option linter.unusedVariables false
set_option linter.unusedSimpArgs false
namespace Go.Proofs.YtfihnnebffkbfaaDoor.Vh
open Go.Vm Go.Sort
def LSort : FuncId → List V → V → Prop := fun f args v => f = i_slices_Sort___string_string_ ∧ v = .tup [] ∧ (args = sortTag ∨ args = [.nsl])
theorem sort_at0 (w0 : World) : LibAt Tryd.prog w0 LSort := by
  rintro f args v ⟨rfl, rfl, rfl | rfl⟩
  · refine ⟨by kernel_rfl, fun h B G w vs hr hb hv => ?_⟩
    obtain ⟨a, rfl, ha⟩ := rvs_one hv
    cases ha with
    | agg _ h1 _ => exact (h1 _ (List.mem_singleton.2 rfl)).elim
  · refine ⟨by kernel_rfl, good_below fun B G h w vs hr hb hv => ?_⟩
    obtain ⟨a, rfl, ha⟩ := rvs_one hv
    cases ha
    refine (Tryd.slices_Sort_string_none none 0 w).mono fun e w' ⟨h1, h2⟩ => ?_
    subst h2
    exact ⟨_, h1, .tup (vs := []) rfl (by intro k x v hx; simp at hx), Go.RowKit.Below.refl ..⟩
theorem strsV_get (ss : List (List UInt8)) (k : Nat) (hk : k < ss.length) : (strsV ss)[k]? = some (.str ss[k]) := by
  unfold strsV
  rw [List.getElem?_map, List.getElem?_eq_getElem hk]; rfl
theorem sortS_len (ss : List (List UInt8)) : (sortS ss).length = ss.length := by unfold sortS; exact List.length_mergeSort ..
theorem sort_at (w0 : World) : SortAt Tryd.prog w0 LSort := by
  rintro f ⟨rfl, _, _⟩
  refine ⟨by kernel_rfl, fun id ss h hh hn B G w vs hr hb hv => ?_⟩
  obtain ⟨a, rfl, ha⟩ := rvs_one hv
  cases ha with
  | @hsl _ _ _ b n cap hg hl hcn =>
    obtain ⟨arr, T, fz, hb0, hsz, hfz, hle, ho, hcs⟩ := (hr.obj id _ hh b n hg).out
    have hlen : (strsV ss).length = ss.length := by simp [strsV]
    rw [hlen] at hle
    have hblk : b < w.heap.size := (hr.wf.blk id _ hg).2.1
    have hcell : ∀ j, j < ss.length → arr[j]? = some (encStr ss[j]!) := by
      intro j hj
      obtain ⟨v, h1, h2⟩ := hcs j _ (strsV_get ss j hj)
      cases h2
      rw [h1, getElem!_pos ss j hj]
    have hH : Holds encStr w b 0 ss.toArray := by
      intro j hj
      have hj' : j < ss.length := by simpa using hj
      refine ⟨?_, ?_⟩
      · unfold World.cell?
        rw [hb0]
        simp only [Nat.zero_add, Option.isSome_none, Bool.false_eq_true, if_false]
        rw [hcell j hj']
        simp
      · unfold World.frozen?
        rw [hb0]
        simp only [Nat.zero_add]
        obtain ⟨lo, hi⟩ := fz
        simp only at hfz
        simp only [Bool.and_eq_false_iff, decide_eq_false_iff_not]
        omega
    refine (Tryd.slices_Sort_string b 0 cap ss w hH hblk hn).mono ?_
    rintro e w' ⟨rfl, k, os, rfl⟩
    have hss : (ss.mergeSort fun x y => decide (x ≤ y)) = sortS ss := rfl
    rw [hss]
    have hsl := sortS_len ss
    generalize sortS ss = zs at *
    have sm : Sm w (putRow encStr (Sort.ahead w k) b 0 zs.toArray) := ⟨rfl, rfl, rfl⟩
    have hhp : (putRow encStr (Sort.ahead w k) b 0 zs.toArray).heap = w.heap.modify b (onCells (putCells encStr 0 zs.toArray)) := rfl
    have hs2 : (putRow encStr (Sort.ahead w k) b 0 zs.toArray).heap.size = w.heap.size := by rw [hhp]; simp
    have hoth : ∀ c, c ≠ b → (putRow encStr (Sort.ahead w k) b 0 zs.toArray).heap[c]? = w.heap[c]? := by
      intro c hc
      rw [hhp, Array.getElem?_modify, if_neg (fun h => hc h.symm)]
    have hnew : (putRow encStr (Sort.ahead w k) b 0 zs.toArray).heap[b]? = some (.cells (putCells encStr 0 zs.toArray arr) T fz) := by
      rw [hhp, Array.getElem?_modify, if_pos rfl, hb0]; rfl
    generalize putRow encStr (Sort.ahead w k) b 0 zs.toArray = w1 at *
    have hal : alive h id := .inl ⟨_, hh⟩
    obtain ⟨hr1, he1⟩ := set_blk (o := .box (strsV zs)) hr sm hg hal hs2 hoth fun hle' b' n' e => by
      rw [hg] at e
      injection e with e
      injection e with e1 e2
      subst e1; subst e2
      refine ⟨⟨_, T, fz, hnew, by simp [putCells, hsz], hfz, by simp [strsV]; omega, ?_, ?_⟩⟩
      · intro c hc
        obtain ⟨s, _, rfl⟩ := List.mem_map.1 hc
        trivial
      · intro j x hx
        have hj : j < zs.length := by
          have := (List.getElem?_eq_some_iff.1 hx).1
          simpa [strsV] using this
        rw [strsV_get zs j hj] at hx
        injection hx with hx
        subst hx
        refine ⟨encStr zs[j], ?_, .str _⟩
        have hj2 : j < arr.size := by omega
        simp only [putCells, Array.getElem?_mapIdx, Array.getElem?_eq_getElem hj2, Option.map_some, List.size_toArray, Nat.zero_le, true_and, Nat.zero_add, hj, if_true, Nat.sub_zero]
        congr 2
        simp [hj]
    have hbl : RowKit.Below w1.heap.size w1 (grow w1 os) :=
      ⟨rfl, rfl, rfl, by show w1.heap.size ≤ (w1.heap ++ os).size; rw [Array.size_append]; omega, fun i hi => by
        show (w1.heap ++ os)[i]? = _
        rw [Array.getElem?_append_left hi]⟩
    obtain ⟨hr2, he2⟩ := hr1.below hbl
    exact ⟨G, _, rfl, .tup (vs := []) rfl (by intro k x v hx; simp at hx), hr2, he1.trans he2⟩
end Go.Proofs.YtfihnnebffkbfaaDoor.Vh
