/- token.unquote, walked by hand. Conditions: at most 2^46 bytes. -/
import Derived.Test.YtmfpmnfbcgchjaaDoorVUnq
set_option linter.unusedVariables false
set_option linter.unusedSimpArgs false
namespace Go.Proofs.YtmfpmnfbcgchjaaDoor.Uq
open Go.RowKit
def inQ (c : Int) : Bool := (c == 9) || (decide (32 ≤ c) && !decide (c = 127))
set_option maxHeartbeats 400000 in
theorem inQ_calls (c : Int) (w : World) :
    Calls Tryd.prog 37 #[.int .u8 c] w fun e w' => e = .returned (.bool (inQ c)) ∧ w' = w := by
  go_enter Tryd.func37, Tryd.ntmps37
  unfold inQ
  by_cases k0 : c = 9
  · subst k0; go_wp2; go_ret; exact ⟨rfl, rfl⟩
  · by_cases k1 : c ≥ 32
    · by_cases k2 : c = 127
      · subst k2; go_wp2; go_ret; exact ⟨rfl, rfl⟩
      · go_wp2; go_ret; exact ⟨by simp [k0, k1, k2], rfl⟩
    · go_wp2; go_ret; refine ⟨?_, rfl⟩; simp [k0]; omega
/-- What a quoted text holds, behind its first mark. -/
def unqG : List UInt8 → List UInt8 → List UInt8 × Bool
  | [], _ => ([], false)
  | c :: r, bs => if c = 34 then (bs, r.isEmpty) else if c = 92 then (match r with
      | [] => ([], false)
      | d :: r' => if inQ (d.toNat : Int) then unqG r' (bs ++ [d]) else ([], false))
    else if inQ (c.toNat : Int) then unqG r (bs ++ [c]) else ([], false)
theorem u8_of {c : UInt8} {n : Nat} (hn : n < 256) (h : (c.toNat : Int) = n) : c = UInt8.ofNat n := by
  refine UInt8.toNat_inj.1 ?_
  rw [UInt8.toNat_ofNat_of_lt' hn]; omega
theorem unqG_other {c : UInt8} {r bs : List UInt8} (h1 : ¬ (c.toNat : Int) = 34) (h2 : ¬ (c.toNat : Int) = 92) : unqG (c :: r) bs = if inQ (c.toNat : Int) then unqG r (bs ++ [c]) else ([], false) := by
  rw [unqG.eq_def]
  simp only
  rw [if_neg (by rintro rfl; exact h1 rfl), if_neg (by rintro rfl; exact h2 rfl)]
theorem unqG_end {c : UInt8} {bs : List UInt8} (h2 : (c.toNat : Int) = 92) : unqG [c] bs = ([], false) := by
  have : c = 92 := u8_of (n := 92) (by decide) h2
  subst this; rfl
theorem unqG_esc {c d : UInt8} {r bs : List UInt8} (h2 : (c.toNat : Int) = 92) : unqG (c :: d :: r) bs = if inQ (d.toNat : Int) then unqG r (bs ++ [d]) else ([], false) := by
  have : c = 92 := u8_of (n := 92) (by decide) h2
  subst this; rw [unqG.eq_def]; rfl
def unqS (l : List UInt8) : List UInt8 × Bool := if Lib.hasPrefix l [34] then unqG (Lib.trimPrefix l [34]) [] else ([], false)
def UnqI (t : ByteArray) (R : List UInt8 × Bool) (b : Nat) (w : World) (v5 v7 : Value) (w' : World) : Prop :=
  ∃ (k : Nat) (ok : Bool) (bs : List UInt8), k ≤ t.size ∧ v5 = .bool ok ∧ v7 = .int .i64 k ∧ Lib.IsBuilder tB tU b b (Lib.byteCells bs) w' ∧ Below b w w' ∧ bs.length ≤ k ∧
    (ok = true → unqG (t.data.toList.drop k) bs = R) ∧ (ok = false → R = ([], false))
theorem cells_snoc (bs : List UInt8) (c : UInt8) : Lib.byteCells (bs ++ [c]) = Lib.byteCells bs ++ [.int .u8 c.toNat] := by simp [Lib.byteCells]
theorem unqI_next {t : ByteArray} {R : List UInt8 × Bool} {b k : Nat} {w w1 w2 : World} {bs : List UInt8} {c : UInt8} (hk : k ≤ t.size) (hbl : Below b w w1) (hb2 : Below b w1 w2) (hlen : bs.length + 1 ≤ k) (h2 : Lib.BuilderAt tB tU b b (.pointer (some ⟨b, 0, none⟩)) (Lib.byteCells bs ++ [.int .u8 c.toNat]) w2)
    (h1 : (if inQ (c.toNat : Int) then unqG (t.data.toList.drop k) (bs ++ [c]) else ([], false)) = R) : UnqI t R b w (.bool (inQ (c.toNat : Int))) (.int .i64 k) w2 :=
  ⟨k, _, bs ++ [c], hk, rfl, rfl, .inr (by rw [cells_snoc]; exact h2), hbl.trans hb2, by simpa using hlen, fun h => by rw [if_pos h] at h1; exact h1, fun h => by rw [if_neg (by simp [h])] at h1; exact h1.symm⟩
set_option maxHeartbeats 1000000 in
set_option maxRecDepth 100000 in
theorem unq_calls (s : ByteArray) (w : World) (hs : s.size ≤ 140737488351232) (R : List UInt8 × Bool) (hR : unqS s.data.toList = R) :
    Calls Tryd.prog 35 #[.string s] w fun e w' => e = .returned (.tuple #[.string ⟨R.1.toArray⟩, .bool R.2]) ∧ Below w.heap.size w w' := by
  have hsz : (Lib.trimPrefix s.data.toList [34]).length ≤ 140737488351232 := by
    have : (Lib.trimPrefix s.data.toList [34]).length ≤ s.data.toList.length := by
      unfold Lib.trimPrefix
      split
      · rw [List.length_drop]; omega
      · exact Nat.le_refl _
    have h2 : s.data.toList.length = s.size := by simp
    omega
  unfold unqS at hR
  have HR := Lib.hid hR
  clear hR
  go_enter Tryd.func35, Tryd.ntmps35
  go_wp2_with (go_at_call 49; refine (Tryd.strings_CutPrefix _ _ _).mono ?_)
  generalize Lib.hasPrefix s.data.toList [34] = ok0 at *
  generalize Lib.trimPrefix s.data.toList [34] = l0 at *
  generalize ht : ByteArray.mk l0.toArray = t at *
  have hl : l0 = t.data.toList := by rw [← ht]
  subst hl
  have hn : t.data.toList.length = t.size := by simp
  have hn' : t.size ≤ 140737488351232 := by omega
  have hB := Lib.hid (Lib.fresh_isBuilder tB tU w)
  have hb0 := Lib.hid ((Below.refl w.heap.size w).alloc (Nat.le_refl _) (Obj.cells #[Value.pointer none, Value.slice none 0 0] tB))
  generalize hb : w.heap.size = b at *
  go_loopw [5, 7, 8] (fun v5 v7 _ w' => UnqI t R b w v5 v7 w') (fun _ i _ _ => t.size - (intOf i).toNat)
  case atStart => exact ⟨0, ok0, [], Nat.zero_le _, rfl, rfl, hB.out, hb0.out, Nat.le_refl _, fun h => by rw [← HR.out, if_pos h]; rfl, fun h => by rw [← HR.out, if_neg (by simp [h])]⟩
  case round =>
    obtain ⟨k, ok, bs, hk, rfl, rfl, hI, hbl, hlen, h1, h2⟩ := hrel
    have HI := Lib.hid hI; have HL := Lib.hid hbl
    clear hI hbl HR
    cases ok with
    | false =>
      have := h2 rfl
      subst this
      clear h1 h2
      go_wp2
      go_ret2
      exact ⟨rfl, HL.out⟩
    | true =>
      replace h1 := h1 rfl
      clear h2
      by_cases hlt : k < t.size
      case neg =>
        have hke : k = t.size := by omega
        rw [List.drop_of_length_le (by omega)] at h1
        subst h1
        go_wp2
        go_ret2
        exact ⟨rfl, HL.out⟩
      have hlt' : k < t.data.toList.length := by omega
      have hd : t.data.toList.drop k = (t[k]'hlt) :: t.data.toList.drop (k + 1) := List.drop_eq_getElem_cons hlt'
      rw [hd] at h1
      have hbw : b ≤ wr.heap.size := by have := HL.out.size; omega
      have H1 := Lib.hid h1
      clear h1 hd ht
      have hcn := (t[k]'hlt).toNat_lt
      by_cases c34 : ((t[k]'hlt).toNat : Int) = 34
      · have hc8 : t[k]'hlt = 34 := UInt8.toNat_inj.1 (by have : (34 : UInt8).toNat = 34 := rfl; omega)
        have h1 := H1.out
        unfold unqG at h1
        rw [if_pos hc8] at h1
        have HR1 := Lib.hid h1
        clear h1 hc8 H1
        go_wp2_with (go_at_call 50; refine (Tryd.Builder_String_any b b bs _ HI.out hbw).mono ?_)
        rintro e w' ⟨rfl, hb2⟩
        go_wp2
        go_ret2
        rw [← HR1.out]
        refine ⟨?_, hb ▸ HL.out.trans hb2⟩
        show Ending.returned (.tuple #[.string ⟨bs.toArray⟩, .bool ((k : Int) == (t.size : Int) - 1)]) = _
        have e1 : ((k : Int) == (t.size : Int) - 1) = (List.drop (k + 1) t.data.toList).isEmpty := by
          rw [Bool.eq_iff_iff, beq_iff_eq, List.isEmpty_iff, List.drop_eq_nil_iff]
          omega
        rw [e1]
      · by_cases c92 : ((t[k]'hlt).toNat : Int) = 92
        · by_cases hlt2 : k + 1 < t.size
          case neg =>
            have hke : k + 1 = t.size := by omega
            have hki : (k : Int) + 1 = (t.size : Int) := by omega
            have h1 := H1.out
            rw [List.drop_of_length_le (by omega), unqG_end c92] at h1
            subst h1
            clear H1
            go_wp2
            go_ret2
            exact ⟨rfl, hb ▸ HL.out⟩
          have hki : ¬ (k : Int) + 1 = (t.size : Int) := by omega
          have hlt2' : k + 1 < t.data.toList.length := by omega
          have hd : t.data.toList.drop (k + 1) = (t[k + 1]'hlt2) :: t.data.toList.drop (k + 2) := List.drop_eq_getElem_cons hlt2'
          have h1 := H1.out
          rw [hd, unqG_esc c92] at h1
          have H3 := Lib.hid h1
          clear h1 hd H1
          have hI1 := Lib.hid (inQ_calls ((t[k + 1]'hlt2).toNat : Int) wr)
          have hW := Lib.hid (write_byte b b _ ((t[k + 1]'hlt2).toNat : Int) wr HI.out (by rw [Lib.byteCells_length]; omega) hbw)
          go_wp2_with (go_at_call 37; refine hI1.out.mono ?_)
          rintro e w' ⟨rfl, rfl⟩
          go_wp2_with (go_at_call 51; refine hW.out.mono ?_)
          rintro e w2 ⟨rfl, h2, hb2⟩
          go_wp2
          go_roundw
          case rel =>
            have h1 := H3.out
            have := unqI_next (k := k + 2) hlt2 HL.out hb2 (by omega) h2 h1
            have e2 : ((k + 2 : Nat) : Int) = (k : Int) + 1 + 1 := by omega
            rwa [e2] at this
          case measure => simp [intOf]; omega
        · have hI1 := Lib.hid (inQ_calls ((t[k]'hlt).toNat : Int) wr)
          have hW := Lib.hid (write_byte b b _ ((t[k]'hlt).toNat : Int) wr HI.out (by rw [Lib.byteCells_length]; omega) hbw)
          go_wp2_with (go_at_call 37; refine hI1.out.mono ?_)
          rintro e w' ⟨rfl, rfl⟩
          go_wp2_with (go_at_call 51; refine hW.out.mono ?_)
          rintro e w2 ⟨rfl, h2, hb2⟩
          go_wp2
          go_roundw
          case rel =>
            have h1 := H1.out
            rw [unqG_other c34 c92] at h1
            have := unqI_next (k := k + 1) hlt HL.out hb2 (by omega) h2 h1
            rwa [Int.natCast_add] at this
          case measure => simp [intOf]; omega
end Go.Proofs.YtmfpmnfbcgchjaaDoor.Uq
