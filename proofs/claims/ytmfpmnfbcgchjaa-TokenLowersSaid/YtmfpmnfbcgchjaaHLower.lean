/- package token's Lower: what it answers (each byte A to Z made small), in the print's form. -/
import Derived.Test.YtmfpmnfbcgchjaaProg
import Derived.WalkKit
import Derived.LoopTactic
import Derived.Lib.Hide
import Derived.Lib.ConvBytes
import Derived.Sort.Row
import Derived.Test.YtmfpmnfbcgchjaaWWords
set_option linter.unusedVariables false
set_option linter.unusedSimpArgs false
namespace Go.Proofs.Ytmfpmnfbcgchjaa.Hp
open Go.RowKit Go.Sort Go.Proofs.YtmfpmnfbcgchjaaW.PrintWords

/-- A byte's small letter. -/
def lowB (c : UInt8) : UInt8 := if 65 ≤ c ∧ c ≤ 90 then c ||| 32 else c
/-- The bytes as numbers: the first k made small. -/
def mixL (l : List UInt8) (k : Nat) : List Int := ((l.take k).map fun c => ((lowB c).toNat : Int)) ++ ((l.drop k).map fun c => (c.toNat : Int))
theorem mixL_length (l : List UInt8) (k : Nat) : (mixL l k).length = l.length := by simp [mixL]; omega
theorem mixL_zero (l : List UInt8) : mixL l 0 = l.map fun c => (c.toNat : Int) := by simp [mixL]
theorem mixL_all (l : List UInt8) : mixL l l.length = l.map fun c => ((lowB c).toNat : Int) := by simp [mixL]
theorem mixL_at (l : List UInt8) (k : Nat) (hk : k < l.length) : (mixL l k)[k]? = some ((l[k]'hk).toNat : Int) := by
  unfold mixL
  rw [List.getElem?_append_right (by simp; omega)]
  simp only [List.length_map, List.length_take, List.getElem?_map, List.getElem?_drop]
  rw [show k + (k - min k l.length) = k from by omega, List.getElem?_eq_getElem hk]
  rfl
theorem mixL_set (l : List UInt8) (k : Nat) (hk : k < l.length) : (mixL l k).set k ((lowB (l[k]'hk)).toNat : Int) = mixL l (k + 1) := by
  unfold mixL
  rw [List.take_succ_eq_append_getElem hk, List.drop_eq_getElem_cons hk, List.map_cons, List.map_append, List.append_assoc,
    List.set_append_right _ _ (by simp; omega)]
  simp only [List.length_map, List.length_take]
  rw [show k - min k l.length = 0 from by omega]
  simp
theorem mixL_same (l : List UInt8) (k : Nat) (hk : k < l.length) (h : lowB (l[k]'hk) = l[k]'hk) : mixL l k = mixL l (k + 1) := by
  rw [← mixL_set l k hk, h]
  have := mixL_at l k hk
  rw [List.getElem?_eq_some_iff] at this
  obtain ⟨h1, h2⟩ := this
  rw [← h2, List.set_getElem_self]
def lowerS (s : ByteArray) : ByteArray := ⟨(s.data.toList.map lowB).toArray⟩
theorem lowerS_size (s : ByteArray) : (lowerS s).size = s.size := by
  show (s.data.toList.map lowB).toArray.size = s.data.size
  simp
set_option maxRecDepth 10000 in
theorem strOf_low (s : ByteArray) : strOfNums (mixL s.data.toList s.data.toList.length) = lowerS s := by
  rw [mixL_all]
  unfold strOfNums lowerS
  rw [List.map_map]
  congr 2
  refine List.map_congr_left fun c _ => ?_
  show UInt8.ofNat (((lowB c).toNat : Int)).toNat = lowB c
  rw [Int.toNat_natCast, UInt8.ofNat_toNat]

theorem holds_conv (w : World) (s : ByteArray) (e : Nat) : Holds (Value.int .u8) (Lib.bytesWorld w e s) w.heap.size 0 (mixL s.data.toList 0).toArray := by
  intro j hj
  have hl : j < s.size := by simpa [mixL_length] using hj
  rw [Nat.zero_add]
  refine ⟨?_, ?_⟩
  · rw [Lib.bytesWorld_cell w e s j hl]
    have hj' : j < s.data.toList.length := by simpa using hl
    have hg : (mixL s.data.toList 0).toArray[j]! = (((s.data.toList)[j]'hj').toNat : Int) := by
      rw [mixL_zero, getElem!_pos _ _ (by simpa using hl)]
      simp
    rw [hg, List.getD_eq_getElem?_getD, List.getElem?_eq_getElem hj']
    rfl
  · have h := Lib.bytesWorld_at_new w e s
    have hz : s.size ≤ (Lib.bytesCells w e s).size := by
      show s.data.size ≤ _
      unfold Lib.bytesCells
      rw [Array.size_append, Array.size_map]
      omega
    unfold World.frozen?
    simp only [h]
    simp
    omega
theorem below_conv (w : World) (s : ByteArray) (e : Nat) : Below w.heap.size w (Lib.bytesWorld w e s) :=
  ⟨by simp [Lib.bytesWorld, World.freeze, World.alloc, World.drew, -World.alloc_eq, -World.drew_eq],
   by simp [Lib.bytesWorld, World.freeze, World.alloc, World.drew, -World.alloc_eq, -World.drew_eq],
   by simp [Lib.bytesWorld, World.freeze, World.alloc, World.drew, -World.alloc_eq, -World.drew_eq],
   by rw [Lib.bytesWorld_size]; omega, fun k hk => Lib.bytesWorld_at_old w e s k hk⟩
theorem or_low : ∀ n : Fin 256, 65 ≤ n.val → n.val ≤ 90 → bits BinOp.or .u8 ((n.val : Nat) : Int) 32 = (((lowB (UInt8.ofNat n.val)).toNat : Nat) : Int) := by decide +kernel
theorem or_low' (c : UInt8) (h1 : (65 : Int) ≤ (c.toNat : Int)) (h2 : (c.toNat : Int) ≤ 90) : bits BinOp.or .u8 (c.toNat : Int) 32 = ((lowB c).toNat : Int) := by
  have := or_low ⟨c.toNat, c.toNat_lt⟩ (by simp; omega) (by simp; omega)
  simpa using this
theorem low_same (c : UInt8) (h : ¬ ((65 : Int) ≤ (c.toNat : Int) ∧ (c.toNat : Int) ≤ 90)) : lowB c = c := by
  unfold lowB
  rw [if_neg]
  rintro ⟨h1, h2⟩
  exact h ⟨by have := UInt8.le_iff_toNat_le.1 h1; simp at this; omega, by have := UInt8.le_iff_toNat_le.1 h2; simp at this; omega⟩
theorem putRow_below (W1 : World) (B : Nat) (w : World) (d : Array Int) (hb : Below B w W1) (hB : B = w.heap.size) : Below w.heap.size w (putRow (Value.int .u8) W1 B 0 d) :=
  ⟨hb.os, hb.tape, hb.output, by rw [size_putRow]; exact hb.size, fun k hk => by
    rw [← hb.block k (by omega)]
    unfold putRow mapBlock
    simp only [Array.getElem?_modify]
    rw [if_neg (by omega)]⟩

theorem putRow_set' (W1 : World) (B : Nat) (d : Array Int) (i : Nat) (x : Int) (hi : i < d.size) : (putRow (Value.int .u8) W1 B 0 d).setCell ⟨B, i, none⟩ (.int .u8 x) = putRow (Value.int .u8) W1 B 0 (d.setIfInBounds i x) := by
  have := putRow_set (Value.int .u8) W1 B 0 d i x hi
  rw [Nat.zero_add] at this
  exact this

set_option maxHeartbeats 1000000 in
set_option maxRecDepth 100000 in
theorem lower_any (s : ByteArray) (w : World) (hs : s.size ≤ 140737488351232) :
    Calls Try.prog 5 #[.string s] w fun e w' => e = .returned (.string (lowerS s)) ∧ Below w.heap.size w w' := by
  have hcv := Lib.run_convert_string_bytes (P := Try.prog) w 9 24 5 s Try.underlying9 Try.underlying24 Try.underlying5
  have HH := Lib.hid (holds_conv w s 5)
  have HB := Lib.hid (below_conv w s 5)
  go_enter Try.func5, Try.ntmps5
  go_wp2_with fail
  clear hcv
  generalize hB : w.heap.size = B at *
  generalize hC : grownCap w s.size 0 5 = C at *
  generalize hW : Lib.bytesWorld w 5 s = W1 at *
  go_loopw [4, 5, 10] (fun _ _ i w' => ∃ k : Nat, k ≤ s.size ∧ i = .int .i64 k ∧ w' = putRow (Value.int .u8) W1 B 0 (mixL s.data.toList k).toArray) (fun _ _ i _ => s.size - (intOf i).toNat)
  case atStart => exact ⟨0, Nat.zero_le _, rfl, (putRow_self _ _ _ _ _ HH.out).symm⟩
  case round =>
    obtain ⟨k, hk, rfl, hwr⟩ := hrel
    have HWR := Lib.hid hwr
    clear hwr
    by_cases hlt : k < s.size
    · have hl : k < s.data.toList.length := by simpa using hlt
      obtain ⟨c, hc⟩ : ∃ c, s.data.toList[k]'hl = c := ⟨_, rfl⟩
      have hsz : k < (mixL s.data.toList k).toArray.size := by simpa [mixL_length] using hlt
      have hh := holds_putRow (Value.int .u8) W1 B 0 (mixL s.data.toList 0).toArray (mixL s.data.toList k).toArray HH.out (by simp [mixL_length]) k hsz
      rw [← HWR.out, Nat.zero_add] at hh
      have hat : (mixL s.data.toList k).toArray[k]! = ((c.toNat : Nat) : Int) := by
        have h2 := mixL_at s.data.toList k hl
        rw [hc] at h2
        rw [getElem!_pos (mixL s.data.toList k).toArray k hsz]
        obtain ⟨_, h3⟩ := List.getElem?_eq_some_iff.1 h2
        simpa using h3
      rw [hat] at hh
      obtain ⟨hcell, hfr⟩ := hh
      have hcn := c.toNat_lt
      have HC := Lib.hid hc
      clear hc
      by_cases hup : (65 : Int) ≤ (c.toNat : Int) ∧ (c.toNat : Int) ≤ 90
      · obtain ⟨hu1, hu2⟩ := hup
        go_wp2
        refine ⟨⟨k + 1, by omega, by go_num, ?_⟩, by simp [intOf]; omega⟩
        rw [or_low' c hu1 hu2, HWR.out, putRow_set' W1 B _ k _ hsz, List.setIfInBounds_toArray, ← HC.out, mixL_set _ _ hl]
      · have hnext : wr = putRow (Value.int .u8) W1 B 0 (mixL s.data.toList (k + 1)).toArray := by
          rw [← mixL_same s.data.toList k hl (by rw [HC.out]; exact low_same c hup)]
          exact HWR.out
        have HN := Lib.hid hnext
        clear hnext
        by_cases hu1 : (65 : Int) ≤ (c.toNat : Int)
        all_goals
          have hu2 : ¬ ((65 : Int) ≤ (c.toNat : Int) ∧ (c.toNat : Int) ≤ 90) := hup
          clear hup
          have hu3 : (65 : Int) ≤ (c.toNat : Int) → 90 < (c.toNat : Int) := fun h => by omega
          clear hu2
        · have hu4 := hu3 hu1
          clear hu3
          go_wp2
          exact ⟨⟨k + 1, by omega, by go_num, HN.out⟩, by simp [intOf]; omega⟩
        · clear hu3
          go_wp2
          exact ⟨⟨k + 1, by omega, by go_num, HN.out⟩, by simp [intOf]; omega⟩
    · obtain rfl : k = s.size := by omega
      have hst : (convert 24 9 (.slice (some ⟨B, 0, none⟩) s.size C)).run Try.prog wr = .ok (.string (lowerS s)) wr := by
        have hl : s.data.toList.length = s.size := by simp
        rw [← strOf_low s, hl]
        refine string_of_reads Try.underlying24 Try.underlying5 Try.underlying9 ⟨by rw [mixL_length]; exact hl, by omega, fun _ => ⟨_, rfl, fun j hj => ?_⟩⟩
        have hsz : j < (mixL s.data.toList s.size).toArray.size := by simpa [mixL_length] using hj
        have hh := (holds_putRow (Value.int .u8) W1 B 0 (mixL s.data.toList 0).toArray (mixL s.data.toList s.size).toArray HH.out (by simp [mixL_length]) j hsz).1
        rw [← HWR.out] at hh
        have hadd : (Addr.mk B 0 none).add j = ⟨B, 0 + j, none⟩ := by
          unfold Addr.add
          split <;> simp_all
        rw [hadd, hh, getElem!_pos (mixL s.data.toList s.size).toArray j hsz, List.getD_eq_getElem?_getD, List.getElem?_eq_getElem (by simpa using hsz)]
        simp
      go_wp2
      go_ret
      exact ⟨rfl, by rw [HWR.out]; subst hB; exact putRow_below W1 _ w _ HB.out rfl⟩

def token_Lower.f (a0 : ByteArray) : Option ByteArray := if a0.size ≤ 140737488351232 then some (lowerS a0) else none
theorem token_Lower.calls (a0 : ByteArray) (r : ByteArray) (w : World) (h : token_Lower.f a0 = some r) :
    Calls Try.prog 5 #[.string a0] w fun e w' => e = .returned (.string r) ∧ Below w.heap.size w w' := by
  unfold token_Lower.f at h
  split at h
  · rename_i hs
    injection h with h
    subst h
    exact lower_any a0 w hs
  · cases h
end Go.Proofs.Ytmfpmnfbcgchjaa.Hp
