/- Plain lemmas on bytes and rounds, used by the plain laws of this seat. -/
import Derived.Test.YtebjbkbjmdnblaaWWords
import Derived.Lib.Strings
import Derived.Laws.BitsAllLaws
namespace Go.Proofs.Ytebjbkbjmdnblaa.Hp
open Go.RowKit Go.Proofs.YtebjbkbjmdnblaaW.PrintWords

/-- A text's bytes. -/
def bs (s : ByteArray) : List UInt8 := s.data.toList
theorem bs_length (s : ByteArray) : (bs s).length = s.size := by simp [bs]
theorem bs_inj {s t : ByteArray} (h : bs s = bs t) : s = t := by
  cases s
  cases t
  simp [bs] at h
  rw [h]
theorem bs_eq {s t : ByteArray} : bs s = bs t ↔ s = t := ⟨bs_inj, fun h => by rw [h]⟩
theorem toList_bs (s : ByteArray) : s.toList = bs s := by exact Lib.toList_data s
theorem wrap_id {x : Int} (h0 : -9223372036854775808 ≤ x) (h1 : x ≤ 9223372036854775807) : wrap64 x = x := by
  unfold wrap64
  omega
theorem drop_cons {s : ByteArray} {i : Nat} {c : UInt8} {cs : List UInt8} (h : (bs s).drop i = c :: cs) : i < s.size ∧ bt s (i : Int) = (c.toNat : Int) ∧ (bs s).drop (i + 1) = cs := by
  have hl : i < (bs s).length := by
    rcases Nat.lt_or_ge i (bs s).length with h1 | h1
    · exact h1
    · rw [List.drop_eq_nil_of_le h1] at h
      cases h
  have h2 := List.drop_eq_getElem_cons hl
  rw [h] at h2
  injection h2 with h3 h4
  have hs : i < s.size := by rw [← bs_length]; exact hl
  refine ⟨hs, ?_, h4.symm⟩
  unfold bt
  rw [dif_pos (by simpa using hs), h3]
  rfl
theorem drop_nil {s : ByteArray} {i : Nat} (h : (bs s).drop i = []) : s.size ≤ i := by
  rw [← bs_length]
  exact List.drop_eq_nil_iff.1 h
theorem and_range (x m : Int) (h0 : 0 ≤ m) (h1 : m < 9223372036854775808) : 0 ≤ bits .and .i64 x m ∧ bits .and .i64 x m ≤ m := by
  obtain ⟨n, rfl⟩ := Int.eq_ofNat_of_zero_le h0
  have hn : n < 9223372036854775808 := by omega
  have hle : (BitVec.ofInt 64 x &&& BitVec.ofInt 64 (n : Int)).toNat ≤ n := by
    rw [BitVec.toNat_and]
    refine Nat.le_trans Nat.and_le_right ?_
    rw [ofInt_u64 n (by omega)]
    exact Nat.le_refl _
  have e : bits .and .i64 x (n : Int) = IntKind.i64.wrap ((BitVec.ofInt 64 x &&& BitVec.ofInt 64 (n : Int)).toNat : Int) := rfl
  rw [e, IntKind.wrap_i64]
  generalize (BitVec.ofInt 64 x &&& BitVec.ofInt 64 (n : Int)).toNat = q at *
  omega
/-- A text of bytes. -/
def ofL (l : List UInt8) : ByteArray := ⟨l.toArray⟩
theorem bs_ofL (l : List UInt8) : bs (ofL l) = l := by simp [bs, ofL]
theorem ofL_bs (s : ByteArray) : ofL (bs s) = s := bs_inj (bs_ofL _)
theorem ofL_size (l : List UInt8) : (ofL l).size = l.length := by rw [← bs_length, bs_ofL]
theorem bs_extract (s : ByteArray) (a b : Nat) : bs (s.extract a b) = ((bs s).drop a).take (b - a) := Lib.extract_data s a b
theorem extract_ofL (s : ByteArray) (a b : Nat) : s.extract a b = ofL (((bs s).drop a).take (b - a)) := by rw [← bs_extract, ofL_bs]
theorem drop_take_all (l : List UInt8) (a n : Nat) (h : n = l.length) : (l.drop a).take (n - a) = l.drop a := by
  rw [List.take_of_length_le]
  rw [List.length_drop, h]
  exact Nat.le_refl _
theorem ofL_inj {l m : List UInt8} (h : ofL l = ofL m) : l = m := by rw [← bs_ofL l, h, bs_ofL]
theorem ofL_eq {l m : List UInt8} : ofL l = ofL m ↔ l = m := ⟨ofL_inj, fun h => by rw [h]⟩
theorem bt_at_nat (s : ByteArray) (i : Nat) (h : i < (bs s).length) : bt s (i : Int) = (((bs s)[i]'h).toNat : Int) := by
  have h2 := drop_cons (s := s) (i := i) (List.drop_eq_getElem_cons h)
  exact h2.2.1
end Go.Proofs.Ytebjbkbjmdnblaa.Hp
