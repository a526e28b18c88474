/- Go's CutPrefix and CutSuffix, as the walks show them: on lists of bytes. -/
import Derived.Test.YtfkebmdfcpnaeaaHp2
import Derived.Test.YtfkebmdfcpnaeaaPLib
set_option linter.unusedVariables false
set_option linter.unusedSimpArgs false
namespace Go.Proofs.Ytfkebmdfcpnaeaa.Hp
open Go.RowKit Go.Proofs.YtfkebmdfcpnaeaaW.PrintWords

def cutP (p l : List UInt8) : List UInt8 × Bool := if l.take p.length = p then (l.drop p.length, true) else (l, false)
def cutS (p l : List UInt8) : List UInt8 × Bool := if p.length ≤ l.length ∧ l.drop (l.length - p.length) = p then (l.take (l.length - p.length), true) else (l, false)

theorem hasPrefix_f (s p : ByteArray) : stringslite_HasPrefix.f s p = some (decide ((bs s).take (bs p).length = bs p)) := by
  unfold stringslite_HasPrefix.f
  by_cases h : (s.size : Int) ≥ (p.size : Int)
  · rw [if_pos h, if_pos (by omega), if_pos (by omega), toList_bs, toList_bs, bs_extract]
    simp only [List.drop_zero, Int.toNat_natCast, Nat.sub_zero, bs_length]
    congr 1
    rw [Bool.eq_iff_iff]
    simp
  · rw [if_neg h]
    have : ¬ (bs s).take (bs p).length = bs p := fun e => by
      have := congrArg List.length e
      rw [List.length_take, bs_length, bs_length] at this
      omega
    rw [decide_eq_false this]
theorem cutPrefix_f (s p : ByteArray) : strings_CutPrefix.f s p = some (ofL (cutP (bs p) (bs s)).1, (cutP (bs p) (bs s)).2) := by
  unfold strings_CutPrefix.f stringslite_CutPrefix.f cutP
  rw [hasPrefix_f]
  simp only [Option.bind_some]
  by_cases h : (bs s).take (bs p).length = bs p
  · have hl : p.size ≤ s.size := by
      have := congrArg List.length h
      rw [List.length_take, bs_length, bs_length] at this
      omega
    simp only [decide_eq_true h, if_pos h, if_true]
    rw [if_pos (by omega), if_pos (by omega), extract_ofL]
    simp only [Option.bind_some, Int.toNat_natCast]
    rw [drop_take_all _ _ _ (bs_length s).symm, bs_length]
  · simp only [decide_eq_false h, if_neg h]
    simp [ofL_bs]
theorem hasSuffix_f (s p : ByteArray) (hs : s.size ≤ 140737488351232) : stringslite_HasSuffix.f s p = some (decide ((bs p).length ≤ (bs s).length ∧ (bs s).drop ((bs s).length - (bs p).length) = bs p)) := by
  unfold stringslite_HasSuffix.f
  rw [bs_length, bs_length]
  by_cases h : (s.size : Int) ≥ (p.size : Int)
  · rw [if_pos h, wrap_id (by omega) (by omega), if_pos (by omega), if_pos (by omega), toList_bs, toList_bs, bs_extract]
    have e : ((s.size : Int) - (p.size : Int)).toNat = s.size - p.size := by omega
    rw [e, drop_take_all _ _ _ (bs_length s).symm]
    congr 1
    rw [Bool.eq_iff_iff]
    simp only [beq_iff_eq, decide_eq_true_eq]
    exact ⟨fun h1 => ⟨by omega, h1⟩, fun h1 => h1.2⟩
  · rw [if_neg h, decide_eq_false (fun h1 => by omega)]
theorem cutSuffix_f (s p : ByteArray) (hs : s.size ≤ 140737488351232) : strings_CutSuffix.f s p = some (ofL (cutS (bs p) (bs s)).1, (cutS (bs p) (bs s)).2) := by
  unfold strings_CutSuffix.f stringslite_CutSuffix.f cutS
  rw [hasSuffix_f s p hs]
  simp only [Option.bind_some]
  by_cases h : (bs p).length ≤ (bs s).length ∧ (bs s).drop ((bs s).length - (bs p).length) = bs p
  · have hl : p.size ≤ s.size := by rw [← bs_length, ← bs_length s]; exact h.1
    simp only [decide_eq_true h, if_pos h, if_true]
    rw [wrap_id (by omega) (by omega), if_pos (by omega), if_pos (by omega), extract_ofL]
    have e : ((s.size : Int) - (p.size : Int)).toNat = s.size - p.size := by omega
    simp only [Option.bind_some, e, List.drop_zero, Nat.sub_zero, bs_length]
  · simp only [decide_eq_false h, if_neg h]
    simp [ofL_bs]
end Go.Proofs.Ytfkebmdfcpnaeaa.Hp
