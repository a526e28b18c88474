/- What a target asks for, and its host: the program's Path, and the document's. -/
import Derived.Test.YtbcnhkgiabobiaaPTarget
import Derived.Test.YtbcnhkgiabobiaaPLower
import Derived.Test.YtbcnhkgiabobiaaHLib
import Derived.Test.YtbcnhkgiabobiaaHp1
import Derived.Test.YtbcnhkgiabobiaaHp3
set_option linter.unusedVariables false
set_option linter.unusedSimpArgs false
namespace Go.Proofs.Ytbcnhkgiabobiaa.Hp
open Go.RowKit Go.Proofs.YtbcnhkgiabobiaaW.PrintWords

def notSep (c : UInt8) : Bool := c != 47 && c != 63
def tailS (t : List UInt8) : List UInt8 := if t.head? = some 47 then t else 47 :: t
def httpL : List UInt8 := [104, 116, 116, 112, 58, 47, 47]
/-- Behind the scheme: path, host; false: there is no host. -/
def restS3 (r : List UInt8) : List UInt8 × List UInt8 × Bool := if r.takeWhile notSep = [] then ([], [], false) else (tailS (r.dropWhile notSep), r.takeWhile notSep, true)
def pathS (l : List UInt8) : List UInt8 × List UInt8 × Bool :=
  if targetS l = false then ([], [], false) else if l.head? = some 47 ∨ l = [42] then (l, [], true)
  else if l.length ≤ 7 ∨ (l.take 7).map lowB ≠ httpL then ([], [], false) else restS3 (l.drop 7)
def triB (t : List UInt8 × List UInt8 × Bool) : ByteArray × ByteArray × Bool := (ofL t.1, ofL t.2.1, t.2.2)

def pickSep (i q : Int) : Int := if i < 0 ∨ (q ≥ 0 ∧ q < i) then q else i
theorem pick_ge (i q : Int) (g1 : -1 ≤ i) (g2 : -1 ≤ q) : -1 ≤ pickSep i q := by
  unfold pickSep
  split <;> omega
theorem pick_shift (i q : Int) (g1 : -1 ≤ i) (g2 : -1 ≤ q) : pickSep (if i == -1 then -1 else i + 1) (if q == -1 then -1 else q + 1) = (if pickSep i q == -1 then -1 else pickSep i q + 1) := by
  unfold pickSep
  simp only [beq_iff_eq]
  by_cases a1 : i = -1
  · by_cases a2 : q = -1
    · subst a1 a2; rfl
    · simp only [if_pos a1, if_neg a2]
      rw [if_pos (show ((-1 : Int) < 0 ∨ (q + 1 ≥ 0 ∧ q + 1 < -1)) by omega), if_pos (show (i < 0 ∨ (q ≥ 0 ∧ q < i)) by omega), if_neg a2]
  · by_cases a2 : q = -1
    · simp only [if_neg a1, if_pos a2]
      rw [if_neg (show ¬ (i + 1 < 0 ∨ ((-1 : Int) ≥ 0 ∧ -1 < i + 1)) by omega), if_neg (show ¬ (i < 0 ∨ q ≥ 0 ∧ q < i) by omega), if_neg a1]
    · simp only [if_neg a1, if_neg a2]
      by_cases a3 : i < 0 ∨ q ≥ 0 ∧ q < i
      · rw [if_pos (show (i + 1 < 0 ∨ (q + 1 ≥ 0 ∧ q + 1 < i + 1)) by omega), if_pos a3, if_neg a2]
      · rw [if_neg (show ¬ (i + 1 < 0 ∨ (q + 1 ≥ 0 ∧ q + 1 < i + 1)) by omega), if_neg a3, if_neg a1]
theorem sep_len (l : List UInt8) : (if pickSep (Lib.indexByte l 47) (Lib.indexByte l 63) < 0 then (l.length : Int) else pickSep (Lib.indexByte l 47) (Lib.indexByte l 63)) = ((l.takeWhile notSep).length : Int) := by
  induction l with
  | nil => rfl
  | cons c cs ih =>
    have g1 := Lib.indexByte_ge cs 47
    have g2 := Lib.indexByte_ge cs 63
    by_cases h1 : c = 47
    · subst h1
      have e1 : Lib.indexByte (47 :: cs) 47 = 0 := by simp [Lib.indexByte]
      have e2 : Lib.indexByte (47 :: cs) 63 = if Lib.indexByte cs 63 == -1 then -1 else Lib.indexByte cs 63 + 1 := by simp [Lib.indexByte]
      have e3 : (47 :: cs).takeWhile notSep = [] := by simp [notSep]
      rw [e1, e2, e3]
      unfold pickSep
      by_cases h2 : Lib.indexByte cs 63 = -1
      · simp [h2]
      · have : (Lib.indexByte cs 63 == -1) = false := by simpa using h2
        rw [this]
        simp only [Bool.false_eq_true, if_false]
        rw [if_neg (show ¬ ((0 : Int) < 0 ∨ (Lib.indexByte cs 63 + 1 ≥ 0 ∧ Lib.indexByte cs 63 + 1 < 0)) by omega)]
        simp
    · by_cases h3 : c = 63
      · subst h3
        have e1 : Lib.indexByte (63 :: cs) 63 = 0 := by simp [Lib.indexByte]
        have e2 : Lib.indexByte (63 :: cs) 47 = if Lib.indexByte cs 47 == -1 then -1 else Lib.indexByte cs 47 + 1 := by simp [Lib.indexByte]
        have e3 : (63 :: cs).takeWhile notSep = [] := by simp [notSep]
        rw [e1, e2, e3]
        unfold pickSep
        by_cases h2 : Lib.indexByte cs 47 = -1
        · simp [h2]
        · have : (Lib.indexByte cs 47 == -1) = false := by simpa using h2
          rw [this]
          simp only [Bool.false_eq_true, if_false]
          rw [if_pos (show (Lib.indexByte cs 47 + 1 < 0 ∨ ((0 : Int) ≥ 0 ∧ 0 < Lib.indexByte cs 47 + 1)) by omega)]
          rfl
      · have e1 : Lib.indexByte (c :: cs) 47 = if Lib.indexByte cs 47 == -1 then -1 else Lib.indexByte cs 47 + 1 := by simp [Lib.indexByte, h1]
        have e2 : Lib.indexByte (c :: cs) 63 = if Lib.indexByte cs 63 == -1 then -1 else Lib.indexByte cs 63 + 1 := by simp [Lib.indexByte, h3]
        have e3 : (c :: cs).takeWhile notSep = c :: cs.takeWhile notSep := List.takeWhile_cons_of_pos (by simp [notSep, h1, h3])
        rw [e1, e2, e3]
        simp only [List.length_cons]
        generalize Lib.indexByte cs 47 = i at *
        generalize Lib.indexByte cs 63 = q at *
        rw [pick_shift i q g1 g2]
        have g3 := pick_ge i q g1 g2
        generalize pickSep i q = m at *
        simp only [beq_iff_eq]
        by_cases a : m = -1
        · rw [if_pos a, if_pos (by omega)]
          rw [if_pos (by omega)] at ih
          omega
        · rw [if_neg a, if_neg (by omega)]
          rw [if_neg (by omega)] at ih
          omega
theorem hasPre_f (s p : ByteArray) : strings_HasPrefix.f s p = some (decide ((bs s).take (bs p).length = bs p)) := by
  unfold strings_HasPrefix.f stringslite_HasPrefix.f
  by_cases h : (s.size : Int) ≥ (p.size : Int)
  · rw [if_pos h, if_pos (by omega), if_pos (by omega), toList_bs, toList_bs, bs_extract]
    simp only [List.drop_zero, Int.toNat_natCast, Nat.sub_zero, bs_length, Option.bind_some]
    congr 1
    rw [Bool.eq_iff_iff]
    simp
  · rw [if_neg h]
    have : ¬ (bs s).take (bs p).length = bs p := fun e => by
      have := congrArg List.length e
      rw [List.length_take, bs_length, bs_length] at this
      omega
    rw [decide_eq_false this]
    rfl
theorem same_f (s t : ByteArray) (hs : s.size ≤ 140737488351232) (ht : t.size ≤ 140737488351232) : token_Same.f s t = some (decide ((bs s).map lowB = (bs t).map lowB)) := by
  unfold token_Same.f
  rw [lower_f s hs, lower_f t ht]
  simp only [Option.bind_some]
  rw [toList_bs, toList_bs, bs_ofL, bs_ofL]
  by_cases h : (s.size : Int) = (t.size : Int)
  · rw [if_pos h]
    congr 1
    rw [Bool.eq_iff_iff]
    simp
  · rw [if_neg h]
    rw [decide_eq_false]
    intro e
    have := congrArg List.length e
    rw [List.length_map, List.length_map, bs_length, bs_length] at this
    omega
theorem take_tw (l : List UInt8) : l.take (l.takeWhile notSep).length = l.takeWhile notSep := by
  have := List.takeWhile_append_dropWhile (p := notSep) (l := l)
  conv => lhs; rw [← this]
  rw [List.take_left']
  simp [List.takeWhile_append_dropWhile]
theorem drop_tw (l : List UInt8) : l.drop (l.takeWhile notSep).length = l.dropWhile notSep := by
  have := List.takeWhile_append_dropWhile (p := notSep) (l := l)
  conv => lhs; arg 2; rw [← this]
  rw [List.drop_left']
  simp [List.takeWhile_append_dropWhile]
theorem head_take (l : List UInt8) (c : UInt8) : l.take ([c] : List UInt8).length = [c] ↔ l.head? = some c := by
  cases l with
  | nil => simp
  | cons a m => simp
theorem tw_le (l : List UInt8) : (l.takeWhile notSep).length ≤ l.length := by
  have := congrArg List.length (List.takeWhile_append_dropWhile (p := notSep) (l := l))
  rw [List.length_append] at this
  omega

theorem path_j3 (r : List UInt8) (hr : r.length ≤ 140737488351232) : Ev (fun k => line_Path.j3 k (ofL r) ((r.takeWhile notSep).length : Int)) (triB (restS3 r)) := by
  have hle := tw_le r
  refine Ev.step (f := fun _ => some (triB (restS3 r))) (fun k => ?_) (Ev.now _)
  simp only [line_Path.j3]
  unfold restS3
  by_cases h0 : r.takeWhile notSep = []
  · rw [if_pos (by rw [h0]; rfl), if_pos h0]
    rfl
  · have h1 : (r.takeWhile notSep).length ≠ 0 := fun e => h0 (List.length_eq_zero_iff.1 e)
    rw [if_neg (by omega), if_neg h0, if_pos (by omega), if_pos (by rw [ofL_size]; omega)]
    simp only [Option.bind_some, Int.toNat_natCast]
    rw [hasPre_f, extract_ofL, extract_ofL, bs_ofL, bs_ofL, ofL_size, drop_take_all _ _ _ rfl, List.drop_zero, Nat.sub_zero, drop_tw, take_tw]
    have e : bs ⟨#[47]⟩ = [47] := rfl
    rw [e]
    simp only [Option.bind_some]
    unfold triB tailS
    by_cases h2 : (r.dropWhile notSep).head? = some 47
    · rw [if_pos h2, decide_eq_true ((head_take _ _).2 h2), if_pos rfl]
    · rw [if_neg h2, decide_eq_false (fun e => h2 ((head_take _ _).1 e)), if_neg (by simp), ofL_size, if_pos]
      · rw [append_ofL, bs_ofL, e]
        rfl
      · have := congrArg List.length (List.takeWhile_append_dropWhile (p := notSep) (l := r))
        rw [List.length_append] at this
        omega

theorem path_j0 (s : ByteArray) (hs : s.size ≤ 140737488351232) (b : Bool) : Ev (fun k => line_Path.j0 k s b)
    (triB (if b = true then (bs s, [], true) else if (bs s).length ≤ 7 ∨ ((bs s).take 7).map lowB ≠ httpL then ([], [], false) else restS3 ((bs s).drop 7))) := by
  cases b with
  | true =>
    refine Ev.step (f := fun _ => some (s, ⟨#[]⟩, true)) (fun k => ?_) ?_
    · simp only [line_Path.j0, if_true]
    · simp only [if_true, triB, ofL_bs]
      exact Ev.now _
  | false =>
    have hz := bs_length s
    by_cases h7 : (s.size : Int) ≤ 7
    · refine Ev.step (f := fun _ => some (⟨#[]⟩, ⟨#[]⟩, false)) (fun k => ?_) ?_
      · simp only [line_Path.j0]
        rw [if_neg (by simp), if_pos h7]
      · rw [if_neg (by simp), if_pos (.inl (by omega))]
        exact Ev.now _
    · have e7 : s.extract 0 7 = ofL ((bs s).take 7) := by rw [extract_ofL]; rfl
      have er : s.extract 7 s.size = ofL ((bs s).drop 7) := by rw [extract_ofL, drop_take_all _ _ _ hz.symm]
      have hsame : token_Same.f (s.extract 0 7) ⟨#[104, 116, 116, 112, 58, 47, 47]⟩ = some (decide (((bs s).take 7).map lowB = httpL)) := by
        rw [e7, same_f _ _ (by rw [ofL_size, List.length_take]; omega) (by decide), bs_ofL]
        have : (bs ⟨#[104, 116, 116, 112, 58, 47, 47]⟩).map lowB = httpL := by decide
        rw [this]
      rw [if_neg (by simp)]
      by_cases hh : ((bs s).take 7).map lowB = httpL
      · rw [if_neg (by rintro (h | h); omega; exact h hh)]
        have hr : ((bs s).drop 7).length ≤ 140737488351232 := by rw [List.length_drop]; omega
        have key : Ev (fun k => line_Path.j2 k (ofL ((bs s).drop 7)) (pickSep (Lib.indexByte ((bs s).drop 7) 47) (Lib.indexByte ((bs s).drop 7) 63))) (triB (restS3 ((bs s).drop 7))) := by
          refine Ev.step (fun k => ?_) (path_j3 _ hr)
          have hsep := sep_len ((bs s).drop 7)
          simp only [line_Path.j2]
          rw [← hsep, ofL_size]
          split <;> rfl
        refine Ev.step (fun k => ?_) (Ev.step (f := fun k => line_Path.j2 k (ofL ((bs s).drop 7)) (pickSep (Lib.indexByte ((bs s).drop 7) 47) (Lib.indexByte ((bs s).drop 7) 63))) (g := fun k => line_Path.j1 k (ofL ((bs s).drop 7)) (Lib.indexByte ((bs s).drop 7) 47) (Lib.indexByte ((bs s).drop 7) 63) (decide (Lib.indexByte ((bs s).drop 7) 47 < 0 ∨ (Lib.indexByte ((bs s).drop 7) 63 ≥ 0 ∧ Lib.indexByte ((bs s).drop 7) 63 < Lib.indexByte ((bs s).drop 7) 47)))) (fun k => ?_) key)
        · simp only [line_Path.j0]
          rw [if_neg (by simp), if_neg h7, if_pos (by omega), if_pos (by omega), hsame, decide_eq_true hh]
          simp only [Option.bind_some, if_true, er]
          unfold strings_IndexByte.f
          simp only [Option.bind_some]
          rw [show (ofL ((bs s).drop 7)).data.toList = (bs s).drop 7 from bs_ofL _, show (Int.toNat 47).toUInt8 = 47 from rfl, show (Int.toNat 63).toUInt8 = 63 from rfl]
          generalize Lib.indexByte ((bs s).drop 7) 47 = i
          generalize Lib.indexByte ((bs s).drop 7) 63 = q
          by_cases a1 : i < 0
          · rw [if_pos a1, decide_eq_true (.inl a1)]
          · rw [if_neg a1]
            by_cases a2 : q ≥ 0
            · rw [if_pos a2]
              congr 1
              rw [decide_eq_decide]
              exact ⟨fun h => .inr ⟨a2, h⟩, fun h => by omega⟩
            · rw [if_neg a2, decide_eq_false (by omega)]
        · simp only [line_Path.j1]
          unfold pickSep
          by_cases a : Lib.indexByte ((bs s).drop 7) 47 < 0 ∨ (Lib.indexByte ((bs s).drop 7) 63 ≥ 0 ∧ Lib.indexByte ((bs s).drop 7) 63 < Lib.indexByte ((bs s).drop 7) 47)
          · rw [decide_eq_true a, if_pos rfl, if_pos a]
          · rw [decide_eq_false a, if_neg (by simp), if_neg a]
      · rw [if_pos (.inr hh)]
        refine Ev.step (f := fun _ => some (⟨#[]⟩, ⟨#[]⟩, false)) (fun k => ?_) (Ev.now _)
        simp only [line_Path.j0]
        rw [if_neg (by simp), if_neg h7, if_pos (by omega), if_pos (by omega), hsame, decide_eq_false hh]
        simp

theorem head_bt (s : ByteArray) (h : 0 < s.size) (n : Nat) (c : UInt8) (hc : c.toNat = n) : (bt s 0 = (n : Int)) ↔ (bs s).head? = some c := by
  have hl : 0 < (bs s).length := by rw [bs_length]; exact h
  have e := bt_at_nat s 0 hl
  rw [show ((0 : Nat) : Int) = 0 from rfl] at e
  rw [e, List.head?_eq_getElem?, List.getElem?_eq_getElem hl]
  constructor
  · intro h2
    congr 1
    apply UInt8.toNat_inj.1
    omega
  · intro h2
    injection h2 with h2
    rw [h2]
    omega
theorem path_ev (s : ByteArray) (hs : s.size ≤ 140737488351232) : Ev (fun k => line_Path.f k s) (triB (pathS (bs s))) := by
  unfold line_Path.f pathS
  refine Ev.bind (target_ev s hs) ?_
  by_cases ht : targetS (bs s) = true
  · have hpos : 0 < s.size := by
      rw [← bs_length]
      rcases Nat.eq_zero_or_pos (bs s).length with h | h
      · rw [List.length_eq_zero_iff.1 h] at ht
        cases ht
      · exact h
    simp only [if_pos ht]
    rw [if_neg (by rw [ht]; simp)]
    simp only [if_pos (show (0 : Int) < (s.size : Int) by omega)]
    by_cases h1 : bt s 0 = 47
    · simp only [if_pos h1]
      have h2 := (head_bt s hpos 47 47 rfl).1 h1
      rw [if_pos (.inl h2)]
      exact path_j0 s hs true
    · simp only [if_neg h1]
      have h2 : ¬ (bs s).head? = some 47 := fun h => h1 ((head_bt s hpos 47 47 rfl).2 h)
      rw [toList_bs]
      by_cases h3 : bs s = [42]
      · rw [if_pos (.inr h3)]
        have := path_j0 s hs true
        simpa [h3] using this
      · rw [if_neg (by rintro (h | h); exact h2 h; exact h3 h)]
        have e : (bs s == [42]) = false := by simpa using h3
        rw [e]
        exact path_j0 s hs false
  · have hf : targetS (bs s) = false := by simpa using ht
    rw [hf]
    simp only [if_true, Bool.false_eq_true, if_false]
    exact Ev.now _

theorem tail_size (s : ByteArray) (i : Nat) (hi : i ≤ s.size) : s.extract i s.size = ofL ((bs s).drop i) := by
  rw [extract_ofL, drop_take_all _ _ _ (bs_length s).symm]
theorem ref_path_j3 (s : ByteArray) (hs : s.size ≤ 140737488351232) (i : Nat) (h7 : 7 ≤ i) (hi : i ≤ s.size) : Ev (fun k => gatepostref03_Path.j3 k s (i : Int))
    (triB (if i = 7 then ([], [], false) else (tailS ((bs s).drop i), ((bs s).drop 7).take (i - 7), true))) := by
  refine Ev.step (f := fun _ => some (triB (if i = 7 then ([], [], false) else (tailS ((bs s).drop i), ((bs s).drop 7).take (i - 7), true)))) (fun k => ?_) (Ev.now _)
  simp only [gatepostref03_Path.j3]
  by_cases e : i = 7
  · rw [if_pos (by omega), if_pos e]
    rfl
  · rw [if_neg (by omega), if_neg e, if_pos (by omega), if_pos (by omega)]
    simp only [Option.bind_some, Int.toNat_natCast]
    have hT := tail_size s i hi
    have hl : ((bs s).drop i).length ≤ 140737488351232 := by rw [List.length_drop, bs_length]; omega
    have e7 : s.extract 7 i = ofL (((bs s).drop 7).take (i - 7)) := extract_ofL s 7 i
    rw [hT, e7]
    generalize (bs s).drop i = t at *
    unfold triB tailS
    rw [toList_bs, bs_ofL]
    cases t with
    | nil =>
      rw [if_pos rfl, if_pos (by rw [ofL_size]; simp), if_pos (by omega)]
      rw [if_neg (by simp), append_ofL, bs_ofL]
      rfl
    | cons c cs =>
      rw [if_neg (by simp), if_pos (by rw [ofL_size]; simp)]
      have hb : bt (ofL (c :: cs)) 0 = 47 ↔ (c :: cs).head? = some 47 := by
        have h0 := head_bt (ofL (c :: cs)) (by rw [ofL_size]; simp) 47 47 rfl
        rw [bs_ofL] at h0
        exact h0
      by_cases h : (c :: cs).head? = some 47
      · rw [if_pos (hb.2 h), if_pos (by omega), if_pos h]
      · rw [if_neg (fun h2 => h (hb.1 h2)), if_pos (by rw [ofL_size]; omega), if_pos (by omega), if_neg h, append_ofL, bs_ofL]
        rfl
theorem ref_path_l0 (s : ByteArray) (hs : s.size ≤ 140737488351232) (l : List UInt8) : ∀ (i : Nat), (bs s).drop i = l → 7 ≤ i → i ≤ s.size →
    Ev (fun k => gatepostref03_Path.l0 k s (i : Int)) (triB (if i + (l.takeWhile notSep).length = 7 then ([], [], false) else (tailS (l.dropWhile notSep), ((bs s).drop 7).take (i + (l.takeWhile notSep).length - 7), true))) := by
  induction l with
  | nil =>
    intro i hl h7 hi
    have h1 := drop_nil hl
    have h3 := ref_path_j3 s hs i h7 hi
    rw [hl] at h3
    refine Ev.step (fun k => ?_) h3
    simp only [gatepostref03_Path.l0]
    rw [if_neg (by omega)]
  | cons c cs ih =>
    intro i hl h7 hi
    obtain ⟨hlt, hc, hd⟩ := drop_cons hl
    by_cases hn : notSep c = true
    · have e1 : (c :: cs).takeWhile notSep = c :: cs.takeWhile notSep := List.takeWhile_cons_of_pos hn
      have e2 : (c :: cs).dropWhile notSep = cs.dropWhile notSep := List.dropWhile_cons_of_pos hn
      have h3 := ih (i + 1) hd (by omega) (by omega)
      rw [e1, e2, List.length_cons, show i + ((cs.takeWhile notSep).length + 1) = i + 1 + (cs.takeWhile notSep).length from by omega]
      refine Ev.step (fun k => ?_) h3
      simp only [gatepostref03_Path.l0]
      have h47 : (c.toNat : Int) ≠ 47 := fun h => by
        have : c = 47 := by apply UInt8.toNat_inj.1; simp; omega
        subst this
        cases hn
      have h63 : (c.toNat : Int) ≠ 63 := fun h => by
        have : c = 63 := by apply UInt8.toNat_inj.1; simp; omega
        subst this
        cases hn
      rw [if_pos (by omega), if_pos (by omega), hc, if_neg h47, if_neg h63, wrap_id (x := (i : Int) + 1) (by omega) (by omega)]
      rfl
    · have e1 : (c :: cs).takeWhile notSep = [] := List.takeWhile_cons_of_neg hn
      have e2 : (c :: cs).dropWhile notSep = c :: cs := List.dropWhile_cons_of_neg hn
      have h3 := ref_path_j3 s hs i h7 hi
      rw [hl] at h3
      rw [e1, e2]
      refine Ev.step (fun k => ?_) h3
      simp only [gatepostref03_Path.l0]
      rw [if_pos (by omega), if_pos (by omega), hc]
      by_cases h47 : (c.toNat : Int) = 47
      · rw [if_pos h47]
      · rw [if_neg h47]
        have h63 : (c.toNat : Int) = 63 := by
          have : c = 63 ∨ c = 47 := by
            unfold notSep at hn
            by_cases a : c = 47
            · exact .inr a
            · simp [a] at hn
              exact .inl hn
          rcases this with rfl | rfl
          · rfl
          · exact absurd rfl h47
        rw [if_pos h63]
theorem ref_path_j0 (s : ByteArray) (hs : s.size ≤ 140737488351232) (b : Bool) : Ev (fun k => gatepostref03_Path.j0 k s b)
    (triB (if b = true then (bs s, [], true) else if (bs s).length ≤ 7 ∨ ((bs s).take 7).map lowB ≠ httpL then ([], [], false) else restS3 ((bs s).drop 7))) := by
  cases b with
  | true =>
    refine Ev.step (f := fun _ => some (s, ⟨#[]⟩, true)) (fun k => ?_) ?_
    · simp only [gatepostref03_Path.j0, if_true]
    · simp only [if_true, triB, ofL_bs]
      exact Ev.now _
  | false =>
    have hz := bs_length s
    rw [if_neg (by simp)]
    have hno : Ev (fun k => gatepostref03_Path.j1 k s true) (triB ([], [], false)) := by
      refine Ev.step (f := fun _ => some (triB ([], [], false))) (fun k => ?_) (Ev.now _)
      simp only [gatepostref03_Path.j1, if_true]
      rfl
    by_cases h8 : (s.size : Int) < 8
    · rw [if_pos (.inl (by omega))]
      refine Ev.step (fun k => ?_) hno
      simp only [gatepostref03_Path.j0]
      rw [if_neg (by simp), if_pos h8]
    · have e7 : s.extract 0 7 = ofL ((bs s).take 7) := by rw [extract_ofL]; rfl
      have hlow : Ev (fun k => gatepostref01_Lower.f k (s.extract 0 7)) (ofL (((bs s).take 7).map lowB)) := by
        have := ref_lower_ev (s.extract 0 7) (by rw [e7, ofL_size, List.length_take]; omega)
        rw [e7, bs_ofL] at this
        rw [e7]
        exact this
      have key : Ev (fun k => gatepostref03_Path.j1 k s ((ofL (((bs s).take 7).map lowB)).toList != ([104, 116, 116, 112, 58, 47, 47] : List UInt8))) (triB (if (bs s).length ≤ 7 ∨ ((bs s).take 7).map lowB ≠ httpL then ([], [], false) else restS3 ((bs s).drop 7))) := by
        rw [toList_bs, bs_ofL]
        by_cases hh : ((bs s).take 7).map lowB = httpL
        · have e : (((bs s).take 7).map lowB != ([104, 116, 116, 112, 58, 47, 47] : List UInt8)) = false := by rw [hh]; rfl
          rw [e, if_neg (by rintro (h | h); omega; exact h hh)]
          have h3 := ref_path_l0 s hs ((bs s).drop 7) 7 rfl (by omega) (by omega)
          refine Ev.step (fun k => ?_) (f := fun k => gatepostref03_Path.l0 k s ((7 : Nat) : Int)) ?_
          · simp only [gatepostref03_Path.j1]
            rw [if_neg (by simp)]
            rfl
          · have e4 : restS3 ((bs s).drop 7) = (if 7 + (((bs s).drop 7).takeWhile notSep).length = 7 then ([], [], false) else (tailS (((bs s).drop 7).dropWhile notSep), ((bs s).drop 7).take (7 + (((bs s).drop 7).takeWhile notSep).length - 7), true)) := by
              unfold restS3
              by_cases h0 : ((bs s).drop 7).takeWhile notSep = []
              · rw [if_pos h0, if_pos (by rw [h0]; rfl)]
              · have h1 : (((bs s).drop 7).takeWhile notSep).length ≠ 0 := fun e => h0 (List.length_eq_zero_iff.1 e)
                rw [if_neg h0, if_neg (by omega), Nat.add_sub_cancel_left, take_tw]
            rw [e4]
            exact h3
        · have e : (((bs s).take 7).map lowB != ([104, 116, 116, 112, 58, 47, 47] : List UInt8)) = true := bne_iff_ne.2 hh
          rw [e, if_pos (.inr hh)]
          exact hno
      refine Ev.step (fun k => ?_) (Ev.bind (f := fun k t => gatepostref03_Path.j1 k s (t.toList != ([104, 116, 116, 112, 58, 47, 47] : List UInt8))) hlow key)
      simp only [gatepostref03_Path.j0]
      rw [if_neg (by simp), if_neg h8, if_pos (by omega), if_pos (by omega)]
theorem ref_path_ev (s : ByteArray) (hs : s.size ≤ 140737488351232) : Ev (fun k => gatepostref03_Path.f k s) (triB (pathS (bs s))) := by
  unfold gatepostref03_Path.f pathS
  refine Ev.bind (ref_target_ev s hs) ?_
  by_cases ht : targetS (bs s) = true
  · have hpos : 0 < s.size := by
      rw [← bs_length]
      rcases Nat.eq_zero_or_pos (bs s).length with h | h
      · rw [List.length_eq_zero_iff.1 h] at ht
        cases ht
      · exact h
    simp only [if_pos ht]
    rw [if_neg (by rw [ht]; simp)]
    simp only [if_pos (show (0 : Int) < (s.size : Int) by omega)]
    by_cases h1 : bt s 0 = 47
    · simp only [if_pos h1]
      have h2 := (head_bt s hpos 47 47 rfl).1 h1
      rw [if_pos (.inl h2)]
      exact ref_path_j0 s hs true
    · simp only [if_neg h1]
      have h2 : ¬ (bs s).head? = some 47 := fun h => h1 ((head_bt s hpos 47 47 rfl).2 h)
      rw [toList_bs]
      by_cases h3 : bs s = [42]
      · rw [if_pos (.inr h3)]
        have := ref_path_j0 s hs true
        simpa [h3] using this
      · rw [if_neg (by rintro (h | h); exact h2 h; exact h3 h)]
        have e : (bs s == [42]) = false := by simpa using h3
        rw [e]
        exact ref_path_j0 s hs false
  · have hf : targetS (bs s) = false := by simpa using ht
    rw [hf]
    simp only [if_true, Bool.false_eq_true, if_false]
    exact Ev.now _
end Go.Proofs.Ytbcnhkgiabobiaa.Hp
