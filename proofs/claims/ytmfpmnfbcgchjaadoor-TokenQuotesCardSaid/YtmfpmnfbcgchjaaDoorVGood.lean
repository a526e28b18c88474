/- What Pair takes is one element of a list, whatever stands beside it. -/
import Derived.Test.YtmfpmnfbcgchjaaDoorVUnqL
import Derived.Test.YtmfpmnfbcgchjaaDoorVSplit
set_option linter.unusedVariables false
set_option linter.unusedSimpArgs false
namespace Go.Proofs.YtmfpmnfbcgchjaaDoor.Vh
open Go.Vm Go.Vt
/-- Read from its begin to its end, a text leaves the reader of lists outside quotes. -/
def Runs (x : Bs) : Prop := ∀ r own out, splitG (x ++ r) own false out = splitG r (own ++ x) false out
theorem Runs.nil : Runs [] := fun r own out => by simp
theorem Runs.app {a b : Bs} (ha : Runs a) (hb : Runs b) : Runs (a ++ b) := fun r own out => by rw [List.append_assoc, ha, hb, List.append_assoc]
theorem Runs.one {c : UInt8} (h1 : c ≠ 34) (h2 : c ≠ 44) : Runs [c] := fun r own out => by
  rw [List.singleton_append, splitG_step, if_neg h1, if_neg (by simp), if_neg (by simp [h2])]
theorem Runs.tok : ∀ {s : Bs}, s.all tokB = true → Runs s
  | [], _ => Runs.nil
  | c :: r, h => by
    rw [List.all_cons, Bool.and_eq_true] at h
    exact Runs.app (a := [c]) (Runs.one (by rintro rfl; exact absurd h.1 (by decide)) (by rintro rfl; exact absurd h.1 (by decide))) (Runs.tok h.2)
theorem unq_runs : ∀ (n : Nat) (s bs : Bs), s.length ≤ n → (unqT s bs).2 = true → ∀ r own out, splitG (s ++ r) own true out = splitG r (own ++ s) false out
  | _, [], bs, _, h => by rw [unqT_end] at h; cases h
  | 0, c :: r, bs, hn, h => by simp at hn
  | n + 1, c :: t, bs, hn, h => by
    intro r own out
    simp at hn
    by_cases c34 : c = 34
    · subst c34
      rw [unqT_stop] at h
      have : t = [] := by simpa using h
      subst this
      rw [List.singleton_append, splitG_step, if_pos rfl]; rfl
    · by_cases c92 : c = 92
      · subst c92
        cases t with
        | nil => rw [unqT_esc0] at h; cases h
        | cons d t =>
          rw [unqT_esc] at h
          cases ht : txtB d with
          | false => rw [ht] at h; cases h
          | true =>
            rw [ht, if_pos rfl] at h
            simp at hn
            rw [List.cons_append, List.cons_append, splitG_step, if_neg (by decide), if_pos (by simp)]
            simp only
            rw [unq_runs n t _ (by omega) h, List.append_assoc]; rfl
      · rw [unqT_one c34 c92] at h
        cases ht : txtB c with
        | false => rw [ht] at h; cases h
        | true =>
          rw [ht, if_pos rfl] at h
          rw [List.cons_append, splitG_step, if_neg c34, if_neg (by simp [c92]), if_neg (by simp), unq_runs n t _ hn h, List.append_assoc]; rfl
theorem unq_last : ∀ (n : Nat) (s bs : Bs), s.length ≤ n → (unqT s bs).2 = true → ∃ r, s = r ++ [34]
  | _, [], bs, _, h => by rw [unqT_end] at h; cases h
  | 0, c :: r, bs, hn, h => by simp at hn
  | n + 1, c :: t, bs, hn, h => by
    simp at hn
    by_cases c34 : c = 34
    · subst c34
      rw [unqT_stop] at h
      have : t = [] := by simpa using h
      subst this
      exact ⟨[], rfl⟩
    · by_cases c92 : c = 92
      · subst c92
        cases t with
        | nil => rw [unqT_esc0] at h; cases h
        | cons d t =>
          rw [unqT_esc] at h
          cases ht : txtB d with
          | false => rw [ht] at h; cases h
          | true =>
            rw [ht, if_pos rfl] at h
            simp at hn
            obtain ⟨r, rfl⟩ := unq_last n t _ (by omega) h
            exact ⟨92 :: d :: r, rfl⟩
      · rw [unqT_one c34 c92] at h
        cases ht : txtB c with
        | false => rw [ht] at h; cases h
        | true =>
          rw [ht, if_pos rfl] at h
          obtain ⟨r, rfl⟩ := unq_last n t _ hn h
          exact ⟨c :: r, rfl⟩
/-- No blanks at its ends, and not empty. -/
def Firm (x : Bs) : Prop := (∃ c r, x = c :: r ∧ blankB c = false) ∧ ∃ r c, x = r ++ [c] ∧ blankB c = false
theorem Firm.trim {x : Bs} (h : Firm x) : trim x = x := by
  obtain ⟨⟨c, r, rfl, h1⟩, r', c', h2, h3⟩ := h
  unfold Vt.trim
  rw [h2, trimR_full h3, ← h2, trimL_full h1]
theorem trim_pre {c : UInt8} {s : Bs} (hc : blankB c = true) : trim (c :: s) = trim s := by
  rw [← trim_comm, ← trim_comm, trimL_blank hc]
theorem trim_suf {c : UInt8} {s : Bs} (hc : blankB c = true) : trim (s ++ [c]) = trim s := by
  unfold trim; rw [trimR_blank hc]
theorem Firm.ne {x : Bs} (h : Firm x) : x ≠ [] := by
  obtain ⟨⟨c, r, rfl, h1⟩, _⟩ := h
  simp
theorem tok_blank (c : UInt8) : tokB c = true → blankB c = false := byte_all (p := fun c => tokB c = true → blankB c = false) (by decide +kernel) c
theorem Firm.tok {s : Bs} (h : isTok s = true) : Firm s := by
  unfold isTok at h
  rw [Bool.and_eq_true] at h
  obtain ⟨h1, h2⟩ := h
  have h2 := List.all_eq_true.1 h2
  constructor
  · cases s with
    | nil => cases h1
    | cons c r => exact ⟨c, r, rfl, tok_blank c (h2 c (by simp))⟩
  · rcases List.eq_nil_or_concat s with rfl | ⟨r, c, rfl⟩
    · cases h1
    · exact ⟨r, c, by simp, tok_blank c (h2 c (by simp))⟩
theorem pos_split {c : UInt8} : ∀ {s : Bs}, pos c s < s.length → s = s.take (pos c s) ++ c :: s.drop (pos c s + 1)
  | [], h => by simp at h
  | x :: r, h => by
    rw [pos_cons] at h ⊢
    by_cases hc : x = c
    · rw [if_pos hc]; subst hc; simp
    · rw [if_neg hc] at h ⊢
      have := pos_split (s := r) (by simpa using h)
      rw [List.take_succ_cons, List.drop_succ_cons, List.cons_append, ← this]
theorem isTok_all {s : Bs} (h : isTok s = true) : s.all tokB = true := by
  unfold isTok at h; rw [Bool.and_eq_true] at h; exact h.2
theorem pair_good {s : Bs} (h : (pairS s).2.2.2 = true) : Runs s ∧ Firm s := by
  unfold pairS at h
  simp only at h
  cases t1 : isTok (s.take (pos 61 s)) with
  | false => rw [t1] at h; cases h
  | true =>
    rw [t1, if_pos rfl] at h
    by_cases hp : pos 61 s < s.length
    · rw [if_pos hp] at h
      have hs := pos_split hp
      obtain ⟨⟨c, r, hc, hb⟩, _⟩ := Firm.tok t1
      have r1 := Runs.tok (isTok_all t1)
      generalize s.take (pos 61 s) = n at *
      generalize s.drop (pos 61 s + 1) = v at *
      have r2 : Runs [61] := Runs.one (by decide) (by decide)
      cases t2 : isTok v with
      | true =>
        obtain ⟨_, r', c', hc', hb'⟩ := Firm.tok t2
        rw [hs]
        refine ⟨r1.app (r2.app (Runs.tok (isTok_all t2))), ⟨c, r ++ 61 :: v, by rw [hc]; rfl, hb⟩, n ++ 61 :: r', c', by rw [hc']; simp, hb'⟩
      | false =>
        rw [t2, if_neg (by simp)] at h
        cases t3 : (unqP v).2 with
        | false => rw [t3] at h; cases h
        | true =>
          unfold unqP at t3
          by_cases h34 : v.head? = some 34
          · rw [if_pos h34] at t3
            obtain ⟨w, rfl⟩ : ∃ w, v = 34 :: w := by
              cases v with
              | nil => cases h34
              | cons a w => simp at h34; subst h34; exact ⟨w, rfl⟩
            rw [List.drop_succ_cons, List.drop_zero] at t3
            obtain ⟨w', rfl⟩ := unq_last _ _ _ (Nat.le_refl _) t3
            have r3 : Runs (34 :: (w' ++ [34])) := fun r own out => by
              rw [List.cons_append, splitG_step, if_pos rfl, Bool.not_false, unq_runs _ _ _ (Nat.le_refl _) t3, List.append_assoc]; rfl
            rw [hs]
            refine ⟨r1.app (r2.app r3), ⟨c, r ++ 61 :: 34 :: (w' ++ [34]), by rw [hc]; rfl, hb⟩, n ++ 61 :: 34 :: w', 34, by simp, rfl⟩
          · rw [if_neg h34] at t3; cases t3
    · have he : s.take (pos 61 s) = s := List.take_of_length_le (by omega)
      rw [he] at t1
      exact ⟨Runs.tok (isTok_all t1), Firm.tok t1⟩
/-- A comma ends an element. -/
theorem splitG_comma {r own : Bs} {out : List Bs} : splitG (44 :: r) own false out = splitG r [] false (flush out own) := by
  rw [splitG_step, if_neg (by decide), if_neg (by simp), if_pos (by simp)]
theorem splitG_byte {c : UInt8} {r own : Bs} {out : List Bs} (h1 : c ≠ 34) (h2 : c ≠ 44) : splitG (c :: r) own false out = splitG r (own ++ [c]) false out := Runs.one h1 h2 r own out
theorem flush_firm {out : List Bs} {x : Bs} (h : Firm x) {p q : Bs} (hp : p = [] ∨ p = [9] ∨ p = [32]) (hq : q = [] ∨ q = [32]) : flush out (p ++ x ++ q) = out ++ [x] := by
  have e : trim (p ++ x ++ q) = x := by
    rcases hq with rfl | rfl
    · rw [List.append_nil]
      rcases hp with rfl | rfl | rfl
      · exact h.trim
      · rw [List.singleton_append, trim_pre rfl, h.trim]
      · rw [List.singleton_append, trim_pre rfl, h.trim]
    · rw [trim_suf rfl]
      rcases hp with rfl | rfl | rfl
      · exact h.trim
      · rw [List.singleton_append, trim_pre rfl, h.trim]
      · rw [List.singleton_append, trim_pre rfl, h.trim]
  unfold flush
  rw [e, if_neg h.ne]
/-- Elements, joined. -/
def joinB : List Bs → Bs := List.foldl (fun s x => if s = [] then x else s ++ [32, 44, 9] ++ x) []
theorem joinB_snoc (w : List Bs) (x : Bs) : joinB (w ++ [x]) = if joinB w = [] then x else joinB w ++ [32, 44, 9] ++ x := by simp [joinB, List.foldl_append]
theorem join_runs : ∀ (n : Nat) (w : List Bs), w.length = n → (∀ x ∈ w, Runs x ∧ Firm x) → (w = [] ∧ joinB w = []) ∨ ∃ ini x p, w = ini ++ [x] ∧ joinB w ≠ [] ∧ (p = [] ∨ p = [9]) ∧ ∀ r, splitG (joinB w ++ r) [] false [] = splitG r (p ++ x) false ini
  | 0, w, hn, hw => .inl (by have := List.length_eq_zero_iff.1 hn; subst this; exact ⟨rfl, rfl⟩)
  | n + 1, w, hn, hw => by
    rcases List.eq_nil_or_concat w with rfl | ⟨ini, x, hc⟩
    · simp at hn
    · rw [List.concat_eq_append] at hc
      subst hc
      obtain ⟨hr, hf⟩ := hw x (by simp)
      refine .inr ?_
      rcases join_runs n ini (by simpa using hn) (fun y hy => hw y (by simp [hy])) with ⟨rfl, hj⟩ | ⟨ini', x', p, rfl, hne, hp, hs⟩
      · exact ⟨[], x, [], rfl, by rw [joinB_snoc, if_pos hj]; exact hf.ne, .inl rfl, fun r => by rw [joinB_snoc, if_pos hj, hr]⟩
      · refine ⟨ini' ++ [x'], x, [9], rfl, by rw [joinB_snoc, if_neg hne]; simp, .inr rfl, fun r => ?_⟩
        have hf' := (hw x' (by simp)).2
        rw [joinB_snoc, if_neg hne, List.append_assoc, List.append_assoc, hs]
        show splitG (32 :: 44 :: 9 :: (x ++ r)) _ false _ = _
        rw [splitG_byte (by decide) (by decide), splitG_comma, splitG_byte (by decide) (by decide), hr,
          flush_firm hf' (by rcases hp with h | h <;> simp [h]) (.inr rfl)]
        rfl
theorem join_split {w : List Bs} (hw : ∀ x ∈ w, Runs x ∧ Firm x) : split (joinB w) = some w := by
  rcases join_runs _ w rfl hw with ⟨rfl, h⟩ | ⟨ini, x, p, rfl, _, hp, h⟩
  · rw [h]; rfl
  · have := h []
    rw [List.append_nil] at this
    unfold split
    rw [this]
    show some (flush ini (p ++ x)) = _
    have hf := flush_firm (out := ini) (hw x (by simp)).2 (p := p) (q := []) (by rcases hp with h | h <;> simp [h]) (.inl rfl)
    rw [List.append_nil] at hf
    rw [hf]
end Go.Proofs.YtmfpmnfbcgchjaaDoor.Vh
