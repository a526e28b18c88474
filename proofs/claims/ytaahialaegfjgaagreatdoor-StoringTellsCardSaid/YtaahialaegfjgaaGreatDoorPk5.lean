/- Several texts in one: Tok, VTok1, VTrim, VRef1. -/
import Derived.Test.YtaahialaegfjgaaGreatDoorPk1
import Derived.Test.YtaahialaegfjgaaGreatDoorPk4
section
set_option linter.unusedVariables false
set_option linter.unusedSimpArgs false
namespace Go.Vt
abbrev Bs := List UInt8
theorem Qa2 {p : UInt8 → Prop} [DecidablePred p] (h : ∀ n : Fin 256, p (UInt8.ofNat n.val)) (c : UInt8) : p c := by
  have := h ⟨c.toNat, c.toNat_lt⟩
  simpa using this
def QaD (c : UInt8) : Bool := c == 32 || c == 9
def QbG (c : UInt8) : Bool := decide (48 ≤ c.toNat) && decide (c.toNat ≤ 57)
def QaN (c : UInt8) : Bool := (decide (97 ≤ c.toNat) && decide (c.toNat ≤ 122)) || (decide (65 ≤ c.toNat) && decide (c.toNat ≤ 90)) || QbG c || [33, 35, 36, 37, 38, 39, 42, 43, 45, 46, 94, 95, 96, 124, 126].contains c
def Qch (c : UInt8) : Bool := c == 9 || (decide (32 ≤ c.toNat) && c != 127)
def QcZ (c : UInt8) : UInt8 := if 65 ≤ c.toNat ∧ c.toNat ≤ 90 then c + 32 else c
def QaO (s : Bs) : Bool := !s.isEmpty && s.all QaN
def low (s : Bs) : Bs := s.map QcZ
def QaS (s : Bs) : Bs := s.dropWhile QaD
def QX : Bs → Bs
  | [] => []
  | c :: r => match QX r with
    | [] => if QaD c then [] else [c]
    | r' => c :: r'
def trim (s : Bs) : Bs := QaS (QX s)
theorem QgT (s : Bs) : (low s).length = s.length := by simp [low]
theorem QnO (s t : Bs) : low (s ++ t) = low s ++ low t := by simp [low]
theorem QfJ {c : UInt8} {r : Bs} (h : QX r ≠ []) : QX (c :: r) = c :: QX r := by
  conv => lhs; unfold QX
  cases hr : QX r with
  | nil => exact absurd hr h
  | cons a l => rfl
theorem QgU {c : UInt8} {r : Bs} (h : QX r = []) : QX (c :: r) = if QaD c then [] else [c] := by
  conv => lhs; unfold QX
  rw [h]
theorem QFR (s : Bs) : (QX s).length ≤ s.length := by
  induction s with
  | nil => simp [QX]
  | cons c r ih =>
    by_cases h : QX r = []
    · rw [QgU h]; split <;> simp
    · rw [QfJ h]; simp; exact ih
theorem Qrj {s : Bs} {c : UInt8} (h : QaD c = true) : QX (s ++ [c]) = QX s := by
  induction s with
  | nil => simp [QX, h]
  | cons a r ih =>
    rw [List.cons_append]
    by_cases hr : QX r = []
    · rw [QgU (by rw [ih]; exact hr), QgU hr]
    · rw [QfJ (by rw [ih]; exact hr), QfJ hr, ih]
theorem Qo0 {s : Bs} {c : UInt8} (h : QaD c = false) : QX (s ++ [c]) = s ++ [c] := by
  induction s with
  | nil => simp [QX, h]
  | cons a r ih =>
    rw [List.cons_append, QfJ (by rw [ih]; simp), ih]
theorem Qkd {s : Bs} {c : UInt8} (h : QaD c = true) : QaS (c :: s) = QaS s := by simp [QaS, h]
theorem Qg6 {s : Bs} {c : UInt8} (h : QaD c = false) : QaS (c :: s) = c :: s := by simp [QaS, h]
theorem Qz1 {s : Bs} : QX s = [] ↔ ∀ c ∈ s, QaD c = true := by
  induction s with
  | nil => simp [QX]
  | cons c r ih =>
    by_cases h : QX r = []
    · rw [QgU h]
      have := ih.1 h
      by_cases hc : QaD c = true
      · simp [hc]; exact this
      · simp [hc]
    · rw [QfJ h]
      refine ⟨fun hh => by simp at hh, fun hh => absurd (ih.2 fun x hx => hh x (List.mem_cons_of_mem _ hx)) h⟩
theorem Qwp {s : Bs} : QaS s = [] ↔ ∀ c ∈ s, QaD c = true := by
  unfold QaS
  induction s with
  | nil => simp
  | cons c r ih => 
    by_cases hc : QaD c = true
    · simp [hc, ih]
    · simp [hc]
theorem QxB (s : Bs) : QX (QaS s) = trim s := by
  unfold trim
  induction s with
  | nil => rfl
  | cons c r ih =>
    by_cases hc : QaD c = true
    · rw [Qkd hc]
      by_cases h : QX r = []
      · rw [QgU h, if_pos hc]
        have : QaS r = [] := Qwp.2 (Qz1.1 h)
        rw [this]; rfl
      · rw [QfJ h, Qkd hc, ih]
    · have hc' : QaD c = false := by simpa using hc
      rw [Qg6 hc']
      by_cases h : QX r = []
      · rw [QgU h, if_neg hc, Qg6 hc']
      · rw [QfJ h, Qg6 hc']
def flush (out : List Bs) (own : Bs) : List Bs := if trim own = [] then out else out ++ [trim own]
def Qah : Bs → Bs → Bool → List Bs → Option (List Bs)
  | [], own, q, out => if q then none else some (flush out own)
  | [c], own, q, out =>
    if c = 34 then (if q then some (flush out (own ++ [c])) else none) else if q then none else if c = 44 then some (flush (flush out own) []) else some (flush out (own ++ [c]))
  | c :: d :: r, own, q, out =>
    if c = 34 then Qah (d :: r) (own ++ [c]) (!q) out
    else if q && c == 92 then Qah r (own ++ [c, d]) q out
    else if !q && c == 44 then Qah (d :: r) [] q (flush out own)
    else Qah (d :: r) (own ++ [c]) q out
def split (s : Bs) : Option (List Bs) := Qah s [] false []
def Qup (x : UInt8) : Bs → Option (Bs × Bs)
  | [] => none
  | c :: r => if c = x then some ([], r) else (Qup x r).map fun p => (c :: p.1, p.2)
def unqG : Bs → Bs → Option Bs
  | [], _ => none
  | [c], out => if c = 34 then some out else none
  | c :: d :: r, out => if c = 34 then none else if c = 92 then (if Qch d then unqG r (out ++ [d]) else none) else if Qch c then unqG (d :: r) (out ++ [c]) else none
def unq : Bs → Option Bs
  | 34 :: r => unqG r []
  | _ => none
structure Pr where
  name : Bs
  value : Bs
  has : Bool
  ok : Bool
  deriving DecidableEq
def Qr (s : Bs) : Pr :=
  match Qup 61 s with
  | none => if QaO s then ⟨s, [], false, true⟩ else ⟨[], [], false, false⟩
  | some (n, v) => if !QaO n then ⟨[], [], false, false⟩ else if QaO v then ⟨n, v, true, true⟩ else match unq v with
    | some u => ⟨n, u, true, true⟩
    | none => ⟨[], [], false, false⟩
def QbB : Bs → Int → Int → Int
  | [], n, _ => n
  | c :: r, n, most => if (c.toNat : Int) - 48 > most ∨ n > (most - ((c.toNat : Int) - 48)) / 10 then most else QbB r (10 * n + ((c.toNat : Int) - 48)) most
def Q3 (s : Bs) (most : Int) : Int × Bool := if s.isEmpty || decide (most < 0) || !s.all QbG then (0, false) else (QbB s 0 most, true)
end Go.Vt
end
section
set_option linter.unusedVariables false
set_option linter.unusedSimpArgs false
namespace Go.Proofs.YtaahialaegfjgaaGreatDoor.Vh
open Go.Vm Go.Vt
attribute [local congr] QF QI QE QG QD QJ
variable {L : QL} {h : Heap}
abbrev byV (c : UInt8) : V := .int .u8 (c.toNat : Int)
theorem QBF (c : UInt8) : Qc3 .or .u8 (c.toNat : Int) 32 = ((c ||| 32).toNat : Int) := Qa2 (p := fun c => Qc3 .or .u8 (c.toNat : Int) 32 = ((c ||| 32).toNat : Int)) (by decide +kernel) c
theorem QIC : Cf F L QfE [] h (Pu h (.agg ([33, 35, 36, 37, 38, 39, 42, 43, 45, 46, 94, 95, 96, 124, 126].map (.int .u8)))) := by
  refine QDz ?_
  simp only [QoH]
  simp (maxSteps := 4000000) only [vm, vl, Arg.get, cells, stor, Qa, Qc, QA, Vm.part, Qu, splice, reduceIte, Nat.reduceEqDiff, Nat.reduceAdd, Nat.reduceLeDiff]
def QaH : List Int := [33, 35, 36, 37, 38, 39, 42, 43, 45, 46, 94, 95, 96, 124, 126]
theorem QER (c : UInt8) : ((c ||| 32).toNat : Int) ≥ 97 → ((c ||| 32).toNat : Int) ≤ 122 → QaN c = true :=
  Qa2 (p := fun c => ((c ||| 32).toNat : Int) ≥ 97 → ((c ||| 32).toNat : Int) ≤ 122 → QaN c = true) (by decide +kernel) c
theorem Qs1 (c : UInt8) : (c.toNat : Int) ≥ 48 → (c.toNat : Int) ≤ 57 → QaN c = true :=
  Qa2 (p := fun c => (c.toNat : Int) ≥ 48 → (c.toNat : Int) ≤ 57 → QaN c = true) (by decide +kernel) c
theorem Qu2 (c : UInt8) : (c.toNat : Int) ∈ QaH → QaN c = true :=
  Qa2 (p := fun c => (c.toNat : Int) ∈ QaH → QaN c = true) (by decide +kernel) c
theorem QAe (c : UInt8) : ¬ (((c ||| 32).toNat : Int) ≥ 97 ∧ ((c ||| 32).toNat : Int) ≤ 122) → ¬ ((c.toNat : Int) ≥ 48 ∧ (c.toNat : Int) ≤ 57) → ¬ (c.toNat : Int) ∈ QaH → QaN c = false :=
  Qa2 (p := fun c => ¬ (((c ||| 32).toNat : Int) ≥ 97 ∧ ((c ||| 32).toNat : Int) ≤ 122) → ¬ ((c.toNat : Int) ≥ 48 ∧ (c.toNat : Int) ≤ 57) → ¬ (c.toNat : Int) ∈ QaH → QaN c = false) (by decide +kernel) c
theorem QFo {c : UInt8} {h : Heap} {e : Env} {t : Heap} (e0 : e 0 = byV c) (e22 : e 22 = .agg (QaH.map (.int .u8))) (e23 : e 23 = .int .i64 0)
    (hn : ¬ (c.toNat : Int) ∈ QaH → QaN c = false) : Wl F L Qnm (QkS L (Pu h (.bool (QaN c)))) e (h ++ t) := by
  refine Qz6 (fun n e h' => ∃ i, i ≤ 15 ∧ n = 15 - i ∧ e 0 = byV c ∧ e 22 = .agg (QaH.map (.int .u8)) ∧ e 23 = .int .i64 i ∧ h' = h ++ t ∧ ∀ j, j < i → QaH.getD j 0 ≠ (c.toNat : Int)) ?_ (n := 15) ⟨0, by simp, rfl, e0, e22, e23, rfl, by simp⟩
  rintro n e h' ⟨i, hi, rfl, e0, e22, e23, rfl, hj⟩
  simp only [QlK]
  
  have hd : ∀ i, i < 15 → (QaH.map (V.int .u8)).getD i (.tup []) = .int .u8 (QaH.getD i 0) := by
    intro i hi
    have : i < QaH.length := hi
    rw [List.getD_eq_getElem?_getD, List.getD_eq_getElem?_getD, List.getElem?_map, List.getElem?_eq_getElem this, Option.map_some, Option.getD_some, Option.getD_some]
  by_cases hl : (i : Int) < 15
  · have hl' : i < 15 := by omega
    have w := Qe (x := (i : Int) + 1) (by omega) (by omega)
    have b1 : i + 1 ≤ 15 := by omega
    have b2 := hd i hl'
    have hmem : QaH.getD i 0 ∈ QaH := by
      have : i < QaH.length := hl'
      rw [List.getD_eq_getElem?_getD, List.getElem?_eq_getElem this, Option.getD_some]
      exact List.getElem_mem _
    have b3 : (QaH.map (V.int .u8)).length = 15 := rfl
    generalize hL : (QaH.map (V.int .u8)) = Ls at *
    simp (maxSteps := 4000000) only [vm, vl, Arg.get, Qb, reduceIte, reduceCtorEq, Nat.reduceEqDiff, ne_eq, Qfq, QgQ, Qg9, Qhe, e0, e22, e23, hl, w, hl', b1, b2, b3]
    (repeat' ((first | refine Qao (fun _ => ?_) (fun _ => ?_) | refine Qaj (fun _ => ?_) (fun _ => ?_) | refine Qar (fun _ => ?_) (fun _ => ?_) | refine Qal (fun _ => ?_) (fun _ => ?_) | refine Qaq (fun _ => ?_) (fun _ => ?_) | refine Qan (fun _ => ?_) (fun _ => ?_) | refine Qap (fun _ => ?_) (fun _ => ?_) | refine Qak (fun _ => ?_) (fun _ => ?_) | refine Qas (fun _ => ?_) (fun _ => ?_)) <;> try simp (maxSteps := 4000000) only [vm, vl, Qfq, QgQ, Qg9, Qhe, *]))
    · rename_i hc
      rw [hc] at hmem
      rw [Qu2 c hmem]
    · rename_i hc
      refine ⟨15 - (i + 1), by omega, i + 1, by omega, rfl, by simp, ?_⟩
      intro j hj'
      rcases Nat.lt_or_ge j i with h1 | h1
      · exact hj j h1
      · have : j = i := by omega
        subst this; exact hc
  · simp (maxSteps := 4000000) only [vm, vl, Arg.get, Qb, reduceIte, reduceCtorEq, Nat.reduceEqDiff, ne_eq, Qfq, QgQ, Qg9, Qhe, e0, e22, e23, hl]
    refine (hn fun hm => ?_).symm
    obtain ⟨k, hk, he⟩ := List.getElem_of_mem hm
    refine hj k (by have : QaH.length = 15 := rfl; omega) ?_
    rw [List.getD_eq_getElem?_getD, List.getElem?_eq_getElem hk, Option.getD_some]; exact he
theorem QzI {c : UInt8} : Cf F L Qgb [byV c] h (Pu h (.bool (QaN c))) := by
  refine QzQ ?_
  simp only [Qrc]
  simp (maxSteps := 4000000) only [vm, vl, Arg.get, Qfq, QgQ, Qg9, Qhe, QBF]
  (repeat' ((first | refine Qao (fun _ => ?_) (fun _ => ?_) | refine Qaj (fun _ => ?_) (fun _ => ?_) | refine Qar (fun _ => ?_) (fun _ => ?_) | refine Qal (fun _ => ?_) (fun _ => ?_) | refine Qaq (fun _ => ?_) (fun _ => ?_) | refine Qan (fun _ => ?_) (fun _ => ?_) | refine Qap (fun _ => ?_) (fun _ => ?_) | refine Qak (fun _ => ?_) (fun _ => ?_) | refine Qas (fun _ => ?_) (fun _ => ?_) | refine Cf.pu QIC (fun _ => ?_)) <;> try simp (maxSteps := 4000000) only [vm, vl, Arg.get, reduceIte, Qfq, QgQ, Qg9, Qhe, *]))
  all_goals first
    | exact QFo rfl rfl rfl fun hm => QAe c (by omega) (by omega) hm
    | (rw [QER c (by omega) (by omega)])
    | (rw [Qs1 c (by omega) (by omega)])
theorem QDG (c : UInt8) : QaD c = (decide ((c.toNat : Int) = 32) || decide ((c.toNat : Int) = 9)) :=
  Qa2 (p := fun c => QaD c = (decide ((c.toNat : Int) = 32) || decide ((c.toNat : Int) = 9))) (by decide +kernel) c
theorem QEQ (c : UInt8) : Qch c = (decide ((c.toNat : Int) = 9) || (decide ((c.toNat : Int) ≥ 32) && !decide ((c.toNat : Int) = 127))) :=
  Qa2 (p := fun c => Qch c = (decide ((c.toNat : Int) = 9) || (decide ((c.toNat : Int) ≥ 32) && !decide ((c.toNat : Int) = 127)))) (by decide +kernel) c
theorem QbQ {s : Bs} {i : Nat} (hi : i ≤ s.length) : (¬ (i : Int) < s.length ∧ i = s.length ∧ s.drop i = []) ∨ ∃ c, (i : Int) < s.length ∧ i < s.length ∧ s.getD i 0 = c ∧ s.drop i = c :: s.drop (i + 1) := by
  rcases Nat.lt_or_eq_of_le hi with h | h
  · refine .inr ⟨s[i], by omega, h, ?_, List.drop_eq_getElem_cons h⟩
    rw [List.getD_eq_getElem?_getD, List.getElem?_eq_getElem h, Option.getD_some]
  · exact .inl ⟨by omega, h, by rw [h]; simp⟩
theorem QpK {s : Bs} {f : FuncId} {caps : List V} {p : UInt8 → Bool} (hs : s.length < 9223372036854775807) (hf : ∀ (c : UInt8) (h : Heap), Cf F L f ([byV c] ++ caps) h (Pu h (.bool (p c)))) :
    Cf F L Qem [.str s, .fn f caps] h (Pu h (.bool (s.all p))) := by
  refine QCL ?_
  simp only [Qmi]
  simp (maxSteps := 4000000) only [vm, vl, Arg.get, QgM, QiB, Qh0]
  refine QJx (fun n e h' => ∃ i, n = s.length - i ∧ i ≤ s.length ∧ e 0 = .str s ∧ e 1 = .fn f caps ∧ e 7 = .int .i64 s.length ∧ e 8 = .int .i64 i ∧ (∃ t, h' = h ++ t) ∧ s.all p = (s.drop i).all p) ?_ (n := s.length) ⟨0, by simp, by simp, rfl, rfl, rfl, rfl, ⟨[], by simp⟩, rfl⟩
  rintro n e h' ⟨i, rfl, hi, e0, e1, e7, e8, ⟨t, rfl⟩, hall⟩
  simp only [Qmu]
  rw [hall]
  rcases QbQ hi with ⟨hn, rfl, hd⟩ | ⟨c, hl, hl', hc, hd⟩
  · simp (maxSteps := 4000000) only [vm, vl, Arg.get, reduceIte, reduceCtorEq, Nat.reduceEqDiff, QgM, QiB, Qh0, e7, e8, hn, hd]
  · have w := Qe (x := (i : Int) + 1) (by omega) (by omega)
    rw [hd]
    simp (maxSteps := 4000000) only [vm, vl, Arg.get, reduceIte, reduceCtorEq, Nat.reduceEqDiff, QgM, QiB, Qh0, e0, e1, e7, e8, hl, hc, hl', w]
    (repeat' ((first | refine Qao (fun _ => ?_) (fun _ => ?_) | refine Qaj (fun _ => ?_) (fun _ => ?_) | refine Qar (fun _ => ?_) (fun _ => ?_) | refine Qal (fun _ => ?_) (fun _ => ?_) | refine Qaq (fun _ => ?_) (fun _ => ?_) | refine Qan (fun _ => ?_) (fun _ => ?_) | refine Qap (fun _ => ?_) (fun _ => ?_) | refine Qak (fun _ => ?_) (fun _ => ?_) | refine Qas (fun _ => ?_) (fun _ => ?_) | refine Cf.pu (hf _ _) (fun _ => ?_)) <;> try simp (maxSteps := 4000000) only [vm, vl, QgM, QiB, Qh0, *]))
    · rename_i hp; simp at hp; simp [hp]
    · rename_i hp
      simp at hp
      refine ⟨s.length - (i + 1), by omega, i + 1, rfl, hl', by simp, ⟨_, rfl⟩, ?_⟩
      simp [hp]
theorem Qop {s : Bs} (hs : s.length < 9223372036854775807) : Cf F L Qdp [.str s] h (Pu h (.bool (QaO s))) := by
  refine QHz ?_
  simp only [Qoe]
  simp (maxSteps := 4000000) only [vm, vl, Arg.get]
  have hA := fun h => QpK (L := L) (h := h) (s := s) (caps := []) hs (fun c h => QzI)
  cases s with
  | nil =>
    have e1 : (([] : Bs) == []) = true := rfl
    simp (maxSteps := 4000000) only [vm, vl, reduceIte, beq_self_eq_true, *]
    rfl
  | cons c r =>
    have e1 : ((c :: r : Bs) == []) = false := rfl
    simp (maxSteps := 4000000) only [vm, vl, Arg.get, reduceIte, *]
    (repeat' ((first | refine Qao (fun _ => ?_) (fun _ => ?_) | refine Qaj (fun _ => ?_) (fun _ => ?_) | refine Qar (fun _ => ?_) (fun _ => ?_) | refine Qal (fun _ => ?_) (fun _ => ?_) | refine Qaq (fun _ => ?_) (fun _ => ?_) | refine Qan (fun _ => ?_) (fun _ => ?_) | refine Qap (fun _ => ?_) (fun _ => ?_) | refine Qak (fun _ => ?_) (fun _ => ?_) | refine Qas (fun _ => ?_) (fun _ => ?_) | refine Cf.pu (hA _) (fun _ => ?_)) <;> try simp (maxSteps := 4000000) only [vm, vl, *]))
    rfl
theorem QIn (c : UInt8) : (c.toNat : Int) ≥ 65 → (c.toNat : Int) ≤ 90 → Qc3 .or .u8 (c.toNat : Int) 32 = ((QcZ c).toNat : Int) :=
  Qa2 (p := fun c => (c.toNat : Int) ≥ 65 → (c.toNat : Int) ≤ 90 → Qc3 .or .u8 (c.toNat : Int) 32 = ((QcZ c).toNat : Int)) (by decide +kernel) c
theorem Qqf (c : UInt8) (h : ¬ ((c.toNat : Int) ≥ 65 ∧ (c.toNat : Int) ≤ 90)) : QcZ c = c := by
  unfold QcZ; rw [if_neg (by omega)]
theorem QJY (s : Bs) : QdJ (s.map Qa5) = some s := by
  induction s with
  | nil => rfl
  | cons c r ih => simp [QdJ, QhC, Qa5, ih]
def Qbl (s : Bs) (i : Nat) : List V := (low (s.take i) ++ s.drop i).map Qa5
theorem QHg (s : Bs) : Qbl s 0 = s.map Qa5 := by simp [Qbl, low]
theorem QDQ (s : Bs) : Qbl s s.length = (low s).map Qa5 := by simp [Qbl]
theorem Qyb {s : Bs} {i : Nat} (hi : i ≤ s.length) : (Qbl s i).length = s.length := by simp [Qbl, low]; omega
theorem QIh {s : Bs} {i : Nat} {c : UInt8} (hl : i < s.length) (hd : s.drop i = c :: s.drop (i + 1)) : (Qbl s i).getD i (.tup []) = .int .u8 (c.toNat : Int) := by
  have e1 : (low (s.take i)).length = i := by simp [low]; omega
  rw [Qbl, List.getD_eq_getElem?_getD, List.getElem?_map, List.getElem?_append_right (by omega), e1, hd]
  simp [Qa5]
theorem Qea {s : Bs} {i : Nat} {c : UInt8} (hl : i < s.length) (hd : s.drop i = c :: s.drop (i + 1)) : s.take (i + 1) = s.take i ++ [c] := by
  rw [List.take_add_one, List.getElem?_eq_getElem hl]
  have := List.drop_eq_getElem_cons hl
  rw [hd] at this
  injection this with h1 h2
  rw [h1]; rfl
theorem QyA {s : Bs} {i : Nat} {c : UInt8} (hl : i < s.length) (hd : s.drop i = c :: s.drop (i + 1)) : (Qbl s i).take i ++ (.int .u8 ((QcZ c).toNat : Int) :: (Qbl s i).drop (i + 1)) = Qbl s (i + 1) := by
  have e1 : (low (s.take i)).length = i := by simp [low]; omega
  unfold Qbl
  rw [Qea hl hd, QnO, ← List.map_take, ← List.map_drop, List.take_left' e1, List.drop_append, e1, List.drop_eq_nil_of_le (by omega), hd]
  simp [low, Qa5, show i + 1 - i = 1 by omega]
theorem Qtj {s : Bs} {i : Nat} {c : UInt8} (hl : i < s.length) (hd : s.drop i = c :: s.drop (i + 1)) (h : QcZ c = c) : Qbl s (i + 1) = Qbl s i := by
  unfold Qbl
  rw [Qea hl hd, QnO, hd]
  simp [low, h]
theorem QzK {s : Bs} {id n : Nat} {h : Heap} (hb : h[id]? = some (.box (s.map Qa5))) (hn : n = s.length) : Qg (.toStr (.c (.hsl 1 id n))) E0 h = some (.str s, h) := by
  subst hn
  simp only [Qg, Arg.get, QaW, hb, and_self, if_true, List.length_map, Nat.le_refl, List.take_of_length_le, Option.bind_some, QJY, Option.map_some]
theorem Qe9 {s : Bs} (hs : s.length ≤ 140737488355328) : Cf F L Qbn [.str s] h (Pu h (.str (low s))) := by
  refine QJD ?_
  simp only [QoF]
  simp (maxSteps := 4000000) only [vm, vl, Arg.get, QgJ, QgH, Qiz]
  refine QxZ (fun n e h' => ∃ i, n = s.length - i ∧ i ≤ s.length ∧ e 3 = .hsl 1 h.length s.length ∧ e 8 = .hsl 1 h.length s.length ∧ e 9 = .int .i64 s.length ∧ e 10 = .int .i64 i ∧ h' = h ++ [.box (Qbl s i)]) ?_ (n := s.length) ⟨0, by simp, by simp, rfl, rfl, rfl, rfl, by rw [QHg]⟩
  rintro n e h' ⟨i, rfl, hi, e3, e8, e9, e10, rfl⟩
  simp only [QqI]
  rcases QbQ hi with ⟨hn, rfl, hd⟩ | ⟨c, hl, hl', hc, hd⟩
  · have hb : (h ++ [O.box ((low s).map Qa5)])[h.length]? = some (.box ((low s).map Qa5)) := by simp
    have ht := QzK hb (QgT s).symm
    simp (maxSteps := 4000000) only [vm, vl, Arg.get, cells, stor, Qb, splice, reduceIte, Nat.reduceEqDiff, QgJ, QgH, Qiz, e3, e8, e9, e10, hn, hd, QDQ, ht]
  · have w := Qe (x := (i : Int) + 1) (by omega) (by omega)
    have g1 := QIh hl' hd
    have g2 := Qyb hi
    have g3 := QyA hl' hd
    have g4 : i + 1 ≤ s.length := hl'
    simp (maxSteps := 4000000) only [vm, vl, Arg.get, cells, stor, Qb, splice, reduceIte, Nat.reduceEqDiff, QgJ, QgH, Qiz, e3, e8, e9, e10, hl, hl', w, g1, g2, g4]
    (repeat' ((first | refine Qao (fun _ => ?_) (fun _ => ?_) | refine Qaj (fun _ => ?_) (fun _ => ?_) | refine Qar (fun _ => ?_) (fun _ => ?_) | refine Qal (fun _ => ?_) (fun _ => ?_) | refine Qaq (fun _ => ?_) (fun _ => ?_) | refine Qan (fun _ => ?_) (fun _ => ?_) | refine Qap (fun _ => ?_) (fun _ => ?_) | refine Qak (fun _ => ?_) (fun _ => ?_) | refine Qas (fun _ => ?_) (fun _ => ?_)) <;> try simp (maxSteps := 4000000) only [vm, vl, Arg.get, reduceIte, QgJ, QgH, Qiz, *]))
    · rename_i h1 h2
      rw [QIn c h1 h2, g3]
      exact ⟨s.length - (i + 1), by omega, i + 1, rfl, hl', rfl, rfl⟩
    · rename_i h1 h2
      exact ⟨s.length - (i + 1), by omega, i + 1, rfl, hl', rfl, by rw [Qtj hl' hd (Qqf c (by omega))]⟩
    · rename_i h1
      exact ⟨s.length - (i + 1), by omega, i + 1, rfl, hl', rfl, by rw [Qtj hl' hd (Qqf c (by omega))]⟩
theorem QsQ {s t : Bs} (hs : s.length ≤ 140737488355328) (ht : t.length ≤ 140737488355328) : Cf F L QdC [.str s, .str t] h (Pu h (.bool (low s == low t))) := by
  refine QHo ?_
  simp only [Qmy]
  simp (maxSteps := 4000000) only [vm, vl, Arg.get]
  have hA : ∀ h, _ := fun h => Qe9 (L := L) (h := h) hs
  have hB : ∀ h, _ := fun h => Qe9 (L := L) (h := h) ht
  by_cases hne : (s.length : Int) = t.length
  · simp (maxSteps := 4000000) only [vm, vl, Arg.get, reduceIte, *]
    (repeat' ((first | refine Qao (fun _ => ?_) (fun _ => ?_) | refine Qaj (fun _ => ?_) (fun _ => ?_) | refine Qar (fun _ => ?_) (fun _ => ?_) | refine Qal (fun _ => ?_) (fun _ => ?_) | refine Qaq (fun _ => ?_) (fun _ => ?_) | refine Qan (fun _ => ?_) (fun _ => ?_) | refine Qap (fun _ => ?_) (fun _ => ?_) | refine Qak (fun _ => ?_) (fun _ => ?_) | refine Qas (fun _ => ?_) (fun _ => ?_) | refine Cf.pu (hA _) (fun _ => ?_) | refine Cf.pu (hB _) (fun _ => ?_)) <;> try simp (maxSteps := 4000000) only [vm, vl, *]))
  simp (maxSteps := 4000000) only [vm, vl, reduceIte, *]
  have : (low s == low t) = false := by
    rw [beq_eq_false_iff_ne]
    intro he
    have := congrArg List.length he
    rw [QgT, QgT] at this
    omega
  rw [this]
def strs (out : List Bs) : List V := out.map .str
theorem QhG (out : List Bs) (x : Bs) : strs out ++ [V.str x] = strs (out ++ [x]) := by simp [strs]
theorem QW (out : List Bs) : (strs out).length = out.length := by simp [strs]
end Go.Proofs.YtaahialaegfjgaaGreatDoor.Vh
end
section
set_option linter.unusedVariables false
set_option linter.unusedSimpArgs false
namespace Go.Proofs.YtaahialaegfjgaaGreatDoor.Vh
open Go.Vm Go.Vt
attribute [local congr] QF QI QE QG QD QJ
variable {L : QL} {h : Heap}
theorem QsG {cs : List V} {i : Nat} {x : V} (hi : i < cs.length) : cs.take i ++ x :: cs.drop (i + 1) = cs.set i x := by
  rw [List.set_eq_take_append_cons_drop, if_pos hi]
def QaL : List V := ((List.replicate 256 (V.bool false)).set 32 (.bool true)).set 9 (.bool true)
def Qcn : Nat → List V
  | 0 => List.replicate 256 (.bool false)
  | 1 => (List.replicate 256 (V.bool false)).set 32 (.bool true)
  | _ => QaL
theorem Qf9 : ∀ i, (Qcn i).length = 256
  | 0 => List.length_replicate ..
  | 1 => by simp only [Qcn, List.length_set, List.length_replicate]
  | i + 2 => by simp only [Qcn, QaL, List.length_set, List.length_replicate]
theorem QJM (c : UInt8) : QaL.getD c.toNat (.tup []) = .bool (QaD c) := by
  have : ∀ n : Fin 256, QaL.getD (UInt8.ofNat n.val).toNat (.tup []) = .bool (QaD (UInt8.ofNat n.val)) := by
    intro n
    have h : (QaL.map fun | .bool b => b | _ => false) = (List.range 256).map fun n => QaD (UInt8.ofNat n) := by decide +kernel
    have h2 : ∀ v ∈ QaL, ∃ b, v = V.bool b := by
      intro v hv
      unfold QaL at hv
      rcases List.mem_or_eq_of_mem_set hv with hv | rfl
      · rcases List.mem_or_eq_of_mem_set hv with hv | rfl
        · exact ⟨false, (List.mem_replicate.1 hv).2⟩
        · exact ⟨true, rfl⟩
      · exact ⟨true, rfl⟩
    have hl : n.val < QaL.length := by simp only [QaL, List.length_set, List.length_replicate]; exact n.isLt
    have e : (UInt8.ofNat n.val).toNat = n.val := by simp
    obtain ⟨b, hb⟩ := h2 QaL[n.val] (List.getElem_mem _)
    rw [e, List.getD_eq_getElem?_getD, List.getElem?_eq_getElem hl, Option.getD_some, hb]
    have h3 := congrArg (fun l => l[n.val]?) h
    simp only [List.getElem?_map, List.getElem?_eq_getElem hl, Option.map_some, hb, List.getElem?_range n.isLt] at h3
    injection h3 with h3
    rw [h3]
  have := this ⟨c.toNat, c.toNat_lt⟩
  simpa using this
theorem QAR : Cf F L Qgs [.str [32, 9]] h (Pu h (.tup [.agg QaL, .bool true])) := by
  refine QBw ?_
  simp only [Qp2]
  simp (maxSteps := 4000000) only [vm, vl, QdQ, Qfa, Qe2, QeL]
  refine QJl (fun n e h' => ∃ i, n = 2 - i ∧ i ≤ 2 ∧ e 0 = .str [32, 9] ∧ e 2 = .ptr h.length 0 ∧ e 3 = .bool false ∧ e 4 = .int .i64 i ∧ h' = h ++ [.box (Qcn i)]) ?_ (n := 2) ⟨0, by simp, by simp, rfl, rfl, rfl, rfl, rfl⟩
  rintro n e h' ⟨i, rfl, hi, e0, e2, e3, e4, rfl⟩
  simp only [Qoc]
  have u1 : UInt8.toNat 32 = 32 := rfl
  have u2 : UInt8.toNat 9 = 9 := rfl
  have w1 : IntKind.i64.wrap (0 + 1) = 1 := by decide
  have w2 : IntKind.i64.wrap (1 + 1) = 2 := by decide
  have p0 := Qf9 0
  have p1 := Qf9 1
  have p2 := Qf9 2
  have q0 : (Qcn 0).take 32 ++ .bool true :: (Qcn 0).drop 33 = Qcn 1 := QsG (by rw [p0]; omega)
  have q1 : (Qcn 1).take 9 ++ .bool true :: (Qcn 1).drop 10 = Qcn 2 := QsG (by rw [p1]; omega)
  match i, hi with
  | 0, _ =>
    simp (maxSteps := 4000000) only [vm, vl, Arg.get, cells, stor, Qa, Qc, Qb, QA, Vm.part, splice, reduceIte, reduceCtorEq, Nat.reduceEqDiff, Nat.reduceAdd, Nat.reduceSub, Nat.reduceLeDiff, Int.reduceLT, Int.reduceLE, Int.reduceToNat, Int.reduceGE, Nat.succ_pos, QdQ, Qfa, Qe2, QeL, e0, e2, e3, e4, Qf9, u1, w1, q0, Int.natCast_zero, Int.cast_ofNat_Int]
    (repeat' ((first | refine Qao (fun _ => ?_) (fun _ => ?_) | refine Qaj (fun _ => ?_) (fun _ => ?_) | refine Qar (fun _ => ?_) (fun _ => ?_) | refine Qal (fun _ => ?_) (fun _ => ?_) | refine Qaq (fun _ => ?_) (fun _ => ?_) | refine Qan (fun _ => ?_) (fun _ => ?_) | refine Qap (fun _ => ?_) (fun _ => ?_) | refine Qak (fun _ => ?_) (fun _ => ?_) | refine Qas (fun _ => ?_) (fun _ => ?_)) <;> try simp (maxSteps := 4000000) only [vm, vl, Arg.get, cells, stor, Qi, Qa, Qc, Qb, QA, Vm.part, Qu, splice, reduceIte, reduceCtorEq, Nat.reduceEqDiff, Nat.reduceAdd, Nat.reduceSub, Nat.reduceMul, Nat.reduceLeDiff, ne_eq, not_false_eq_true, Int.reduceEq, Int.reduceLT, Int.reduceLE, Int.reduceNeg, Int.reduceToNat, Int.reduceGT, Int.reduceGE, Nat.reduceLT, Nat.lt_add_one, Nat.zero_lt_succ, Nat.succ_pos, Nat.zero_le, beq_self_eq_true, QdQ, Qfa, Qe2, QeL, *]))
    exact ⟨1, by omega, 1, rfl, by omega, rfl, rfl⟩
  | 1, _ =>
    simp (maxSteps := 4000000) only [vm, vl, Arg.get, cells, stor, Qa, Qc, Qb, QA, Vm.part, splice, reduceIte, reduceCtorEq, Nat.reduceEqDiff, Nat.reduceAdd, Nat.reduceSub, Nat.reduceLeDiff, Int.reduceLT, Int.reduceLE, Int.reduceToNat, Int.reduceGE, Nat.lt_add_one, QdQ, Qfa, Qe2, QeL, e0, e2, e3, e4, Qf9, u2, w2, q1, Int.natCast_one]
    (repeat' ((first | refine Qao (fun _ => ?_) (fun _ => ?_) | refine Qaj (fun _ => ?_) (fun _ => ?_) | refine Qar (fun _ => ?_) (fun _ => ?_) | refine Qal (fun _ => ?_) (fun _ => ?_) | refine Qaq (fun _ => ?_) (fun _ => ?_) | refine Qan (fun _ => ?_) (fun _ => ?_) | refine Qap (fun _ => ?_) (fun _ => ?_) | refine Qak (fun _ => ?_) (fun _ => ?_) | refine Qas (fun _ => ?_) (fun _ => ?_)) <;> try simp (maxSteps := 4000000) only [vm, vl, Arg.get, cells, stor, Qi, Qa, Qc, Qb, QA, Vm.part, Qu, splice, reduceIte, reduceCtorEq, Nat.reduceEqDiff, Nat.reduceAdd, Nat.reduceSub, Nat.reduceMul, Nat.reduceLeDiff, ne_eq, not_false_eq_true, Int.reduceEq, Int.reduceLT, Int.reduceLE, Int.reduceNeg, Int.reduceToNat, Int.reduceGT, Int.reduceGE, Nat.reduceLT, Nat.lt_add_one, Nat.zero_lt_succ, Nat.succ_pos, Nat.zero_le, beq_self_eq_true, QdQ, Qfa, Qe2, QeL, *]))
    exact ⟨0, by omega, 2, rfl, by omega, rfl, rfl⟩
  | 2, _ =>
    have z1 : List.take 256 (Qcn 2) = Qcn 2 := List.take_of_length_le (by rw [p2]; omega)
    have z2 : List.drop 256 (Qcn 2) = [] := List.drop_eq_nil_of_le (by rw [p2]; omega)
    simp (maxSteps := 4000000) only [vm, vl, Arg.get, cells, stor, Qa, Qc, Qb, QA, Vm.part, splice, reduceIte, reduceCtorEq, Nat.reduceEqDiff, Nat.reduceAdd, Nat.reduceSub, Nat.reduceLeDiff, Int.reduceLT, Int.reduceLE, Int.reduceToNat, Nat.reduceLT, QdQ, Qfa, Qe2, QeL, e0, e2, e3, e4, p2, z1, z2, List.append_nil]
    (repeat' ((first | refine Qao (fun _ => ?_) (fun _ => ?_) | refine Qaj (fun _ => ?_) (fun _ => ?_) | refine Qar (fun _ => ?_) (fun _ => ?_) | refine Qal (fun _ => ?_) (fun _ => ?_) | refine Qaq (fun _ => ?_) (fun _ => ?_) | refine Qan (fun _ => ?_) (fun _ => ?_) | refine Qap (fun _ => ?_) (fun _ => ?_) | refine Qak (fun _ => ?_) (fun _ => ?_) | refine Qas (fun _ => ?_) (fun _ => ?_)) <;> try simp (maxSteps := 4000000) only [vm, vl, Arg.get, cells, stor, Qi, Qa, Qc, Qb, QA, Vm.part, Qu, splice, reduceIte, reduceCtorEq, Nat.reduceEqDiff, Nat.reduceAdd, Nat.reduceSub, Nat.reduceMul, Nat.reduceLeDiff, ne_eq, not_false_eq_true, Int.reduceEq, Int.reduceLT, Int.reduceLE, Int.reduceNeg, Int.reduceToNat, Int.reduceGT, Int.reduceGE, Nat.reduceLT, Nat.lt_add_one, Nat.zero_lt_succ, Nat.succ_pos, Nat.zero_le, beq_self_eq_true, QdQ, Qfa, Qe2, QeL, *]))
    rfl
theorem Qv4 {c : UInt8} {id : Nat} (hb : h[id]? = some (.box QaL)) : Cf F L Qdj [.ptr id 0, byV c] h (Pu h (.bool (QaD c))) := by
  refine QB1 ?_
  simp only [QnN]
  have h1 : (c.toNat : Int) < 256 := by have := c.toNat_lt; omega
  have h2 : QaL.length = 256 := Qf9 2
  have h3 : c.toNat + 1 ≤ 256 := by have := c.toNat_lt; omega
  simp (maxSteps := 4000000) only [vm, vl, Arg.get, Qb, reduceIte, hb, QJM, h1, h2, h3]
theorem Qru {s : Bs} {n : Nat} (h : s.length = n + 1) : ∃ t c, s = t ++ [c] ∧ t.length = n ∧ s.getD n 0 = c ∧ s.take n = t := by
  have hne : s ≠ [] := by intro he; rw [he] at h; cases h
  obtain ⟨t, c, rfl⟩ : ∃ t c, s = t ++ [c] := ⟨s.dropLast, s.getLast hne, (List.dropLast_concat_getLast hne).symm⟩
  have hl : t.length = n := by simpa using h
  exact ⟨t, c, rfl, hl, by rw [List.getD_eq_getElem?_getD, List.getElem?_append_right (by omega)]; simp [hl], by rw [← hl]; simp⟩
theorem QFN {s : Bs} {id : Nat} (hs : s.length < 9223372036854775807) (hb : h[id]? = some (.box QaL)) : Cf F L Qgx [.str s, .ptr id 0] h (Pu h (.str (QX s))) := by
  refine Qyi ?_
  simp only [QoT]
  refine QCX (fun n e h' => ∃ r : Bs, n = r.length ∧ e 0 = .str r ∧ e 1 = .ptr id 0 ∧ (∃ t, h' = h ++ t) ∧ r.length ≤ s.length ∧ QX r = QX s) ?_ (n := s.length) ⟨s, rfl, rfl, rfl, ⟨[], by simp⟩, by omega, rfl⟩
  rintro n e h' ⟨r, rfl, e0, e1, ⟨t, rfl⟩, hl, hr⟩
  simp only [Qmo]
  rw [← hr]
  cases hn : r.length with
  | zero =>
    obtain rfl : r = [] := List.eq_nil_of_length_eq_zero hn
    simp (maxSteps := 4000000) only [vm, vl, Arg.get, Qi, reduceIte, reduceCtorEq, Nat.reduceEqDiff, Int.reduceGT, Qho, QjO, QjN, e0, e1]
    rfl
  | succ n =>
    obtain ⟨q, c, rfl, hq, hc, ht⟩ := Qru hn
    have w : IntKind.i64.wrap (((n + 1 : Nat) : Int) - 1) = n := by rw [Qe (by omega) (by omega)]; omega
    have g0 : ((n + 1 : Nat) : Int) > 0 := by omega
    have hb' : (h ++ t)[id]? = some (.box QaL) := Qp hb
    simp (maxSteps := 4000000) only [vm, vl, Arg.get, Qi, reduceIte, reduceCtorEq, Nat.reduceEqDiff, Nat.lt_add_one, Nat.zero_le, Qho, QjO, QjN, e0, e1, hn, w, g0, hc, ht]
    (repeat' ((first | refine Qao (fun _ => ?_) (fun _ => ?_) | refine Qaj (fun _ => ?_) (fun _ => ?_) | refine Qar (fun _ => ?_) (fun _ => ?_) | refine Qal (fun _ => ?_) (fun _ => ?_) | refine Qaq (fun _ => ?_) (fun _ => ?_) | refine Qan (fun _ => ?_) (fun _ => ?_) | refine Qap (fun _ => ?_) (fun _ => ?_) | refine Qak (fun _ => ?_) (fun _ => ?_) | refine Qas (fun _ => ?_) (fun _ => ?_) | refine Cf.pu (Qv4 hb') (fun _ => ?_)) <;> try simp (maxSteps := 4000000) only [vm, vl, Qho, QjO, QjN, *]))
    · rename_i hp
      simp at hp
      rw [← hr, Qo0 hp]
    · rename_i hp
      simp at hp
      exact ⟨by omega, q.length, by omega, q, rfl, rfl, ⟨_, rfl⟩, by rw [hn] at hl; omega, by rw [← hr, Qrj hp]⟩
theorem QJp {s : Bs} {id : Nat} (hs : s.length < 9223372036854775807) (hb : h[id]? = some (.box QaL)) : Cf F L Qfy [.str s, .ptr id 0] h (Pu h (.str (QaS s))) := by
  refine QCZ ?_
  simp only [Qpv]
  refine QAt (fun n e h' => ∃ r : Bs, n = r.length ∧ e 0 = .str r ∧ e 1 = .ptr id 0 ∧ (∃ t, h' = h ++ t) ∧ r.length ≤ s.length ∧ QaS r = QaS s) ?_ (n := s.length) ⟨s, rfl, rfl, rfl, ⟨[], by simp⟩, by omega, rfl⟩
  rintro n e h' ⟨r, rfl, e0, e1, ⟨t, rfl⟩, hl, hr⟩
  simp only [QqC]
  rw [← hr]
  cases r with
  | nil =>
    simp (maxSteps := 4000000) only [vm, vl, Arg.get, Qi, reduceIte, reduceCtorEq, Nat.reduceEqDiff, Nat.reduceLeDiff, Int.reduceLE, Int.reduceToNat, Int.reduceGT, Nat.reduceLT, Qhh, Qkw, Qj5, e0, e1]
    rfl
  | cons c q =>
    have g0 : (((c :: q).length : Nat) : Int) > 0 := by simp
    have g1 : 1 ≤ (c :: q).length := by simp
    have g2 : List.take (c :: q).length (c :: q) = c :: q := List.take_of_length_le (Nat.le_refl _)
    have g3 : 0 < (c :: q).length := by simp
    have hb' : (h ++ t)[id]? = some (.box QaL) := Qp hb
    simp only [List.length_cons] at g0 g1 g2 g3
    simp (maxSteps := 4000000) only [vm, vl, Arg.get, Qi, reduceIte, reduceCtorEq, Nat.reduceEqDiff, Int.reduceLE, Int.reduceToNat, Qhh, Qkw, Qj5, e0, e1, g0, g1, g2, g3]
    (repeat' ((first | refine Qao (fun _ => ?_) (fun _ => ?_) | refine Qaj (fun _ => ?_) (fun _ => ?_) | refine Qar (fun _ => ?_) (fun _ => ?_) | refine Qal (fun _ => ?_) (fun _ => ?_) | refine Qaq (fun _ => ?_) (fun _ => ?_) | refine Qan (fun _ => ?_) (fun _ => ?_) | refine Qap (fun _ => ?_) (fun _ => ?_) | refine Qak (fun _ => ?_) (fun _ => ?_) | refine Qas (fun _ => ?_) (fun _ => ?_) | refine Cf.pu (Qv4 hb') (fun _ => ?_)) <;> try simp (maxSteps := 4000000) only [vm, vl, Qhh, Qkw, Qj5, *]))
    · rename_i hp
      simp at hp
      rw [← hr, Qg6 hp]
    · rename_i hp
      simp at hp
      exact ⟨q.length, by omega, q, rfl, rfl, ⟨_, rfl⟩, by simp at hl; omega, by rw [← hr, Qkd hp]⟩
theorem QE6 {s : Bs} (hs : s.length < 9223372036854775807) : Cf F L Qf0 [.str s, .str [32, 9]] h (Pu h (.str (trim s))) := by
  refine Qwg ?_
  simp only [Qpp]
  have q1 : (([32, 9] : Bs) == []) = false := rfl
  cases s with
  | nil =>
    have q2 : (([] : Bs) == []) = true := rfl
    simp (maxSteps := 4000000) only [vm, vl, Arg.get, cells, stor, splice, reduceIte, Nat.reduceAdd, Int.reduceEq, Int.reduceLE, Int.reduceToNat, Nat.succ_pos, beq_self_eq_true, Qja, Qkp, Qkn, q1, q2]
    rfl
  | cons c r =>
    have q2 : ((c :: r : Bs) == []) = false := rfl
    have l1 : QaL.length = 256 := Qf9 2
    have l2 : List.take 256 QaL = QaL := List.take_of_length_le (by omega)
    have l3 : ∀ q, List.drop (0 + 256) (List.replicate 256 q : List V) = [] := fun q => List.drop_eq_nil_of_le (by rw [List.length_replicate]; omega)
    simp (maxSteps := 4000000) only [vm, vl, Arg.get, cells, stor, splice, reduceIte, Nat.reduceAdd, Int.reduceEq, Int.reduceLE, Int.reduceToNat, Nat.succ_pos, Qja, Qkp, Qkn, q1, q2]
    (repeat' ((first | refine Qao (fun _ => ?_) (fun _ => ?_) | refine Qaj (fun _ => ?_) (fun _ => ?_) | refine Qar (fun _ => ?_) (fun _ => ?_) | refine Qal (fun _ => ?_) (fun _ => ?_) | refine Qaq (fun _ => ?_) (fun _ => ?_) | refine Qan (fun _ => ?_) (fun _ => ?_) | refine Qap (fun _ => ?_) (fun _ => ?_) | refine Qak (fun _ => ?_) (fun _ => ?_) | refine Qas (fun _ => ?_) (fun _ => ?_) | refine Cf.pu QAR (fun _ => ?_)) <;> try simp (maxSteps := 4000000) only [vm, vl, Qja, Qkp, Qkn, *]))
    rename_i t
    refine ⟨by rw [List.length_replicate]; omega, ?_⟩
    have hb : (h ++ (t ++ [O.box (QaL ++ [])]))[h.length + t.length]? = some (.box QaL) := by
      rw [List.append_nil, ← List.append_assoc, List.getElem?_append_right (by simp)]
      simp
    refine Cf.pu (QFN hs hb) fun t' => ?_
    refine Cf.pu (QJp (Nat.lt_of_le_of_lt (QFR _) hs) (Qp hb)) fun t'' => ?_
    exact ⟨rfl, _, by rw [List.append_assoc, List.append_assoc]⟩
theorem QF6 {s : Bs} (hs : s.length < 9223372036854775807) : Cf F L QfF [.str s] h (Pu h (.str (trim s))) := by
  refine QJ5 ?_
  simp only [Qk0]
  simp (maxSteps := 4000000) only [vm, vl, Arg.get]
  (repeat' ((first | refine Qao (fun _ => ?_) (fun _ => ?_) | refine Qaj (fun _ => ?_) (fun _ => ?_) | refine Qar (fun _ => ?_) (fun _ => ?_) | refine Qal (fun _ => ?_) (fun _ => ?_) | refine Qaq (fun _ => ?_) (fun _ => ?_) | refine Qan (fun _ => ?_) (fun _ => ?_) | refine Qap (fun _ => ?_) (fun _ => ?_) | refine Qak (fun _ => ?_) (fun _ => ?_) | refine Qas (fun _ => ?_) (fun _ => ?_) | refine Cf.pu (QE6 hs) (fun _ => ?_)) <;> try simp (maxSteps := 4000000) only [vm, vl, *]))
end Go.Proofs.YtaahialaegfjgaaGreatDoor.Vh
end
section
set_option linter.unusedVariables false
set_option linter.unusedSimpArgs false
namespace Go.Proofs.YtaahialaegfjgaaGreatDoor.Vh
open Go.Vm Go.Vt
attribute [local congr] QF QI QE QG QD QJ
variable {L : QL} {h : Heap}
theorem Qwv (c : UInt8) : (c.toNat : Int) ≥ 97 → (c.toNat : Int) ≤ 122 → QaN c = true :=
  Qa2 (p := fun c => (c.toNat : Int) ≥ 97 → (c.toNat : Int) ≤ 122 → QaN c = true) (by decide +kernel) c
theorem QFO (c : UInt8) : (c.toNat : Int) ≥ 65 → (c.toNat : Int) ≤ 90 → QaN c = true :=
  Qa2 (p := fun c => (c.toNat : Int) ≥ 65 → (c.toNat : Int) ≤ 90 → QaN c = true) (by decide +kernel) c
theorem Qw3 (c : UInt8) : ¬ ((c.toNat : Int) ≥ 97 ∧ (c.toNat : Int) ≤ 122) → ¬ ((c.toNat : Int) ≥ 65 ∧ (c.toNat : Int) ≤ 90) → ¬ ((c.toNat : Int) ≥ 48 ∧ (c.toNat : Int) ≤ 57) → ¬ (c.toNat : Int) ∈ QaH → QaN c = false :=
  Qa2 (p := fun c => ¬ ((c.toNat : Int) ≥ 97 ∧ (c.toNat : Int) ≤ 122) → ¬ ((c.toNat : Int) ≥ 65 ∧ (c.toNat : Int) ≤ 90) → ¬ ((c.toNat : Int) ≥ 48 ∧ (c.toNat : Int) ≤ 57) → ¬ (c.toNat : Int) ∈ QaH → QaN c = false) (by decide +kernel) c
theorem Qxs {c : UInt8} : Cf F L Qeq [byV c] h (Pu h (.bool (QaN c))) := by
  refine QGY ?_
  simp only [Qpo]
  by_cases h1 : (c.toNat : Int) ≥ 97 ∧ (c.toNat : Int) ≤ 122
  · have e := Qwv c h1.1 h1.2
    have h2 := h1.1
    have h3 := h1.2
    simp (maxSteps := 4000000) only [vm, vl, Arg.get, reduceIte, Qe8, QaB, Qe5, h2, h3, e]
  by_cases h2 : (c.toNat : Int) ≥ 65 ∧ (c.toNat : Int) ≤ 90
  · have e := QFO c h2.1 h2.2
    have h3 := h2.1
    have h4 := h2.2
    have h5 : ¬ (c.toNat : Int) ≥ 97 := by omega
    simp (maxSteps := 4000000) only [vm, vl, Arg.get, reduceIte, Qe8, QaB, Qe5, h3, h4, h5, e]
  by_cases h3 : (c.toNat : Int) ≥ 48 ∧ (c.toNat : Int) ≤ 57
  · have e := Qs1 c h3.1 h3.2
    have h4 := h3.1
    have h5 := h3.2
    have h6 : ¬ (c.toNat : Int) ≥ 97 := by omega
    have h7 : ¬ (c.toNat : Int) ≥ 65 := by omega
    simp (maxSteps := 4000000) only [vm, vl, Arg.get, reduceIte, Qe8, QaB, Qe5, h4, h5, h6, h7, e]
  have h4 : ((c.toNat : Int) ∈ QaH) = ((c.toNat : Int) = 33 ∨ (c.toNat : Int) = 35 ∨ (c.toNat : Int) = 36 ∨ (c.toNat : Int) = 37 ∨ (c.toNat : Int) = 38 ∨ (c.toNat : Int) = 39 ∨ (c.toNat : Int) = 42 ∨ (c.toNat : Int) = 43 ∨ (c.toNat : Int) = 45 ∨ (c.toNat : Int) = 46 ∨ (c.toNat : Int) = 94 ∨ (c.toNat : Int) = 95 ∨ (c.toNat : Int) = 96 ∨ (c.toNat : Int) = 124 ∨ (c.toNat : Int) = 126) := by
    simp only [QaH, List.mem_cons, List.not_mem_nil, or_false]
  by_cases hm : (c.toNat : Int) ∈ QaH
  · rw [Qu2 c hm]
    rw [h4] at hm
    clear h4
    simp (maxSteps := 4000000) only [vm, vl, Arg.get, Qe8, QaB, Qe5]
    (repeat' ((first | refine Qao (fun _ => ?_) (fun _ => ?_) | refine Qaj (fun _ => ?_) (fun _ => ?_) | refine Qar (fun _ => ?_) (fun _ => ?_) | refine Qal (fun _ => ?_) (fun _ => ?_) | refine Qaq (fun _ => ?_) (fun _ => ?_) | refine Qan (fun _ => ?_) (fun _ => ?_) | refine Qap (fun _ => ?_) (fun _ => ?_) | refine Qak (fun _ => ?_) (fun _ => ?_) | refine Qas (fun _ => ?_) (fun _ => ?_)) <;> try simp (maxSteps := 4000000) only [vm, vl, Arg.get, reduceIte, Qe8, QaB, Qe5, *]))
    all_goals (exfalso; omega)
  · rw [Qw3 c h1 h2 h3 hm]
    rw [h4] at hm
    clear h4
    simp (maxSteps := 4000000) only [vm, vl, Arg.get, Qe8, QaB, Qe5]
    (repeat' ((first | refine Qao (fun _ => ?_) (fun _ => ?_) | refine Qaj (fun _ => ?_) (fun _ => ?_) | refine Qar (fun _ => ?_) (fun _ => ?_) | refine Qal (fun _ => ?_) (fun _ => ?_) | refine Qaq (fun _ => ?_) (fun _ => ?_) | refine Qan (fun _ => ?_) (fun _ => ?_) | refine Qap (fun _ => ?_) (fun _ => ?_) | refine Qak (fun _ => ?_) (fun _ => ?_) | refine Qas (fun _ => ?_) (fun _ => ?_)) <;> try simp (maxSteps := 4000000) only [vm, vl, Arg.get, reduceIte, reduceCtorEq, Qe8, QaB, Qe5, *]))
    all_goals (exfalso; omega)
theorem Que {c : UInt8} : Cf F L Qdw [byV c] h (Pu h (.bool (QaD c))) := by
  refine QGx ?_
  simp only [Qmk]
  simp (maxSteps := 4000000) only [vm, vl, Arg.get]
  (repeat' ((first | refine Qao (fun _ => ?_) (fun _ => ?_) | refine Qaj (fun _ => ?_) (fun _ => ?_) | refine Qar (fun _ => ?_) (fun _ => ?_) | refine Qal (fun _ => ?_) (fun _ => ?_) | refine Qaq (fun _ => ?_) (fun _ => ?_) | refine Qan (fun _ => ?_) (fun _ => ?_) | refine Qap (fun _ => ?_) (fun _ => ?_) | refine Qak (fun _ => ?_) (fun _ => ?_) | refine Qas (fun _ => ?_) (fun _ => ?_)) <;> try simp (maxSteps := 4000000) only [vm, vl, Arg.get, reduceIte, *]))
  all_goals simp [QDG, *]
theorem Qso {c : UInt8} : Cf F L Qfj [byV c] h (Pu h (.bool (Qch c))) := by
  refine QAx ?_
  simp only [QmW]
  simp (maxSteps := 4000000) only [vm, vl, Arg.get]
  (repeat' ((first | refine Qao (fun _ => ?_) (fun _ => ?_) | refine Qaj (fun _ => ?_) (fun _ => ?_) | refine Qar (fun _ => ?_) (fun _ => ?_) | refine Qal (fun _ => ?_) (fun _ => ?_) | refine Qaq (fun _ => ?_) (fun _ => ?_) | refine Qan (fun _ => ?_) (fun _ => ?_) | refine Qap (fun _ => ?_) (fun _ => ?_) | refine Qak (fun _ => ?_) (fun _ => ?_) | refine Qas (fun _ => ?_) (fun _ => ?_)) <;> try simp (maxSteps := 4000000) only [vm, vl, Arg.get, reduceIte, *]))
  all_goals simp [QEQ, *]
theorem QjR {s : Bs} (hs : s.length < 9223372036854775807) : Cf F L Qdx [.str s] h (Pu h (.bool (QaO s))) := by
  refine QyU ?_
  simp only [QnB]
  refine QA8 (fun n e h' => ∃ i, n = s.length - i ∧ i ≤ s.length ∧ e 0 = .str s ∧ e 3 = .int .i64 i ∧ (∃ t, h' = h ++ t) ∧ s.all QaN = (s.drop i).all QaN) ?_ (n := s.length) ⟨0, by simp, by simp, rfl, rfl, ⟨[], by simp⟩, rfl⟩
  rintro n e h' ⟨i, rfl, hi, e0, e3, ⟨t, rfl⟩, hall⟩
  simp only [Qnp]
  rcases QbQ hi with ⟨hn, rfl, hd⟩ | ⟨c, hl, hl', hc, hd⟩
  · simp (maxSteps := 4000000) only [vm, vl, Arg.get, reduceIte, reduceCtorEq, Nat.reduceEqDiff, Qh2, QjL, Qi8, e0, e3, hn]
    rw [QaO, hall, hd]
    cases s <;> simp
  · have w := Qe (x := (i : Int) + 1) (by omega) (by omega)
    rw [hd] at hall
    simp (maxSteps := 4000000) only [vm, vl, Arg.get, reduceIte, reduceCtorEq, Nat.reduceEqDiff, Qh2, QjL, Qi8, e0, e3, hl, hc, hl', w]
    (repeat' ((first | refine Qao (fun _ => ?_) (fun _ => ?_) | refine Qaj (fun _ => ?_) (fun _ => ?_) | refine Qar (fun _ => ?_) (fun _ => ?_) | refine Qal (fun _ => ?_) (fun _ => ?_) | refine Qaq (fun _ => ?_) (fun _ => ?_) | refine Qan (fun _ => ?_) (fun _ => ?_) | refine Qap (fun _ => ?_) (fun _ => ?_) | refine Qak (fun _ => ?_) (fun _ => ?_) | refine Qas (fun _ => ?_) (fun _ => ?_) | refine Cf.pu Qxs (fun _ => ?_)) <;> try simp (maxSteps := 4000000) only [vm, vl, Qh2, QjL, Qi8, *]))
    · rename_i hp; simp at hp
      rw [QaO, hall]
      simp [hp]
    · rename_i hp; simp at hp
      refine ⟨s.length - (i + 1), by omega, i + 1, rfl, hl', by simp, ⟨_, rfl⟩, ?_⟩
      simp [hp]
theorem QJk (c : UInt8) : (c.toNat : Int) ≥ 65 → (c.toNat : Int) ≤ 90 → IntKind.u8.wrap ((c.toNat : Int) + 32) = ((QcZ c).toNat : Int) :=
  Qa2 (p := fun c => (c.toNat : Int) ≥ 65 → (c.toNat : Int) ≤ 90 → IntKind.u8.wrap ((c.toNat : Int) + 32) = ((QcZ c).toNat : Int)) (by decide +kernel) c
theorem Qud {c : UInt8} {h : Heap} : Qg (.toStr (.c (.sl 1 .full [byV c]))) E0 h = some (.str [c], h) := by
  simp [Qg, Arg.get, QaW, QdJ, QhC]
theorem Qie {s : Bs} (hs : s.length ≤ 140737488355328) : Cf F L Qb4 [.str s] h (Pu h (.str (low s))) := by
  refine QH9 ?_
  simp only [Qqk]
  refine QBb (fun n e h' => ∃ i, n = s.length - i ∧ i ≤ s.length ∧ e 0 = .str s ∧ e 3 = .str (low (s.take i)) ∧ e 4 = .int .i64 i ∧ (∃ t, h' = h ++ t)) ?_ (n := s.length) ⟨0, by simp, by simp, rfl, rfl, rfl, ⟨[], by simp⟩⟩
  rintro n e h' ⟨i, rfl, hi, e0, e3, e4, ⟨t, rfl⟩⟩
  simp only [QqA]
  rcases QbQ hi with ⟨hn, rfl, hd⟩ | ⟨c, hl, hl', hc, hd⟩
  · simp (maxSteps := 4000000) only [vm, vl, Arg.get, cells, stor, reduceIte, reduceCtorEq, Nat.reduceEqDiff, Qg7, QiA, QgF, QiI, e0, e3, e4, hn]
    simp
  · have w := Qe (x := (i : Int) + 1) (by omega) (by omega)
    have g : (low (s.take i)).length + [QcZ c].length ≤ 9223372036854775807 := by rw [QgT, List.length_take]; simp; omega
    have g1 : Qx .add (.str (low (s.take i))) (.str [QcZ c]) = some (.str (low (s.take (i + 1)))) := by
      rw [Qer g, Qea hl' hd, QnO]; rfl
    by_cases hu : (c.toNat : Int) ≥ 65 ∧ (c.toNat : Int) ≤ 90
    · have h1 := hu.1
      have h2 := hu.2
      have h3 := QJk c h1 h2
      simp (maxSteps := 4000000) only [vm, vl, Arg.get, cells, stor, reduceIte, reduceCtorEq, Nat.reduceEqDiff, Qg7, QiA, QgF, QiI, e0, e3, e4, hl, hc, hl', w, h1, h2, h3, Qud, g1]
      exact ⟨s.length - (i + 1), by omega, i + 1, rfl, hl', rfl, rfl, _, rfl⟩
    · have h3 := Qqf c hu
      rw [h3] at g1
      have ts : ∀ h, Qg (.toStr (.c (.sl 1 .full [byV c]))) E0 h = some (.str [c], h) := fun h => Qud
      simp (maxSteps := 4000000) only [vm, vl, Arg.get, cells, stor, reduceIte, reduceCtorEq, Nat.reduceEqDiff, Qg7, QiA, QgF, QiI, e0, e3, e4, hl, hc, hl', w]
      (repeat' ((first | refine Qao (fun _ => ?_) (fun _ => ?_) | refine Qaj (fun _ => ?_) (fun _ => ?_) | refine Qar (fun _ => ?_) (fun _ => ?_) | refine Qal (fun _ => ?_) (fun _ => ?_) | refine Qaq (fun _ => ?_) (fun _ => ?_) | refine Qan (fun _ => ?_) (fun _ => ?_) | refine Qap (fun _ => ?_) (fun _ => ?_) | refine Qak (fun _ => ?_) (fun _ => ?_) | refine Qas (fun _ => ?_) (fun _ => ?_)) <;> try simp (maxSteps := 4000000) only [vm, vl, Arg.get, reduceIte, Qg7, QiA, QgF, QiI, *]))
      all_goals first
        | (exfalso; omega)
        | exact ⟨s.length - (i + 1), by omega, i + 1, rfl, hl', rfl, rfl, _, rfl⟩
theorem Qsp {s t : Bs} (hs : s.length ≤ 140737488355328) (ht : t.length ≤ 140737488355328) : Cf F L QdA [.str s, .str t] h (Pu h (.bool (low s == low t))) := by
  refine Qzs ?_
  simp only [QmE]
  simp (maxSteps := 4000000) only [vm, vl, Arg.get]
  (repeat' ((first | refine Qao (fun _ => ?_) (fun _ => ?_) | refine Qaj (fun _ => ?_) (fun _ => ?_) | refine Qar (fun _ => ?_) (fun _ => ?_) | refine Qal (fun _ => ?_) (fun _ => ?_) | refine Qaq (fun _ => ?_) (fun _ => ?_) | refine Qan (fun _ => ?_) (fun _ => ?_) | refine Qap (fun _ => ?_) (fun _ => ?_) | refine Qak (fun _ => ?_) (fun _ => ?_) | refine Qas (fun _ => ?_) (fun _ => ?_) | refine Cf.pu (Qie hs) (fun _ => ?_) | refine Cf.pu (Qie ht) (fun _ => ?_)) <;> try simp (maxSteps := 4000000) only [vm, vl, *]))
theorem QrC {s : Bs} (hs : s.length < 9223372036854775807) : Cf F L Qd2 [.str s] h (Pu h (.str (trim s))) := by
  refine QBI ?_
  simp only [QpI]
  rw [← QxB]
  refine QHF (fun n e h' => ∃ r : Bs, n = r.length ∧ e 0 = .str r ∧ (∃ t, h' = h ++ t) ∧ r.length ≤ s.length ∧ QaS r = QaS s) ?_ (n := s.length) ⟨s, rfl, rfl, ⟨[], by simp⟩, by omega, rfl⟩
  rintro n e h' ⟨r, rfl, e0, ⟨t, rfl⟩, hl, hr⟩
  have right : ∀ {e : Env} {h' : Heap} {r : Bs}, e 0 = .str r → (∃ t, h' = h ++ t) → r.length ≤ s.length → QX r = QX (QaS s) → Wl F L Qo2 (Qpc L (Pu h (.str (QX (QaS s))))) e h' := by
    intro e h' r e0 ht hl hr
    refine QJL (fun n e h' => ∃ r : Bs, n = r.length ∧ e 0 = .str r ∧ (∃ t, h' = h ++ t) ∧ r.length ≤ s.length ∧ QX r = QX (QaS s)) ?_ (n := r.length) ⟨r, rfl, e0, ht, hl, hr⟩
    rintro n e h' ⟨r, rfl, e0, ⟨t, rfl⟩, hl, hr⟩
    simp only [Qmb]
    rw [← hr]
    cases hn : r.length with
    | zero =>
      obtain rfl : r = [] := List.eq_nil_of_length_eq_zero hn
      simp (maxSteps := 4000000) only [vm, vl, Arg.get, Qi, reduceIte, reduceCtorEq, Int.reduceGT, Qff, Qgg, Qex, Qgt, e0]
      rfl
    | succ n =>
      obtain ⟨q, c, rfl, hq, hc, ht⟩ := Qru hn
      have w : IntKind.i64.wrap (((n + 1 : Nat) : Int) - 1) = n := by rw [Qe (by omega) (by omega)]; omega
      have g0 : ((n + 1 : Nat) : Int) > 0 := by omega
      simp (maxSteps := 4000000) only [vm, vl, Arg.get, Qi, reduceIte, reduceCtorEq, Nat.lt_add_one, Nat.zero_le, Qff, Qgg, Qex, Qgt, e0, hn, w, g0, hc, ht]
      (repeat' ((first | refine Qao (fun _ => ?_) (fun _ => ?_) | refine Qaj (fun _ => ?_) (fun _ => ?_) | refine Qar (fun _ => ?_) (fun _ => ?_) | refine Qal (fun _ => ?_) (fun _ => ?_) | refine Qaq (fun _ => ?_) (fun _ => ?_) | refine Qan (fun _ => ?_) (fun _ => ?_) | refine Qap (fun _ => ?_) (fun _ => ?_) | refine Qak (fun _ => ?_) (fun _ => ?_) | refine Qas (fun _ => ?_) (fun _ => ?_) | refine Cf.pu Que (fun _ => ?_)) <;> try simp (maxSteps := 4000000) only [vm, vl, Qff, Qgg, Qex, Qgt, *]))
      · rename_i hp
        exact ⟨by omega, q.length, by omega, q, rfl, rfl, ⟨_, rfl⟩, by rw [hn] at hl; omega, by rw [← hr, Qrj hp]⟩
      · rename_i hp
        rw [← hr, Qo0 hp]
  simp only [QnW]
  cases r with
  | nil =>
    simp (maxSteps := 4000000) only [vm, vl, Arg.get, Qi, reduceIte, reduceCtorEq, Nat.reduceLeDiff, Int.reduceLE, Int.reduceToNat, Int.reduceGT, Qff, Qgg, Qex, Qgt, e0]
    exact right (r := []) (by simp [upd, e0]) ⟨_, rfl⟩ (by simp) (by rw [← hr]; rfl)
  | cons c q =>
    have g0 : (((c :: q).length : Nat) : Int) > 0 := by simp
    have g1 : 1 ≤ (c :: q).length := by simp
    have g2 : List.take (c :: q).length (c :: q) = c :: q := List.take_of_length_le (Nat.le_refl _)
    have g3 : 0 < (c :: q).length := by simp
    simp only [List.length_cons] at g0 g1 g2 g3
    simp (maxSteps := 4000000) only [vm, vl, Arg.get, Qi, reduceIte, reduceCtorEq, Int.reduceLE, Int.reduceToNat, Qff, Qgg, Qex, Qgt, e0, g0, g1, g2, g3]
    (repeat' ((first | refine Qao (fun _ => ?_) (fun _ => ?_) | refine Qaj (fun _ => ?_) (fun _ => ?_) | refine Qar (fun _ => ?_) (fun _ => ?_) | refine Qal (fun _ => ?_) (fun _ => ?_) | refine Qaq (fun _ => ?_) (fun _ => ?_) | refine Qan (fun _ => ?_) (fun _ => ?_) | refine Qap (fun _ => ?_) (fun _ => ?_) | refine Qak (fun _ => ?_) (fun _ => ?_) | refine Qas (fun _ => ?_) (fun _ => ?_) | refine Cf.pu Que (fun _ => ?_)) <;> try simp (maxSteps := 4000000) only [vm, vl, Qff, Qgg, Qex, Qgt, *]))
    · rename_i hp
      exact ⟨q.length, by omega, q, rfl, rfl, ⟨_, rfl⟩, by simp at hl; omega, by rw [← hr, Qkd hp]⟩
    · rename_i hp
      exact right (by simp [upd, e0]) ⟨_, rfl⟩ hl (by rw [← hr, Qg6 hp])
end Go.Proofs.YtaahialaegfjgaaGreatDoor.Vh
end
