/- Texts as lists of bytes: tokens, values, small letters, blanks, lists' elements, pairs, quoted texts, numbers: in plain words. -/
import Derived.Test.YtfihnnebffkbfaaDoorVmHo
set_option linter.unusedVariables false
set_option linter.unusedSimpArgs false
namespace Go.Vt
abbrev Bs := List UInt8
/-- What holds of each byte, by trying all. -/
theorem byte_all {p : UInt8 → Prop} [DecidablePred p] (h : ∀ n : Fin 256, p (UInt8.ofNat n.val)) (c : UInt8) : p c := by
  have := h ⟨c.toNat, c.toNat_lt⟩
  simpa using this
def blankB (c : UInt8) : Bool := c == 32 || c == 9
def digB (c : UInt8) : Bool := decide (48 ≤ c.toNat) && decide (c.toNat ≤ 57)
def tokB (c : UInt8) : Bool := (decide (97 ≤ c.toNat) && decide (c.toNat ≤ 122)) || (decide (65 ≤ c.toNat) && decide (c.toNat ≤ 90)) || digB c || [33, 35, 36, 37, 38, 39, 42, 43, 45, 46, 94, 95, 96, 124, 126].contains c
def valB (c : UInt8) : Bool := blankB c || (decide (32 < c.toNat) && c != 127)
def txtB (c : UInt8) : Bool := c == 9 || (decide (32 ≤ c.toNat) && c != 127)
def lowB (c : UInt8) : UInt8 := if 65 ≤ c.toNat ∧ c.toNat ≤ 90 then c + 32 else c
def isTok (s : Bs) : Bool := !s.isEmpty && s.all tokB
def low (s : Bs) : Bs := s.map lowB
def trimL (s : Bs) : Bs := s.dropWhile blankB
def trimR : Bs → Bs
  | [] => []
  | c :: r => match trimR r with
    | [] => if blankB c then [] else [c]
    | r' => c :: r'
def trim (s : Bs) : Bs := trimL (trimR s)
def isVal (s : Bs) : Bool := decide (trim s = s) && s.all valB
theorem low_length (s : Bs) : (low s).length = s.length := by simp [low]
theorem low_append (s t : Bs) : low (s ++ t) = low s ++ low t := by simp [low]
theorem lowB_lowB (c : UInt8) : lowB (lowB c) = lowB c := byte_all (p := fun c => lowB (lowB c) = lowB c) (by decide +kernel) c
theorem low_low (s : Bs) : low (low s) = low s := by
  simp only [low, List.map_map]
  exact List.map_congr_left fun c _ => lowB_lowB c
theorem trimL_length (s : Bs) : (trimL s).length ≤ s.length := by
  unfold trimL
  exact (List.dropWhile_suffix blankB).length_le
theorem trimR_cons_ne {c : UInt8} {r : Bs} (h : trimR r ≠ []) : trimR (c :: r) = c :: trimR r := by
  conv => lhs; unfold trimR
  cases hr : trimR r with
  | nil => exact absurd hr h
  | cons a l => rfl
theorem trimR_cons_nil {c : UInt8} {r : Bs} (h : trimR r = []) : trimR (c :: r) = if blankB c then [] else [c] := by
  conv => lhs; unfold trimR
  rw [h]
theorem trimR_length (s : Bs) : (trimR s).length ≤ s.length := by
  induction s with
  | nil => simp [trimR]
  | cons c r ih =>
    by_cases h : trimR r = []
    · rw [trimR_cons_nil h]; split <;> simp
    · rw [trimR_cons_ne h]; simp; exact ih
theorem trim_length (s : Bs) : (trim s).length ≤ s.length := Nat.le_trans (trimL_length _) (trimR_length s)
/-- A text without blanks at its right end, and blanks behind. -/
theorem trimR_blank {s : Bs} {c : UInt8} (h : blankB c = true) : trimR (s ++ [c]) = trimR s := by
  induction s with
  | nil => simp [trimR, h]
  | cons a r ih =>
    rw [List.cons_append]
    by_cases hr : trimR r = []
    · rw [trimR_cons_nil (by rw [ih]; exact hr), trimR_cons_nil hr]
    · rw [trimR_cons_ne (by rw [ih]; exact hr), trimR_cons_ne hr, ih]
theorem trimR_full {s : Bs} {c : UInt8} (h : blankB c = false) : trimR (s ++ [c]) = s ++ [c] := by
  induction s with
  | nil => simp [trimR, h]
  | cons a r ih =>
    rw [List.cons_append, trimR_cons_ne (by rw [ih]; simp), ih]
theorem trimL_blank {s : Bs} {c : UInt8} (h : blankB c = true) : trimL (c :: s) = trimL s := by simp [trimL, h]
theorem trimL_full {s : Bs} {c : UInt8} (h : blankB c = false) : trimL (c :: s) = c :: s := by simp [trimL, h]
theorem trimR_nil_iff {s : Bs} : trimR s = [] ↔ ∀ c ∈ s, blankB c = true := by
  induction s with
  | nil => simp [trimR]
  | cons c r ih =>
    by_cases h : trimR r = []
    · rw [trimR_cons_nil h]
      have := ih.1 h
      by_cases hc : blankB c = true
      · simp [hc]; exact this
      · simp [hc]
    · rw [trimR_cons_ne h]
      refine ⟨fun hh => by simp at hh, fun hh => absurd (ih.2 fun x hx => hh x (List.mem_cons_of_mem _ hx)) h⟩
theorem trimL_nil_iff {s : Bs} : trimL s = [] ↔ ∀ c ∈ s, blankB c = true := by
  unfold trimL
  induction s with
  | nil => simp
  | cons c r ih => 
    by_cases hc : blankB c = true
    · simp [hc, ih]
    · simp [hc]
/-- Left first, then right: the same. -/
theorem trim_comm (s : Bs) : trimR (trimL s) = trim s := by
  unfold trim
  induction s with
  | nil => rfl
  | cons c r ih =>
    by_cases hc : blankB c = true
    · rw [trimL_blank hc]
      by_cases h : trimR r = []
      · rw [trimR_cons_nil h, if_pos hc]
        have : trimL r = [] := trimL_nil_iff.2 (trimR_nil_iff.1 h)
        rw [this]; rfl
      · rw [trimR_cons_ne h, trimL_blank hc, ih]
    · have hc' : blankB c = false := by simpa using hc
      rw [trimL_full hc']
      by_cases h : trimR r = []
      · rw [trimR_cons_nil h, if_neg hc, trimL_full hc']
      · rw [trimR_cons_ne h, trimL_full hc']
/-- A list's elements: own: what has been read of this one. -/
def flush (out : List Bs) (own : Bs) : List Bs := if trim own = [] then out else out ++ [trim own]
def splitG : Bs → Bs → Bool → List Bs → Option (List Bs)
  | [], own, q, out => if q then none else some (flush out own)
  | [c], own, q, out =>
    if c = 34 then (if q then some (flush out (own ++ [c])) else none) else if q then none else if c = 44 then some (flush (flush out own) []) else some (flush out (own ++ [c]))
  | c :: d :: r, own, q, out =>
    if c = 34 then splitG (d :: r) (own ++ [c]) (!q) out
    else if q && c == 92 then splitG r (own ++ [c, d]) q out
    else if !q && c == 44 then splitG (d :: r) [] q (flush out own)
    else splitG (d :: r) (own ++ [c]) q out
def split (s : Bs) : Option (List Bs) := splitG s [] false []
def cutAt (x : UInt8) : Bs → Option (Bs × Bs)
  | [] => none
  | c :: r => if c = x then some ([], r) else (cutAt x r).map fun p => (c :: p.1, p.2)
def unqG : Bs → Bs → Option Bs
  | [], _ => none
  | [c], out => if c = 34 then some out else none
  | c :: d :: r, out => if c = 34 then none else if c = 92 then (if txtB d then unqG r (out ++ [d]) else none) else if txtB c then unqG (d :: r) (out ++ [c]) else none
def unq : Bs → Option Bs
  | 34 :: r => unqG r []
  | _ => none
structure Pr where
  name : Bs
  value : Bs
  has : Bool
  ok : Bool
  deriving DecidableEq
def pairS (s : Bs) : Pr :=
  match cutAt 61 s with
  | none => if isTok s then ⟨s, [], false, true⟩ else ⟨[], [], false, false⟩
  | some (n, v) => if !isTok n then ⟨[], [], false, false⟩ else if isTok v then ⟨n, v, true, true⟩ else match unq v with
    | some u => ⟨n, u, true, true⟩
    | none => ⟨[], [], false, false⟩
def quoteS (s : Bs) : Option Bs := if s.all txtB then some (34 :: (s.flatMap fun c => if c = 34 ∨ c = 92 then [92, c] else [c]) ++ [34]) else none
/-- A number of digits, at most so much. -/
def numG : Bs → Int → Int → Int
  | [], n, _ => n
  | c :: r, n, most => if (c.toNat : Int) - 48 > most ∨ n > (most - ((c.toNat : Int) - 48)) / 10 then most else numG r (10 * n + ((c.toNat : Int) - 48)) most
def numS (s : Bs) (most : Int) : Int × Bool := if s.isEmpty || decide (most < 0) || !s.all digB then (0, false) else (numG s 0 most, true)
end Go.Vt
