/- Functions that answer, and leave the heap but for new boxes: the form of most contracts. -/
import Derived.Test.YtfihnnebffkbfaaDoorVmRow
namespace Go.Vm
set_option linter.unusedVariables false
set_option linter.unusedSimpArgs false
variable {F : FuncId → Option FnC} {L : FuncId → List V → V → Prop}
/-- The answer is x, and there may be new boxes. -/
def Pu (h : Heap) (x : V) (v : V) (h' : Heap) : Prop := v = x ∧ ∃ t, h' = h ++ t
theorem Cf.pu {f : FuncId} {args : List V} {h : Heap} {x : V} {K : V → Heap → Prop} (hc : Cf F L f args h (Pu h x)) (k : ∀ t, K x (h ++ t)) : Cf F L f args h K :=
  hc.mono fun v h' ⟨e, t, e'⟩ => by subst e; subst e'; exact k t
theorem pu_app (h t : Heap) (x y : V) : Pu h x y (h ++ t) = (y = x) := propext ⟨fun hp => hp.1, fun he => ⟨he, t, rfl⟩⟩
theorem pu_same (h : Heap) (x y : V) : Pu h x y h = (y = x) := propext ⟨fun hp => hp.1, fun he => ⟨he, [], by simp⟩⟩
theorem ext_apps (h a b : Heap) : Ext (h ++ a) (h ++ b) = Ext a b := by
  refine propext ⟨fun hx i hi => ?_, fun hx i hi => ?_⟩
  · have := hx (h.length + i) (by simp; omega)
    rwa [get_new, get_new] at this
  · by_cases hl : i < h.length
    · rw [List.getElem?_append_left hl, List.getElem?_append_left hl]
    · rw [List.getElem?_append_right (by omega), List.getElem?_append_right (by omega)]
      exact hx _ (by simp at hi; omega)
theorem ext_cons (o : O) (a b : Heap) : Ext (o :: a) (o :: b) = Ext a b := ext_apps [o] a b
theorem ext_nil (b : Heap) : Ext [] b = True := eq_true fun i hi => absurd hi (by simp)
theorem ext_appT (h t : Heap) : Ext h (h ++ t) = True := eq_true (ext_app t)
theorem ext_reflT (h : Heap) : Ext h h = True := eq_true ext_refl
theorem ofByte_int (b : UInt8) : ofByte b = .int .u8 b.toNat := rfl
theorem getD_bytes {s : List UInt8} {i : Nat} {d : V} (hi : i < s.length) : (s.map ofByte).getD i d = .int .u8 (s.getD i 0).toNat := by
  simp [List.getD_eq_getElem?_getD, hi, ofByte_int]
theorem bool_dec (p : Prop) [Decidable p] : (decide p = true) = p := by simp
theorem bool_decf (p : Prop) [Decidable p] : (decide p = false) = ¬ p := by simp
theorem wrap64 {x : Int} (h1 : -9223372036854775808 ≤ x) (h2 : x ≤ 9223372036854775807) : IntKind.i64.wrap x = x := by
  unfold IntKind.wrap
  have e1 : (2 : Int) ^ 64 = 18446744073709551616 := by decide
  have e2 : (2 : Int) ^ (64 - 1) = 9223372036854775808 := by decide
  simp only [IntKind.bits, IntKind.signed, e1, e2, Bool.true_and, decide_eq_true_eq]
  by_cases hc : x % 18446744073709551616 ≥ 9223372036854775808
  · rw [if_pos hc]; omega
  · rw [if_neg hc]; omega
theorem mn2 {k k' : IntKind} {x y : Int} : mnV [.int k x, .int k' y] = some (.int k (min x y)) := by
  simp only [mnV]
  congr 2
  split <;> omega
theorem mx2 {k k' : IntKind} {x y : Int} : mxV [.int k x, .int k' y] = some (.int k (max x y)) := by
  simp only [mxV]
  congr 2
  split <;> omega
def AllC (P : Program) : List (FuncId × FnC) → Prop
  | [] => True
  | p :: r => compF P p.1 = some p.2 ∧ AllC P r
theorem lookup_all {P : Program} : ∀ {tab : List (FuncId × FnC)}, AllC P tab → ∀ f fn, tab.lookup f = some fn → compF P f = some fn
  | [], _, f, fn, h => by simp at h
  | (g, c) :: r, ⟨h1, h2⟩, f, fn, h => by
    rw [List.lookup_cons] at h
    by_cases he : f = g
    · subst he
      simp at h
      subst h
      exact h1
    · have hb : (f == g) = false := by simpa using he
      rw [hb] at h
      exact lookup_all h2 f fn h

/-! Boxes behind others, by nested sums. -/
theorem cg1 {a : O} {l : Heap} {m k : Nat} : (a :: l)[m + (k + 1)]? = l[m + (k)]? := by
  rw [show m + (k + 1) = (m + (k)) + 1 from by omega]; exact List.getElem?_cons_succ
theorem cs1 {a x : O} {l : Heap} {m k : Nat} : (a :: l).set (m + (k + 1)) x = a :: l.set (m + (k)) x := by
  rw [show m + (k + 1) = (m + (k)) + 1 from by omega]; exact List.set_cons_succ ..
theorem cg2 {a : O} {l : Heap} {m n k : Nat} : (a :: l)[m + (n + (k + 1))]? = l[m + (n + (k))]? := by
  rw [show m + (n + (k + 1)) = (m + (n + (k))) + 1 from by omega]; exact List.getElem?_cons_succ
theorem cs2 {a x : O} {l : Heap} {m n k : Nat} : (a :: l).set (m + (n + (k + 1))) x = a :: l.set (m + (n + (k))) x := by
  rw [show m + (n + (k + 1)) = (m + (n + (k))) + 1 from by omega]; exact List.set_cons_succ ..
theorem cg3 {a : O} {l : Heap} {m n p k : Nat} : (a :: l)[m + (n + (p + (k + 1)))]? = l[m + (n + (p + (k)))]? := by
  rw [show m + (n + (p + (k + 1))) = (m + (n + (p + (k)))) + 1 from by omega]; exact List.getElem?_cons_succ
theorem cs3 {a x : O} {l : Heap} {m n p k : Nat} : (a :: l).set (m + (n + (p + (k + 1)))) x = a :: l.set (m + (n + (p + (k)))) x := by
  rw [show m + (n + (p + (k + 1))) = (m + (n + (p + (k)))) + 1 from by omega]; exact List.set_cons_succ ..
theorem cg4 {a : O} {l : Heap} {m n p q k : Nat} : (a :: l)[m + (n + (p + (q + (k + 1))))]? = l[m + (n + (p + (q + (k))))]? := by
  rw [show m + (n + (p + (q + (k + 1)))) = (m + (n + (p + (q + (k))))) + 1 from by omega]; exact List.getElem?_cons_succ
theorem cs4 {a x : O} {l : Heap} {m n p q k : Nat} : (a :: l).set (m + (n + (p + (q + (k + 1))))) x = a :: l.set (m + (n + (p + (q + (k))))) x := by
  rw [show m + (n + (p + (q + (k + 1)))) = (m + (n + (p + (q + (k))))) + 1 from by omega]; exact List.set_cons_succ ..
theorem cg5 {a : O} {l : Heap} {m n p q r k : Nat} : (a :: l)[m + (n + (p + (q + (r + (k + 1)))))]? = l[m + (n + (p + (q + (r + (k)))))]? := by
  rw [show m + (n + (p + (q + (r + (k + 1))))) = (m + (n + (p + (q + (r + (k)))))) + 1 from by omega]; exact List.getElem?_cons_succ
theorem cs5 {a x : O} {l : Heap} {m n p q r k : Nat} : (a :: l).set (m + (n + (p + (q + (r + (k + 1)))))) x = a :: l.set (m + (n + (p + (q + (r + (k)))))) x := by
  rw [show m + (n + (p + (q + (r + (k + 1))))) = (m + (n + (p + (q + (r + (k)))))) + 1 from by omega]; exact List.set_cons_succ ..
theorem cg6 {a : O} {l : Heap} {m n p q r s k : Nat} : (a :: l)[m + (n + (p + (q + (r + (s + (k + 1))))))]? = l[m + (n + (p + (q + (r + (s + (k))))))]? := by
  rw [show m + (n + (p + (q + (r + (s + (k + 1)))))) = (m + (n + (p + (q + (r + (s + (k))))))) + 1 from by omega]; exact List.getElem?_cons_succ
theorem cs6 {a x : O} {l : Heap} {m n p q r s k : Nat} : (a :: l).set (m + (n + (p + (q + (r + (s + (k + 1))))))) x = a :: l.set (m + (n + (p + (q + (r + (s + (k))))))) x := by
  rw [show m + (n + (p + (q + (r + (s + (k + 1)))))) = (m + (n + (p + (q + (r + (s + (k))))))) + 1 from by omega]; exact List.set_cons_succ ..
theorem ofInt_nat (n : Nat) (hn : n < 18446744073709551616) : (BitVec.ofInt 64 (n : Int)).toNat = n := by
  simp only [BitVec.toNat_ofInt]
  omega
theorem andI_range (x m : Int) (h0 : 0 ≤ m) (h1 : m < 9223372036854775808) : 0 ≤ bitsI .and .i64 x m ∧ bitsI .and .i64 x m ≤ m := by
  obtain ⟨n, rfl⟩ := Int.eq_ofNat_of_zero_le h0
  have hn : n < 9223372036854775808 := by omega
  have hle : (BitVec.ofInt 64 x &&& BitVec.ofInt 64 (n : Int)).toNat ≤ n := by
    rw [BitVec.toNat_and]
    refine Nat.le_trans Nat.and_le_right ?_
    rw [ofInt_nat n (by omega)]
    exact Nat.le_refl _
  have e : bitsI .and .i64 x (n : Int) = IntKind.i64.wrap ((BitVec.ofInt 64 x &&& BitVec.ofInt 64 (n : Int)).toNat : Int) := rfl
  rw [e]
  generalize (BitVec.ofInt 64 x &&& BitVec.ofInt 64 (n : Int)).toNat = q at *
  rw [wrap64 (by omega) (by omega)]
  omega
/-- A split where an operation hangs on a guard. -/
theorem wo_case {o : OpC} {t : Nat} {g : Bool} {l : List OpC} {Q : Env → Heap → Prop} {e : Env} {h : Heap} {b : Bool} (ho : o.guard = some (t, g)) (hg : e t = .bool b) (h1 : b = true → wo F L (o :: l) Q e h) (h2 : b = false → wo F L (o :: l) Q e h) : wo F L (o :: l) Q e h := by
  cases b
  · exact h2 rfl
  · exact h1 rfl
theorem wd_case {o : OpC} {t : Nat} {g : Bool} {l : List OpC} {Q : Env → Heap → Prop} {e : Env} {h : Heap} {b : Bool} (ho : o.guard = some (t, g)) (hg : e t = .bool b) (h1 : b = true → wd F L (o :: l) Q e h) (h2 : b = false → wd F L (o :: l) Q e h) : wd F L (o :: l) Q e h := by
  cases b
  · exact h2 rfl
  · exact h1 rfl
theorem wc_case {g : Arg} {c1 c2 : C} {Q : X → Env → Heap → Prop} {e : Env} {h : Heap} {b : Bool} (hg : g.get e = .bool b) (h1 : b = true → wc F L (.cond g c1 c2) Q e h) (h2 : b = false → wc F L (.cond g c1 c2) Q e h) : wc F L (.cond g c1 c2) Q e h := by
  cases b
  · exact h2 rfl
  · exact h1 rfl
theorem wo_casep {o : OpC} {t : Nat} {g : Bool} {l : List OpC} {Q : Env → Heap → Prop} {e : Env} {h : Heap} {p : Prop} {_ : Decidable p} (ho : o.guard = some (t, g)) (hg : e t = .bool (decide p)) (h1 : p → wo F L (o :: l) Q e h) (h2 : ¬ p → wo F L (o :: l) Q e h) : wo F L (o :: l) Q e h := by
  by_cases hp : p
  · exact h1 hp
  · exact h2 hp
theorem wo_casen {o : OpC} {t : Nat} {g : Bool} {l : List OpC} {Q : Env → Heap → Prop} {e : Env} {h : Heap} {p : Prop} {_ : Decidable p} (ho : o.guard = some (t, g)) (hg : e t = .bool (!decide p)) (h1 : ¬ p → wo F L (o :: l) Q e h) (h2 : p → wo F L (o :: l) Q e h) : wo F L (o :: l) Q e h := by
  by_cases hp : p
  · exact h2 hp
  · exact h1 hp
theorem wd_casep {o : OpC} {t : Nat} {g : Bool} {l : List OpC} {Q : Env → Heap → Prop} {e : Env} {h : Heap} {p : Prop} {_ : Decidable p} (ho : o.guard = some (t, g)) (hg : e t = .bool (decide p)) (h1 : p → wd F L (o :: l) Q e h) (h2 : ¬ p → wd F L (o :: l) Q e h) : wd F L (o :: l) Q e h := by
  by_cases hp : p
  · exact h1 hp
  · exact h2 hp
theorem wd_casen {o : OpC} {t : Nat} {g : Bool} {l : List OpC} {Q : Env → Heap → Prop} {e : Env} {h : Heap} {p : Prop} {_ : Decidable p} (ho : o.guard = some (t, g)) (hg : e t = .bool (!decide p)) (h1 : ¬ p → wd F L (o :: l) Q e h) (h2 : p → wd F L (o :: l) Q e h) : wd F L (o :: l) Q e h := by
  by_cases hp : p
  · exact h2 hp
  · exact h1 hp
theorem wc_casep {g : Arg} {c1 c2 : C} {Q : X → Env → Heap → Prop} {e : Env} {h : Heap} {p : Prop} {_ : Decidable p} (hg : g.get e = .bool (decide p)) (h1 : p → wc F L (.cond g c1 c2) Q e h) (h2 : ¬ p → wc F L (.cond g c1 c2) Q e h) : wc F L (.cond g c1 c2) Q e h := by
  by_cases hp : p
  · exact h1 hp
  · exact h2 hp
theorem wc_casen {g : Arg} {c1 c2 : C} {Q : X → Env → Heap → Prop} {e : Env} {h : Heap} {p : Prop} {_ : Decidable p} (hg : g.get e = .bool (!decide p)) (h1 : ¬ p → wc F L (.cond g c1 c2) Q e h) (h2 : p → wc F L (.cond g c1 c2) Q e h) : wc F L (.cond g c1 c2) Q e h := by
  by_cases hp : p
  · exact h2 hp
  · exact h1 hp
/-- What is below does not come into play: simp leaves the rest of the code alone. -/
theorem wo_congr {l : List OpC} {Q : Env → Heap → Prop} {e e' : Env} {h h' : Heap} (he : e = e') (hh : h = h') : wo F L l Q e h = wo F L l Q e' h' := by rw [he, hh]
theorem wd_congr {l : List OpC} {Q : Env → Heap → Prop} {e e' : Env} {h h' : Heap} (he : e = e') (hh : h = h') : wd F L l Q e h = wd F L l Q e' h' := by rw [he, hh]
theorem wc_congr {c : C} {Q : X → Env → Heap → Prop} {e e' : Env} {h h' : Heap} (he : e = e') (hh : h = h') : wc F L c Q e h = wc F L c Q e' h' := by rw [he, hh]
end Go.Vm
