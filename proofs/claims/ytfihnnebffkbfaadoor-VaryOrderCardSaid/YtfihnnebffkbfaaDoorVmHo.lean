/- Words for functions written out with names in place of slots. -/
import Derived.Test.YtfihnnebffkbfaaDoorVmPu
namespace Go.Vm
set_option linter.unusedVariables false
set_option linter.unusedSimpArgs false
section
variable {F : FuncId → Option FnC} {L : FuncId → List V → V → Prop} {x : V} {g : Bool} {i : (V → Heap → Prop) → Prop} {h : Heap} {K : V → Heap → Prop} {A B : Prop}
theorem wg_yes : wg (.bool g) g i h K = i K := by simp [wg]
theorem wg_no1 : wg (.bool false) true i h K = K (.tup []) h := by simp [wg]
theorem wg_no2 : wg (.bool true) false i h K = K (.tup []) h := by simp [wg]
theorem wgd_yes : wgd (.bool g) g i h K = i fun v h' => Ext h h' ∧ K v h' := by simp [wgd]
theorem wgd_no1 : wgd (.bool false) true i h K = K (.tup []) h := by simp [wgd]
theorem wgd_no2 : wgd (.bool true) false i h K = K (.tup []) h := by simp [wgd]
theorem wb_yes : wb (.bool true) A B = A := by simp [wb]
theorem wb_no : wb (.bool false) A B = B := by simp [wb]
theorem wg_congr {x' : V} (hx : x = x') : wg x g i h K = wg x' g i h K := by rw [hx]
theorem wgd_congr {x' : V} (hx : x = x') : wgd x g i h K = wgd x' g i h K := by rw [hx]
theorem wb_congr {x' : V} (hx : x = x') : wb x A B = wb x' A B := by rw [hx]
theorem wi_congr {n n' : Ins} {e : Env} {h' : Heap} (hn : n = n') (hh : h = h') : wi F L n e h K = wi F L n' e h' K := by rw [hn, hh]
theorem wg_casep {p : Prop} {_ : Decidable p} (h1 : p → wg (.bool (decide p)) g i h K) (h2 : ¬ p → wg (.bool (decide p)) g i h K) : wg (.bool (decide p)) g i h K := by
  by_cases hp : p
  · exact h1 hp
  · exact h2 hp
theorem wg_casen {p : Prop} {_ : Decidable p} (h1 : p → wg (.bool (!decide p)) g i h K) (h2 : ¬ p → wg (.bool (!decide p)) g i h K) : wg (.bool (!decide p)) g i h K := by
  by_cases hp : p
  · exact h1 hp
  · exact h2 hp
theorem wg_case {b : Bool} (h1 : b = true → wg (.bool b) g i h K) (h2 : b = false → wg (.bool b) g i h K) : wg (.bool b) g i h K := by
  cases b
  · exact h2 rfl
  · exact h1 rfl
theorem wgd_casep {p : Prop} {_ : Decidable p} (h1 : p → wgd (.bool (decide p)) g i h K) (h2 : ¬ p → wgd (.bool (decide p)) g i h K) : wgd (.bool (decide p)) g i h K := by
  by_cases hp : p
  · exact h1 hp
  · exact h2 hp
theorem wgd_casen {p : Prop} {_ : Decidable p} (h1 : p → wgd (.bool (!decide p)) g i h K) (h2 : ¬ p → wgd (.bool (!decide p)) g i h K) : wgd (.bool (!decide p)) g i h K := by
  by_cases hp : p
  · exact h1 hp
  · exact h2 hp
theorem wgd_case {b : Bool} (h1 : b = true → wgd (.bool b) g i h K) (h2 : b = false → wgd (.bool b) g i h K) : wgd (.bool b) g i h K := by
  cases b
  · exact h2 rfl
  · exact h1 rfl
theorem wb_casep {p : Prop} {_ : Decidable p} (h1 : p → wb (.bool (decide p)) A B) (h2 : ¬ p → wb (.bool (decide p)) A B) : wb (.bool (decide p)) A B := by
  by_cases hp : p
  · exact h1 hp
  · exact h2 hp
theorem wb_casen {p : Prop} {_ : Decidable p} (h1 : p → wb (.bool (!decide p)) A B) (h2 : ¬ p → wb (.bool (!decide p)) A B) : wb (.bool (!decide p)) A B := by
  by_cases hp : p
  · exact h1 hp
  · exact h2 hp
theorem wb_case {b : Bool} (h1 : b = true → wb (.bool b) A B) (h2 : b = false → wb (.bool b) A B) : wb (.bool b) A B := by
  cases b
  · exact h2 rfl
  · exact h1 rfl
theorem wg_tup : wg (.tup []) g i h K = K (.tup []) h := by simp [wg]
theorem wgd_tup : wgd (.tup []) g i h K = K (.tup []) h := by simp [wgd]
theorem wl_congr {c : C} {Q : X → Env → Heap → Prop} {e e' : Env} {h' : Heap} (he : e = e') (hh : h = h') : Wl F L c Q e h = Wl F L c Q e' h' := by rw [he, hh]
theorem cf_congr {f : FuncId} {xs ys : List V} {h' : Heap} (hx : xs = ys) (hh : h = h') : Cf F L f xs h K = Cf F L f ys h' K := by rw [hx, hh]
theorem wcallp {f : FuncId} {fn : FnC} {args : List V} {p : Prop} (hf : F f = some fn) (ha : args.length ≤ fn.ntmps) (he : wc F L fn.body (retX fn.results K) (enterE args) h = p) (hp : p) : Cf F L f args h K :=
  wcall hf ha (he ▸ hp)
theorem wloopp {c : C} {Q : X → Env → Heap → Prop} {b : (Env → Heap → Prop) → Env → Heap → Prop} (I : Nat → Env → Heap → Prop) (hb : ∀ N e h, wc F L c (seqX N Q) e h = b N e h)
    (hr : ∀ n e h, I n e h → b (fun e' h' => ∃ m, m < n ∧ I m e' h') e h) {n : Nat} {e : Env} {h : Heap} (hi : I n e h) : Wl F L c Q e h :=
  wloop I (fun n e h hi => by rw [hb]; exact hr n e h hi) hi
theorem wi_mapsetI {k : LK} {a x y : Arg} {e : Env} : wi F L (.mapset k a x y) e h K = (stor (y.get e) = true ∧ match a.get e with
    | .map id => (match h[id]? with
      | some (.map es) => (match mapsetE k (x.get e) (y.get e) es with | some es' => K (.tup []) (h.set id (.map es')) | none => False)
      | _ => False)
    | _ => False) := by
  rw [wi_mapset]
  simp only [stepI]
  cases hs : stor (y.get e)
  · simp
  · simp only [Bool.not_true, Bool.false_eq_true, if_false, true_and]
    cases a.get e <;> try rfl
    rename_i id
    show (match (match h[id]? with | some (O.map es) => (mapsetE k (x.get e) (y.get e) es).map fun es' => (V.tup [], h.set id (O.map es')) | _ => none) with | some (v, h') => K v h' | none => False) = _
    split <;> rename_i ho <;> split at ho <;> simp_all
    · obtain ⟨es', h1, h2, h3⟩ := ho
      simp [h1, ← h2, ← h3]
theorem wi_lookupI {k : LK} {z : V} {ok : Bool} {x y : Arg} {e : Env} : wi F L (.lookup k z ok x y) e h K = (match x.get e with
    | .nmap => K (if ok then .tup [z, .bool false] else z) h
    | .map id => (match h[id]? with
      | some (.map es) => (match findE k (y.get e) es 0 with
        | some (some (_, v)) => K (if ok then .tup [v, .bool true] else v) h
        | some none => K (if ok then .tup [z, .bool false] else z) h
        | none => False)
      | _ => False)
    | _ => False) := by
  rw [wi_lookup]
  simp only [stepI]
  cases x.get e <;> try rfl
  rename_i id
  simp only
  cases h[id]? <;> try rfl
  rename_i o
  cases o <;> try rfl
  rename_i es
  simp only
  cases findE k (y.get e) es 0 <;> try rfl
  rename_i r
  cases r <;> rfl
theorem wi_slslI {s : Nat} {x : Arg} {lo hi mx : Option Arg} {e : Env} : wi F L (.slsl s x lo hi mx) e h K = (match boundO e lo, boundO e hi, boundO e mx with
    | some l, some r, some m => (match slslV s (x.get e) (l.getD 0) r m with | some v => K v h | none => False)
    | _, _, _ => False) := by
  rw [wi_slsl]
  simp only [stepI]
  cases boundO e lo <;> try rfl
  cases boundO e hi <;> try rfl
  cases boundO e mx <;> try rfl
  rename_i l r m
  simp only [Option.bind_some]
  cases slslV s (x.get e) (l.getD 0) r m <;> rfl
theorem ti1 {n : Nat} : ((n : Int) + 1).toNat = n + 1 := by omega
theorem ti2 {n : Nat} : (0 ≤ (n : Int) + 1) = True := eq_true (by omega)
theorem ti3 {n : Nat} : ((n : Int) + 2).toNat = n + 2 := by omega
theorem ti4 {n : Nat} : (0 ≤ (n : Int) + 2) = True := eq_true (by omega)
theorem eq_bool {a b : Bool} : eqV .bool (.bool a) (.bool b) = some (a == b) := rfl
theorem eqn_00 : eqV (.nil 0) .nsl .nsl = some true := rfl
theorem eqn_01 {s : Nat} {o : Own} {es : List V} : eqV (.nil 0) .nsl (.sl s o es) = some false := rfl
theorem eqn_02 {s i l : Nat} : eqV (.nil 0) .nsl (.hsl s i l) = some false := rfl
theorem eqn_10 {s : Nat} {o : Own} {es : List V} : eqV (.nil 0) (.sl s o es) .nsl = some false := rfl
theorem eqn_20 {s i l : Nat} : eqV (.nil 0) (.hsl s i l) .nsl = some false := rfl
theorem eqf_00 : eqV (.nil 2) .nfn .nfn = some true := rfl
theorem eqf_10 {f : FuncId} {c : List V} : eqV (.nil 2) (.fn f c) .nfn = some false := rfl
theorem eqp_00 : eqV (.nil 3) .nilp .nilp = some true := rfl
theorem eqp_10 {i o : Nat} : eqV (.nil 3) (.ptr i o) .nilp = some false := rfl
theorem rs_nil {e : Env} : List.mapM (resV h e) [] = some [] := rfl
theorem rs_cons {e : Env} {r : Res} {rs : List Res} : List.mapM (resV h e) (r :: rs) = (match resV h e r with | some x => (match List.mapM (resV h e) rs with | some xs => some (x :: xs) | none => none) | none => none) := by
  rw [List.mapM_cons]
  cases resV h e r <;> try rfl
  cases List.mapM (resV h e) rs <;> rfl
end
end Go.Vm
