/- Several texts in one: VmDef, VmComp, VmRel, VmStep, VmRun, VmInsA, VmEq, VmInsB, VmInsC, VmInsD, VmInsE, VmInsF, VmInsG. -/
import Derived.Orders
import Derived.Below
import Derived.Laws.Cells
import Derived.Laws.Entries
import Derived.Laws.StructEq
import Derived.Laws.BytesString
section
namespace Go.Vm
set_option linter.unusedVariables false
/-- Whose a slice is: nobody's to append to; one without spare places; the tip of an own row. -/
inductive Own where
  | no
  | full
  | tip (id : Nat)
inductive V where
  | bool (b : Bool)
  | int (k : IntKind) (n : Int)
  | str (s : List UInt8)
  | nilp
  | ptr (id off : Nat)
  | iptr (cs : List V)
  | nsl
  | sl (sz : Nat) (own : Own) (es : List V)
  | hsl (sz : Nat) (id len : Nat)
  | nmap
  | map (id : Nat)
  | nfn
  | fn (f : FuncId) (caps : List V)
  | agg (cs : List V)
  | tup (vs : List V)
instance : Inhabited V := ⟨.tup []⟩
inductive O where
  | box (cs : List V)
  | tip (n : Nat)
  | dead
  | map (es : List (V × V))
abbrev Env := Nat → V
abbrev Heap := List O
def upd (e : Env) (d : Nat) (v : V) : Env := fun t => if t = d then v else e t
def cells : V → List V
  | .agg cs => cs
  | v => [v]
/-- What may stand in cells. -/
def stor : V → Bool
  | .tup _ => false
  | _ => true
def flat (es : List V) : List V := es.flatMap cells
inductive Arg where
  | t (n : Nat)
  | c (v : V)
def Arg.get (e : Env) : Arg → V
  | .t n => e n
  | .c v => v
/-- The kinds of plain cells. -/
inductive LK where
  | b
  | i
  | s
inductive EqK where
  | bool
  | nil (c : Nat)
  | agg (ks : List LK)
inductive Ins where
  | mv (a : Arg)
  | mvs (a : Arg)
  | pick (c a b : Arg)
  | boxz (cs : List V)
  | box (a : Arg)
  | build (zero : List V) (parts : List (Nat × Nat × Arg))
  | bsl (sz : Nat) (parts : List Arg)
  | load (agg : Bool) (sz : Nat) (a : Arg)
  | store (sz : Nat) (a x : Arg)
  | nilck (a : Arg)
  | bin (op : BinOp) (x y : Arg)
  | eq (k : EqK) (neg : Bool) (x y : Arg)
  | un (op : UnOp) (x : Arg)
  | toInt (k : IntKind) (x : Arg)
  | toStr (x : Arg)
  | toBytes (x : Arg)
  | mark (x : Arg)
  | bslb (parts : List Arg)
  | mkfn (f : FuncId) (caps : List Arg)
  | mkmap
  | lookup (c : LK) (zero : V) (ok : Bool) (m k : Arg)
  | mapset (c : LK) (m k v : Arg)
  | mksl (sz bytes : Nat) (zero : List V) (len cap : Arg)
  | slstr (x : Arg) (lo hi : Option Arg)
  | slsl (sz : Nat) (x : Arg) (lo hi mx : Option Arg)
  | faddr (off : Nat) (x : Arg)
  | fld (off sz : Nat) (agg : Bool) (x : Arg)
  | ixaSl (sz : Nat) (x i : Arg)
  | ixaArr (n sz : Nat) (x i : Arg)
  | ixArr (n sz : Nat) (agg : Bool) (x i : Arg)
  | ixStr (x i : Arg)
  | ext (i : Nat) (x : Arg)
  | len (c : Nat) (x : Arg)
  | lenArr (n : Nat)
  | app (sz bytes : Nat) (mu : Bool) (x y : Arg)
  | copy (sz : Nat) (d s : Arg)
  | mn (xs : List Arg)
  | mx (xs : List Arg)
  | clear (m : Arg)
  | call (f : FuncId) (xs : List Arg)
  | callv (g : Arg) (xs : List Arg)
structure OpC where
  dst : Option Nat
  guard : Option (Nat × Bool)
  ins : Ins
inductive C where
  | skip
  | region (l : List OpC)
  | dregion (l t : List OpC)
  | mregion (l m t : List OpC) (fl : List (Nat × Bool × Nat × Arg))
  | seq (a b : C)
  | cond (c : Arg) (a b : C)
  | block (id : Nat) (c : C)
  | loop (c : C)
  | exit (id : Nat)
  | ret
inductive Res where
  | tmp (t : Nat)
  | cell (t : Nat) (agg : Bool) (sz : Nat)
structure FnC where
  ntmps : Nat
  results : List Res
  body : C
/-! ### What an instruction does -/
def splice (cs : List V) (off : Nat) (xs : List V) : List V := cs.take off ++ xs ++ cs.drop (off + xs.length)
def fillC (e : Env) : List V → List (Nat × Nat × Arg) → Option (List V)
  | cs, [] => some cs
  | cs, (off, sz, x) :: r => if (cells (x.get e)).length = sz ∧ off + sz ≤ cs.length ∧ stor (x.get e) = true then fillC e (splice cs off (cells (x.get e))) r else none
def bitsI (op : BinOp) (k : IntKind) (x y : Int) : Int :=
  match op with
  | .and => k.wrap (BitVec.ofInt k.bits x &&& BitVec.ofInt k.bits y).toNat
  | .or => k.wrap (BitVec.ofInt k.bits x ||| BitVec.ofInt k.bits y).toNat
  | .xor => k.wrap (BitVec.ofInt k.bits x ^^^ BitVec.ofInt k.bits y).toNat
  | _ => k.wrap (BitVec.ofInt k.bits x &&& ~~~BitVec.ofInt k.bits y).toNat
def binI (op : BinOp) (k : IntKind) (x y : Int) : Option V :=
  match op with
  | .add => some (.int k (k.wrap (x + y)))
  | .sub => some (.int k (k.wrap (x - y)))
  | .mul => some (.int k (k.wrap (x * y)))
  | .quo => if y = 0 then none else some (.int k (k.wrap (x.tdiv y)))
  | .rem => if y = 0 then none else some (.int k (x.tmod y))
  | .and | .or | .xor | .andNot => some (.int k (bitsI op k x y))
  | .eql => some (.bool (decide (x = y)))
  | .neq => some (.bool (!decide (x = y)))
  | .lss => some (.bool (decide (x < y)))
  | .leq => some (.bool (decide (x ≤ y)))
  | .gtr => some (.bool (decide (x > y)))
  | .geq => some (.bool (decide (x ≥ y)))
  | .shl | .shr => none
def shI (op : BinOp) (k : IntKind) (x y : Int) : Option V :=
  if y < 0 then none else
  match op with
  | .shl => some (.int k (k.wrap (x * 2 ^ (min y.toNat k.bits))))
  | .shr => some (.int k (x.fdiv (2 ^ (min y.toNat k.bits))))
  | _ => none
def binS (op : BinOp) (x y : List UInt8) : Option V :=
  match op with
  | .add => if x.length + y.length ≤ 9223372036854775807 then some (.str (x ++ y)) else none
  | .eql => some (.bool (x == y))
  | .neq => some (.bool (!(x == y)))
  | .lss => some (.bool (Go.Op.bytesLess x y))
  | .leq => some (.bool (Go.Op.bytesLess x y || x == y))
  | .gtr => some (.bool (!(Go.Op.bytesLess x y || x == y)))
  | .geq => some (.bool (!Go.Op.bytesLess x y))
  | _ => none
def binV (op : BinOp) : V → V → Option V
  | .int k x, .int k' y =>
    match op with
    | .shl => shI .shl k x y
    | .shr => shI .shr k x y
    | op => if k = k' then binI op k x y else none
  | .str x, .str y => binS op x y
  | _, _ => none
/-- Two values of one plain cell each: are they alike? -/
def eqLeaf : LK → V → V → Option Bool
  | .b, .bool a, .bool b => some (a == b)
  | .i, .int k a, .int k' b => if k = k' then some (decide (a = b)) else none
  | .s, .str a, .str b => some (a == b)
  | _, _, _ => none
def eqLeaves : List LK → List V → List V → Option Bool
  | [], [], [] => some true
  | k :: ks, a :: as, b :: bs => (eqLeaf k a b).bind fun r => (eqLeaves ks as bs).bind fun s => some (r && s)
  | _, _, _ => none
/-- Compared with nil: slices (0), maps (1), functions (2), pointers (3). -/
def eqNil : Nat → V → V → Option Bool
  | 0, .nsl, .nsl => some true
  | 0, .nsl, .sl _ _ _ => some false
  | 0, .nsl, .hsl _ _ _ => some false
  | 0, .sl _ _ _, .nsl => some false
  | 0, .hsl _ _ _, .nsl => some false
  | 1, .nmap, .nmap => some true
  | 1, .nmap, .map _ => some false
  | 1, .map _, .nmap => some false
  | 2, .nfn, .nfn => some true
  | 2, .nfn, .fn _ _ => some false
  | 2, .fn _ _, .nfn => some false
  | 3, .nilp, .nilp => some true
  | 3, .nilp, .ptr _ _ => some false
  | 3, .ptr _ _, .nilp => some false
  | 3, .nilp, .iptr _ => some false
  | 3, .iptr _, .nilp => some false
  | _, _, _ => none
def eqV (k : EqK) : V → V → Option Bool
  | x, y =>
    match k with
    | .bool => match x, y with
      | .bool a, .bool b => some (a == b)
      | _, _ => none
    | .nil c => eqNil c x y
    | .agg ks => match x, y with
      | .agg a, .agg b => eqLeaves ks a b
      | _, _ => none
def unV (op : UnOp) : V → Option V
  | .int k n => match op with
    | .neg => some (.int k (k.wrap (0 - n)))
    | .xor => some (.int k (bitsI .xor k (if k.signed then -1 else k.max) n))
    | _ => none
  | .bool b => match op with
    | .not => some (.bool !b)
    | _ => none
  | _ => none
def ofByte (b : UInt8) : V := .int .u8 b.toNat
/-- The bytes in cells. -/
def toByte : V → Option UInt8
  | .int .u8 n => some (UInt8.ofNat n.toNat)
  | _ => none
def toBytesL : List V → Option (List UInt8)
  | [] => some []
  | v :: r => (toByte v).bind fun b => (toBytesL r).bind fun bs => some (b :: bs)
/-- Which entry of a map a key is. -/
def findE (c : LK) (k : V) : List (V × V) → Nat → Option (Option (Nat × V))
  | [], _ => some none
  | e :: es, i => (eqLeaf c k e.1).bind fun b => if b then some (some (i, e.2)) else findE c k es (i + 1)
def mnV : List V → Option V
  | [] => none
  | [.int k x] => some (.int k x)
  | .int k x :: .int _ y :: r => mnV (.int k (if y < x then y else x) :: r)
  | _ => none
termination_by l => l.length
def mxV : List V → Option V
  | [] => none
  | [.int k x] => some (.int k x)
  | .int k x :: .int _ y :: r => mxV (.int k (if y > x then y else x) :: r)
  | _ => none
termination_by l => l.length
/-- The elements of a slice (or a string) that is appended or copied. -/
def srcElems (h : Heap) (sz : Nat) : V → Option (List V)
  | .nsl => some []
  | .sl s _ es => if s = sz then some es else none
  | .str l => if sz = 1 then some (l.map ofByte) else none
  | .hsl s id len => if s = sz ∧ sz = 1 then match h[id]? with
      | some (.box cs) => if len ≤ cs.length then some (cs.take len) else none
      | _ => none
    else none
  | _ => none
def room (n bytes : Nat) : Bool := n * bytes ≤ 140737488355328
def isTip (h : Heap) (id n : Nat) : Bool := match h[id]? with
  | some (.tip m) => m == n
  | _ => false
/-- A new row of elements. -/
def newRowV (h : Heap) (sz : Nat) (mu : Bool) (es : List V) : V × Heap :=
  if mu then (.hsl sz h.length es.length, h ++ [.box (flat es)]) else (.sl sz (.tip h.length) es, h ++ [.tip (flat es).length])
/-- append. -/
def appV (h : Heap) (sz bytes : Nat) (mu : Bool) (x y : V) : Option (V × Heap) :=
  (srcElems h sz y).bind fun new =>
  match x with
  | .nsl => if new.isEmpty then some (.nsl, h) else if room new.length bytes then some (newRowV h sz mu new) else none
  | .sl s own es =>
    if s = sz then
      match own with
      | .no => none
      | .full => if new.isEmpty then some (.sl sz .full es, h) else if room (es.length + new.length) bytes then some (newRowV h sz mu (es ++ new)) else none
      | .tip id => if room (es.length + new.length) bytes && isTip h id (flat es).length then
          some (.sl sz (.tip id) (es ++ new), h.set id (.tip (flat (es ++ new)).length)) else none
    else none
  | .hsl s id len => if s = sz ∧ sz = 1 ∧ room (len + new.length) bytes = true then match h[id]? with
      | some (.box cs) => if len ≤ cs.length then some (.hsl sz h.length (len + new.length), h.set id .dead ++ [.box (cs.take len ++ flat new)]) else none
      | _ => none
    else none
  | _ => none
def part (cs : List V) (off sz : Nat) (agg : Bool) : Option V :=
  if off + sz ≤ cs.length then if agg then some (.agg ((cs.drop off).take sz)) else if sz = 1 then cs[off]? else none else none
def loadV (h : Heap) (agg : Bool) (sz : Nat) : V → Option V
  | .ptr id off => match h[id]? with
    | some (.box cs) => part cs off sz agg
    | _ => none
  | .iptr cs => part cs 0 sz agg
  | _ => none
def storeV (h : Heap) (sz : Nat) (a x : V) : Option (V × Heap) :=
  match a with
  | .ptr id off => match h[id]? with
    | some (.box cs) => if (cells x).length = sz ∧ off + sz ≤ cs.length ∧ stor x = true then some (.tup [], h.set id (.box (splice cs off (cells x)))) else none
    | _ => none
  | _ => none
def mapsetE (c : LK) (k v : V) (es : List (V × V)) : Option (List (V × V)) :=
  (findE c k es 0).map fun
    | some (i, _) => es.set i (k, v)
    | none => es ++ [(k, v)]
def slslV (s : Nat) (x : V) (l : Nat) (hi mx : Option Nat) : Option V :=
  match x with
  | .nsl => match hi, mx with
    | none, none => if l = 0 then some .nsl else none
    | some 0, none => if l = 0 then some .nsl else none
    | some 0, some 0 => if l = 0 then some .nsl else none
    | _, _ => none
  | .sl sz own es => if sz ≠ s then none else match hi, mx with
    | none, none => if l ≤ es.length then some (.sl sz (if l = 0 then own else .no) (es.drop l)) else none
    | some r, none => if l ≤ r ∧ r ≤ es.length then some (.sl sz .no ((es.take r).drop l)) else none
    | some r, some m => if l ≤ r ∧ r ≤ m ∧ m ≤ es.length then some (.sl sz (if r = m then .full else .no) ((es.take r).drop l)) else none
    | none, some _ => none
  | .hsl sz id len => if sz ≠ s then none else match hi, mx with
    | none, none => if l = 0 then some (.hsl sz id len) else none
    | some r, none => if l = 0 ∧ r ≤ len then some (.hsl sz id r) else none
    | some r, some m => if l = 0 ∧ r ≤ m ∧ m ≤ len then some (.hsl sz id r) else none
    | _, _ => none
  | _ => none
/-- An optional bound: nothing, or a whole number that is not below 0. -/
def boundO (e : Env) : Option Arg → Option (Option Nat)
  | none => some none
  | some a => match a.get e with
    | .int _ n => if 0 ≤ n then some (some n.toNat) else none
    | _ => none
/-- An instruction that calls nothing: its value, and the heap behind it. -/
def stepI (i : Ins) (e : Env) (h : Heap) : Option (V × Heap) :=
  match i with
  | .mv a => some (a.get e, h)
  | .mvs a => match a.get e with
    | .str s => some (.str s, h)
    | _ => none
  | .pick c a b => match c.get e with
    | .bool t => some (if t then a.get e else b.get e, h)
    | _ => none
  | .boxz cs => some (.ptr h.length 0, h ++ [.box cs])
  | .box a => if stor (a.get e) then some (.ptr h.length 0, h ++ [.box (cells (a.get e))]) else none
  | .build zero parts => (fillC e zero parts).map fun cs => (.agg cs, h)
  | .bsl sz parts => if (parts.all fun p => decide ((cells (p.get e)).length = sz) && stor (p.get e)) then some (.sl sz .full (parts.map (·.get e)), h) else none
  | .load agg sz a => (loadV h agg sz (a.get e)).map fun v => (v, h)
  | .store sz a x => storeV h sz (a.get e) (x.get e)
  | .nilck a => match a.get e with
    | .ptr id off => some (.ptr id off, h)
    | .iptr cs => some (.iptr cs, h)
    | .fn f caps => some (.fn f caps, h)
    | _ => none
  | .bin op x y => (binV op (x.get e) (y.get e)).map fun v => (v, h)
  | .eq k neg x y => (eqV k (x.get e) (y.get e)).map fun b => (.bool (if neg then !b else b), h)
  | .un op x => (unV op (x.get e)).map fun v => (v, h)
  | .toInt k x => match x.get e with
    | .int _ n => some (.int k (k.wrap n), h)
    | _ => none
  | .toStr x => match x.get e with
    | .str _ => none
    | y => (srcElems h 1 y).bind fun es => (toBytesL es).map fun bs => (.str bs, h)
  | .toBytes x => match x.get e with
    | .str s => some (.hsl 1 h.length s.length, h ++ [.box (s.map ofByte)])
    | _ => none
  | .mark x => match x.get e with
    | .hsl sz id len => match h[id]? with
      | some (.box _) => some (.hsl sz id len, h)
      | _ => none
    | _ => none
  | .bslb parts => if (parts.all fun p => decide ((cells (p.get e)).length = 1) && stor (p.get e)) then some (.hsl 1 h.length parts.length, h ++ [.box (flat (parts.map (·.get e)))]) else none
  | .mkfn f caps => some (.fn f (caps.map (·.get e)), h)
  | .mkmap => some (.map h.length, h ++ [.map []])
  | .lookup c zero ok m k => match m.get e with
    | .nmap => some (if ok then .tup [zero, .bool false] else zero, h)
    | .map id => match h[id]? with
      | some (.map es) => (findE c (k.get e) es 0).map fun
        | some (_, v) => (if ok then .tup [v, .bool true] else v, h)
        | none => (if ok then .tup [zero, .bool false] else zero, h)
      | _ => none
    | _ => none
  | .mapset c m k v => if !stor (v.get e) then none else match m.get e with
    | .map id => match h[id]? with
      | some (.map es) => (mapsetE c (k.get e) (v.get e) es).map fun es' => (.tup [], h.set id (.map es'))
      | _ => none
    | _ => none
  | .mksl sz bytes zero len cap => match len.get e, cap.get e with
    | .int .i64 n, .int .i64 c => if 0 ≤ n ∧ n ≤ c ∧ room c.toNat bytes = true then
        some (.hsl sz h.length n.toNat, h ++ [.box ((List.replicate c.toNat zero).flatten)]) else none
    | _, _ => none
  | .slstr x lo hi => match x.get e with
    | .str s => (boundO e lo).bind fun l => (boundO e hi).bind fun r =>
      let l := l.getD 0
      let r := r.getD s.length
      if l ≤ r ∧ r ≤ s.length then some (.str ((s.take r).drop l), h) else none
    | _ => none
  | .slsl sz x lo hi mx => (boundO e lo).bind fun l => (boundO e hi).bind fun r => (boundO e mx).bind fun m =>
      (slslV sz (x.get e) (l.getD 0) r m).map fun v => (v, h)
  | .faddr off x => match x.get e with
    | .ptr id o => some (.ptr id (o + off), h)
    | .iptr cs => some (.iptr (cs.drop off), h)
    | _ => none
  | .fld off sz agg x => match x.get e with
    | .agg cs => (part cs off sz agg).map fun v => (v, h)
    | _ => none
  | .ixaSl sz x i => match i.get e with
    | .int _ n => if n < 0 then none else match x.get e with
      | .sl s _ es => if s = sz then (es[n.toNat]?).map fun v => (.iptr (cells v), h) else none
      | .hsl s id len => if s = sz ∧ n.toNat < len then some (.ptr id (n.toNat * sz), h) else none
      | _ => none
    | _ => none
  | .ixaArr n sz x i => match i.get e with
    | .int _ j => if 0 ≤ j ∧ j < n then match x.get e with
      | .ptr id o => some (.ptr id (o + j.toNat * sz), h)
      | .iptr cs => some (.iptr (cs.drop (j.toNat * sz)), h)
      | _ => none
      else none
    | _ => none
  | .ixArr n sz agg x i => match i.get e with
    | .int _ j => if 0 ≤ j ∧ j < n then match x.get e with
      | .agg cs => (part cs (j.toNat * sz) sz agg).map fun v => (v, h)
      | _ => none
      else none
    | _ => none
  | .ixStr x i => match x.get e, i.get e with
    | .str s, .int _ n => if n < 0 then none else (s[n.toNat]?).map fun b => (ofByte b, h)
    | _, _ => none
  | .ext i x => match x.get e with
    | .tup vs => (vs[i]?).map fun v => (v, h)
    | _ => none
  | .len c x => match c, x.get e with
    | 0, .str s => some (.int .i64 s.length, h)
    | 1, .nsl => some (.int .i64 0, h)
    | 1, .sl _ _ es => some (.int .i64 es.length, h)
    | 1, .hsl _ _ n => some (.int .i64 n, h)
    | 2, .nmap => some (.int .i64 0, h)
    | 2, .map id => match h[id]? with
      | some (.map es) => some (.int .i64 es.length, h)
      | _ => none
    | _, _ => none
  | .lenArr n => some (.int .i64 n, h)
  | .app sz bytes mu x y => appV h sz bytes mu (x.get e) (y.get e)
  | .copy sz d s => match d.get e with
    | .hsl k id len => if k = sz then match h[id]? with
      | some (.box cs) => (srcElems h sz (s.get e)).bind fun es =>
        let n := min es.length len
        if (flat (es.take n)).length ≤ cs.length then some (.int .i64 n, h.set id (.box (splice cs 0 (flat (es.take n))))) else none
      | _ => none
      else none
    | _ => none
  | .mn xs => (mnV (xs.map (·.get e))).map fun v => (v, h)
  | .mx xs => (mxV (xs.map (·.get e))).map fun v => (v, h)
  | .clear m => match m.get e with
    | .nmap => some (.tup [], h)
    | .map id => match h[id]? with
      | some (.map _) => some (.tup [], h.set id (.map []))
      | _ => none
    | _ => none
  | .call _ _ => none
  | .callv _ _ => none
/-- The call that an instruction is. -/
def callI (i : Ins) (e : Env) : Option (FuncId × List V) :=
  match i with
  | .call f xs => some (f, xs.map (·.get e))
  | .callv g xs => match g.get e with
    | .fn f caps => some (f, xs.map (·.get e) ++ caps)
    | _ => none
  | _ => none
def OpC.wanted (o : OpC) (e : Env) : Bool :=
  match o.guard with
  | none => true
  | some (t, b) => match e t with
    | .bool c => c == b
    | _ => false
def put (e : Env) (d : Option Nat) (v : V) : Env :=
  match d with
  | none => e
  | some d => upd e d v
inductive X where
  | norm
  | exit (id : Nat)
  | ret
/-- An exit, out of a block. -/
def X.out (id : Nat) : X → X
  | .exit i => if i = id then .norm else .exit i
  | x => x
/-- What was there is as it was. -/
def Ext (h h' : Heap) : Prop := ∀ i, i < h.length → h'[i]? = h[i]?
def enterE (args : List V) : Env := fun t => args.getD t (.tup [])
def resV (h : Heap) (e : Env) : Res → Option V
  | .tmp t => some (e t)
  | .cell t agg sz => loadV h agg sz (e t)
def resultsV (h : Heap) (e : Env) : List Res → Option V
  | [r] => resV h e r
  | rs => (rs.mapM (resV h e)).map .tup
/-- Loads that may be run late read what they read. -/
def flC : List (Nat × Bool × Nat × Arg) → Env → Heap → Prop
  | [], _, _ => True
  | (d, g, s, a) :: r, e, h => loadV h g s (a.get e) = some (e d) ∧ flC r e h
/-- Instructions that leave the boxes as they are. -/
def quiet : Ins → Bool
  | .mv _ | .ext _ _ | .nilck _ | .faddr _ _ | .load _ _ _ | .fld _ _ _ _ | .bin _ _ _ => true
  | _ => false
inductive Task where
  | mops (fl : List (Nat × Bool × Nat × Arg)) (l : List OpC) (e : Env) (h : Heap) (e' : Env) (h' : Heap)
  | ops (l : List OpC) (e : Env) (h : Heap) (e' : Env) (h' : Heap)
  | dops (l : List OpC) (e : Env) (h : Heap) (e' : Env) (h' : Heap)
  | code (c : C) (e : Env) (h : Heap) (x : X) (e' : Env) (h' : Heap)
  | call (f : FuncId) (args : List V) (h : Heap) (v : V) (h' : Heap)
/-- Said of a function of the library: it sorts the texts of a box. -/
def sortTag : List V := [.agg [.agg []]]
/-- The texts of a box. -/
def strsV (ss : List (List UInt8)) : List V := ss.map .str
/-- Texts, sorted. -/
def sortS (ss : List (List UInt8)) : List (List UInt8) := ss.mergeSort fun x y => decide (x ≤ y)
/-- The machine's runs. F: the compiled functions; L: functions of the library, by what they answer. -/
inductive Ev (F : FuncId → Option FnC) (L : FuncId → List V → V → Prop) : Task → Prop
  | opsNil (e : Env) (h : Heap) : Ev F L (.ops [] e h e h)
  | opsSkip {o : OpC} {l : List OpC} {e : Env} {h : Heap} {e' : Env} {h' : Heap} (hw : o.wanted e = false) (hn : Ev F L (.ops l (put e o.dst (.tup [])) h e' h')) : Ev F L (.ops (o :: l) e h e' h')
  | opsIns {o : OpC} {l : List OpC} {e : Env} {h : Heap} {v : V} {h1 : Heap} {e' : Env} {h' : Heap} (hw : o.wanted e = true) (hs : stepI o.ins e h = some (v, h1))
      (hn : Ev F L (.ops l (put e o.dst v) h1 e' h')) : Ev F L (.ops (o :: l) e h e' h')
  | opsCall {o : OpC} {l : List OpC} {e : Env} {h : Heap} {f : FuncId} {args : List V} {v : V} {h1 : Heap} {e' : Env} {h' : Heap} (hw : o.wanted e = true) (hs : callI o.ins e = some (f, args))
      (hc : Ev F L (.call f args h v h1)) (hn : Ev F L (.ops l (put e o.dst v) h1 e' h')) : Ev F L (.ops (o :: l) e h e' h')
  | dopsNil (e : Env) (h : Heap) : Ev F L (.dops [] e h e h)
  | dopsSkip {o : OpC} {l : List OpC} {e : Env} {h : Heap} {e' : Env} {h' : Heap} (hw : o.wanted e = false) (hn : Ev F L (.dops l (put e o.dst (.tup [])) h e' h')) : Ev F L (.dops (o :: l) e h e' h')
  | dopsIns {o : OpC} {l : List OpC} {e : Env} {h : Heap} {v : V} {h1 : Heap} {e' : Env} {h' : Heap} (hw : o.wanted e = true) (hs : stepI o.ins e h = some (v, h1)) (hx : Ext h h1)
      (hn : Ev F L (.dops l (put e o.dst v) h1 e' h')) : Ev F L (.dops (o :: l) e h e' h')
  | dopsCall {o : OpC} {l : List OpC} {e : Env} {h : Heap} {f : FuncId} {args : List V} {v : V} {h1 : Heap} {e' : Env} {h' : Heap} (hw : o.wanted e = true) (hs : callI o.ins e = some (f, args)) (hx : Ext h h1)
      (hc : Ev F L (.call f args h v h1)) (hn : Ev F L (.dops l (put e o.dst v) h1 e' h')) : Ev F L (.dops (o :: l) e h e' h')
  | mopsNil (fl : List (Nat × Bool × Nat × Arg)) (e : Env) (h : Heap) : Ev F L (.mops fl [] e h e h)
  | mopsIns {fl : List (Nat × Bool × Nat × Arg)} {o : OpC} {l : List OpC} {e : Env} {h : Heap} {v : V} {h1 : Heap} {e' : Env} {h' : Heap} (hw : o.wanted e = true) (hs : stepI o.ins e h = some (v, h1)) (hx : quiet o.ins = true ∨ flC fl (put e o.dst v) h1)
      (hn : Ev F L (.mops fl l (put e o.dst v) h1 e' h')) : Ev F L (.mops fl (o :: l) e h e' h')
  | mopsCall {fl : List (Nat × Bool × Nat × Arg)} {o : OpC} {l : List OpC} {e : Env} {h : Heap} {f : FuncId} {args : List V} {v : V} {h1 : Heap} {e' : Env} {h' : Heap} (hw : o.wanted e = true) (hs : callI o.ins e = some (f, args)) (hx : flC fl (put e o.dst v) h1)
      (hc : Ev F L (.call f args h v h1)) (hn : Ev F L (.mops fl l (put e o.dst v) h1 e' h')) : Ev F L (.mops fl (o :: l) e h e' h')
  | mregion {fl : List (Nat × Bool × Nat × Arg)} {l m t : List OpC} {e : Env} {h : Heap} {e1 : Env} {h1 : Heap} {e2 : Env} {h2 : Heap} {e' : Env} {h' : Heap} (hn : Ev F L (.dops l e h e1 h1)) (hm : Ev F L (.mops fl m e1 h1 e2 h2)) (ht : Ev F L (.ops t e2 h2 e' h')) : Ev F L (.code (.mregion l m t fl) e h .norm e' h')
  | skip (e : Env) (h : Heap) : Ev F L (.code .skip e h .norm e h)
  | region {l : List OpC} {e : Env} {h : Heap} {e' : Env} {h' : Heap} (hn : Ev F L (.ops l e h e' h')) : Ev F L (.code (.region l) e h .norm e' h')
  | dregion {l t : List OpC} {e : Env} {h : Heap} {e1 : Env} {h1 : Heap} {e' : Env} {h' : Heap} (hn : Ev F L (.dops l e h e1 h1)) (ht : Ev F L (.ops t e1 h1 e' h')) : Ev F L (.code (.dregion l t) e h .norm e' h')
  | seqN {a b : C} {e : Env} {h : Heap} {e1 : Env} {h1 : Heap} {x : X} {e' : Env} {h' : Heap} (ha : Ev F L (.code a e h .norm e1 h1)) (hb : Ev F L (.code b e1 h1 x e' h')) : Ev F L (.code (.seq a b) e h x e' h')
  | seqX {a b : C} {e : Env} {h : Heap} {x : X} {e' : Env} {h' : Heap} (ha : Ev F L (.code a e h x e' h')) (hx : x ≠ .norm) : Ev F L (.code (.seq a b) e h x e' h')
  | cond {g : Arg} {a b : C} {e : Env} {h : Heap} {t : Bool} {x : X} {e' : Env} {h' : Heap} (hg : g.get e = .bool t) (hn : Ev F L (.code (if t then a else b) e h x e' h')) : Ev F L (.code (.cond g a b) e h x e' h')
  | block {id : Nat} {c : C} {e : Env} {h : Heap} {x : X} {e' : Env} {h' : Heap} (hn : Ev F L (.code c e h x e' h')) : Ev F L (.code (.block id c) e h (x.out id) e' h')
  | loopN {c : C} {e : Env} {h : Heap} {e1 : Env} {h1 : Heap} {x : X} {e' : Env} {h' : Heap} (hb : Ev F L (.code c e h .norm e1 h1)) (hn : Ev F L (.code (.loop c) e1 h1 x e' h')) : Ev F L (.code (.loop c) e h x e' h')
  | loopX {c : C} {e : Env} {h : Heap} {x : X} {e' : Env} {h' : Heap} (hb : Ev F L (.code c e h x e' h')) (hx : x ≠ .norm) : Ev F L (.code (.loop c) e h x e' h')
  | exit (id : Nat) (e : Env) (h : Heap) : Ev F L (.code (.exit id) e h (.exit id) e h)
  | ret (e : Env) (h : Heap) : Ev F L (.code .ret e h .ret e h)
  | call {f : FuncId} {fn : FnC} {args : List V} {h : Heap} {x : X} {e' : Env} {h' : Heap} {v : V} (hf : F f = some fn) (ha : args.length ≤ fn.ntmps)
      (hb : Ev F L (.code fn.body (enterE args) h x e' h')) (hx : x = .norm ∨ x = .ret) (hr : resultsV h' e' fn.results = some v) : Ev F L (.call f args h v h')
  | lib {f : FuncId} {args : List V} {h : Heap} {v : V} (hl : L f args v) : Ev F L (.call f args h v h)
  | libS {f : FuncId} {id : Nat} {ss : List (List UInt8)} {h : Heap} (hl : L f sortTag (.tup [])) (hh : h[id]? = some (.box (strsV ss))) (hn : ss.length < 4611686018427387904) : Ev F L (.call f [.hsl 1 id ss.length] h (.tup []) (h.set id (.box (strsV (sortS ss)))))
end Go.Vm
end
section
namespace Go.Vm
set_option linter.unusedVariables false
/-- A constant without memory behind it. -/
def ofScalar : Value → Option V
  | .bool b => some (.bool b)
  | .int k n => some (.int k n)
  | .string s => some (.str s.data.toList)
  | .pointer none => some .nilp
  | .slice none 0 0 => some .nsl
  | .map none => some .nmap
  | .nilFunc => some .nfn
  | _ => none
def ofScalars : List Value → Option (List V)
  | [] => some []
  | v :: r => match ofScalar v, ofScalars r with
    | some x, some xs => some (x :: xs)
    | _, _ => none
def ofConst : Value → Option V
  | .agg cs => (ofScalars cs.toList).map .agg
  | .tuple vs => if vs.size = 0 then some (.tup []) else none
  | v => ofScalar v
def argC (n : Nat) : Operand → Option Arg
  | .tmp t => if t < n then some (.t t) else none
  | .const v => (ofConst v).map .c
  | .func f => some (.c (.fn f []))
  | .global _ => none
def argsC (n : Nat) : List Operand → Option (List Arg)
  | [] => some []
  | x :: r => match argC n x, argsC n r with
    | some a, some as => some (a :: as)
    | _, _ => none
def argO (n : Nat) : Option Operand → Option (Option Arg)
  | none => some none
  | some x => (argC n x).map some
def aggT (P : Program) (t : TypeId) : Option Bool :=
  match P.underlying t with
  | some (.struct _) | some (.array _ _) => some true
  | some _ => some false
  | none => none
def sizeT (P : Program) (t : TypeId) : Option Nat := (P.info? t).map (·.size)
def bytesT (P : Program) (t : TypeId) : Option Nat := (P.info? t).map (·.bytes)
def zeroT (P : Program) (t : TypeId) : Option (List V) := match P.info? t with
  | some i => match i.zero with
    | some z => ofScalars z.cells.toList
    | none => none
  | none => none
def partsC (n : Nat) (place : Nat → Option (Nat × Nat)) : List (Nat × Operand) → Option (List (Nat × Nat × Arg))
  | [] => some []
  | (i, x) :: r => match place i, argC n x, partsC n place r with
    | some (off, sz), some a, some ps => some ((off, sz, a) :: ps)
    | _, _, _ => none
def seqParts (n : Nat) : Nat → List (Nat × Operand) → Option (List Arg)
  | _, [] => some []
  | i, (j, x) :: r => if i = j then match argC n x, seqParts n (i + 1) r with
      | some a, some as => some (a :: as)
      | _, _ => none
    else none
/-- The kinds of a struct's cells, where it is made of plain values alone (and is no stand-in's). -/
def plainFs (P : Program) (g : TypeId → Option (List LK)) : Nat → List Field → Option (List LK)
  | _, [] => some []
  | acc, f :: r => if f.name ≠ "_" ∧ f.offset = acc then match g f.type with
      | some ks => if sizeT P f.type = some ks.length then (plainFs P g (acc + ks.length) r).map (ks ++ ·) else none
      | none => none
    else none
def plainK (P : Program) : Nat → TypeId → Option (List LK)
  | 0, _ => none
  | d + 1, t => match P.underlying t with
    | some .bool => some [.b]
    | some (.int _) => some [.i]
    | some .string => some [.s]
    | some (.struct fs) => if P.stoodInHeld t then none else plainFs P (plainK P d) 0 fs.toList
    | _ => none
def isFn (P : Program) (f : FuncId) : Bool := match P.funcs[f]? with
  | some fn => fn.body.isSome && fn.name != "runtime.NumGoroutine"
  | none => false
def isU8 : TypeDesc → Bool
  | .int .u8 => true
  | _ => false
/-- Whose rows may be changed: those of functions with so many places (vary.Names, whose names are sorted). -/
def muN (n : Nat) : Bool := n == 43
def u8T (P : Program) (e : TypeId) : Bool := match P.underlying e with
  | some d => isU8 d
  | none => false
def callC (P : Program) (n : Nat) (c : Call) : Option Ins :=
  match c.callee with
  | .value (.func f) => if isFn P f then (argsC n c.args.toList).map (.call f) else none
  | .value (.tmp t) => if t < n then (argsC n c.args.toList).map (.callv (.t t)) else none
  | .value _ => none
  | .invoke _ _ => none
  | .builtin b =>
    match b, c.args.toList, c.argTypes.toList with
    | .len, [x], [t] => match P.underlying t with
      | some .string => (argC n x).map (.len 0)
      | some (.slice _) => (argC n x).map (.len 1)
      | some (.map _ _) => (argC n x).map (.len 2)
      | some (.array k _) => some (.lenArr k)
      | some (.pointer e) => match P.underlying e with
        | some (.array k _) => some (.lenArr k)
        | _ => none
      | _ => none
    | .append, [x, y], [t, u] => match P.underlying t with
      | some (.slice e) => match P.underlying u, P.underlying e, sizeT P e, bytesT P e, zeroT P e, argC n x, argC n y with
        | some (.int _), _, _, _, _, _, _ => none
        | some _, some d, some sz, some b, some z, some a, some a' => if sz = 0 ∨ b = 0 ∨ z.length ≠ sz then none else some (.app sz b (isU8 d || muN n) a a')
        | _, _, _, _, _, _, _ => none
      | _ => none
    | .copy, [x, y], [t, _] => match P.underlying t with
      | some (.slice e) => match sizeT P e, argC n x, argC n y with
        | some sz, some a, some a' => if sz = 0 then none else some (.copy sz a a')
        | _, _, _ => none
      | _ => none
    | .min, xs, _ => (argsC n xs).map .mn
    | .max, xs, _ => (argsC n xs).map .mx
    | .clear, [x], [t] => match P.underlying t with
      | some (.map _ _) => (argC n x).map .clear
      | _ => none
    | _, _, _ => none
def eqKind (P : Program) (t : TypeId) : Option EqK :=
  match P.underlying t with
  | some .bool => some .bool
  | some (.slice _) => some (.nil 0)
  | some (.map _ _) => some (.nil 1)
  | some (.func _ _ _) => some (.nil 2)
  | some (.pointer _) => some (.nil 3)
  | some (.struct _) => if P.eqGuardType P.depth t then none else (plainK P 8 t).map .agg
  | _ => none
/-- An operation without a call. n: how many temporaries there are. -/
def insC (P : Program) (n : Nat) (o : Oper) : Option Ins :=
  match o.op with
  | .move x | .assign x => (argC n x).map .mv
  | .pick c a b => match argC n c, argC n a, argC n b with
    | some c, some a, some b => some (.pick c a b)
    | _, _, _ => none
  | .alloc t => (zeroT P t).map .boxz
  | .box t x => (argC n x).map .box
  | .build t parts => match zeroT P t with
    | some z => match P.underlying t with
      | some (.struct fs) => if !(fs.toList.all fun f => (sizeT P f.type).isSome) then none else (partsC n (fun i => (fs[i]?).bind fun f => (sizeT P f.type).map fun s => (f.offset, s)) parts.toList).map (.build z)
      | some (.array _ e) => match sizeT P e with
        | some s => (partsC n (fun i => some (i * s, s)) parts.toList).map (.build z)
        | none => none
      | _ => none
    | none => none
  | .buildSlice t len parts => match P.underlying t with
    | some (.slice e) => match sizeT P e, zeroT P e, seqParts n 0 parts.toList with
      | some s, some z, some as => if 0 < s ∧ as.length = len ∧ len * s ≤ 2 ^ 24 ∧ z.length = s then (if s = 1 ∧ 8 ≤ len ∧ u8T P e = true then some (.bslb as) else some (.bsl s as)) else none
      | _, _, _ => none
    | _ => none
  | .load t a => match aggT P t, sizeT P t, argC n a with
    | some g, some s, some a => some (.load g s a)
    | _, _, _ => none
  | .store t a x => match sizeT P t, argC n a, argC n x with
    | some s, some a, some x => some (.store s a x)
    | _, _, _ => none
  | .nilCheck x => (argC n x).map .nilck
  | .binOp op t x y _ => match argC n x, argC n y with
    | some a, some b => match P.underlying t with
      | some (.int _) | some .string => some (.bin op a b)
      | _ => match op, eqKind P t with
        | .eql, some k => some (.eq k false a b)
        | .neq, some k => some (.eq k true a b)
        | _, _ => none
    | _, _ => none
  | .unOp op _ x => (argC n x).map (.un op)
  | .convert src dst x => match P.underlying src, P.underlying dst, argC n x with
    | some (.int _), some (.int k), some a => some (.toInt k a)
    | some .string, some .string, some a => some (.mvs a)
    | some (.slice e), some .string, some a => match P.underlying e with
      | some (.int .u8) => some (.toStr a)
      | _ => none
    | some .string, some (.slice e), some a => match P.underlying e with
      | some (.int .u8) => some (.toBytes a)
      | _ => none
    | some (.slice _), some (.slice e), some a => match P.underlying e with
      | some (.int .u8) => if src == dst then some (.mark a) else none
      | _ => none
    | _, _, _ => none
  | .makeFunc (.func f) first caps => if first.size = 0 then (argsC n caps.toList).map (.mkfn f) else none
  | .makeMap _ none => some .mkmap
  | .makeSlice t l c => match P.underlying t with
    | some (.slice e) => match sizeT P e, bytesT P e, zeroT P e, argC n l, argC n c with
      | some s, some b, some z, some l, some c => if 0 < s ∧ z.length = s ∧ 0 < b then some (.mksl s b z l c) else none
      | _, _, _, _, _ => none
    | _ => none
  | .slice t x lo hi mx => match argC n x, argO n lo, argO n hi, argO n mx with
    | some a, some lo, some hi, some mx => match P.underlying t with
      | some .string => match mx with
        | none => some (.slstr a lo hi)
        | some _ => none
      | some (.slice e) => match sizeT P e with
        | some s => if 0 < s then some (.slsl s a lo hi mx) else none
        | none => none
      | _ => none
    | _, _, _, _ => none
  | .fieldAddr t x f => match P.underlying t with
    | some (.struct fs) => match fs[f]? with
      | some fd => match sizeT P fd.type, argC n x with
        | some s, some a => if s = 0 then none else some (.faddr fd.offset a)
        | _, _ => none
      | none => none
    | _ => none
  | .field t x f => match P.underlying t with
    | some (.struct fs) => match fs[f]? with
      | some fd => match aggT P fd.type, sizeT P fd.type, argC n x with
        | some g, some s, some a => some (.fld fd.offset s g a)
        | _, _, _ => none
      | none => none
    | _ => none
  | .indexAddr t x i => match argC n x, argC n i with
    | some a, some j => match P.underlying t with
      | some (.slice e) => match sizeT P e with
        | some s => if 0 < s then some (.ixaSl s a j) else none
        | none => none
      | some (.array k e) => match sizeT P e with
        | some s => if 0 < s then some (.ixaArr k s a j) else none
        | none => none
      | _ => none
    | _, _ => none
  | .index t x i => match argC n x, argC n i with
    | some a, some j => match P.underlying t with
      | some .string => some (.ixStr a j)
      | some (.array k e) => match aggT P e, sizeT P e with
        | some g, some s => some (.ixArr k s g a j)
        | _, _ => none
      | _ => none
    | _, _ => none
  | .lookup t m k ok => match P.underlying t with
    | some (.map kt e) => match P.underlying kt, (P.info? e).bind (·.zero), argC n m, argC n k with
      | some .string, some z, some m, some k => (ofConst z).map fun z => .lookup .s z ok m k
      | some (.int _), some z, some m, some k => (ofConst z).map fun z => .lookup .i z ok m k
      | _, _, _, _ => none
    | _ => none
  | .mapUpdate t m k v | .insert t m k v => match P.underlying t with
    | some (.map kt _) => match P.underlying kt, argC n m, argC n k, argC n v with
      | some .string, some m, some k, some v => some (.mapset .s m k v)
      | some (.int _), some m, some k, some v => some (.mapset .i m k v)
      | _, _, _, _ => none
    | _ => none
  | .extract x i => (argC n x).map (.ext i)
  | .call c => callC P n c
  | _ => none
def guardC (ops : Array Oper) (n : Nat) : Option (Nat × Bool) → Option (Option (Nat × Bool))
  | none => some none
  | some (j, b) => match (ops[j]?).bind (·.dst) with
    | some t => if t < n then some (some (t, b)) else none
    | none => none
def dstOk (n : Nat) : Option Tmp → Bool
  | none => true
  | some d => d < n
def opC (P : Program) (ops : Array Oper) (n : Nat) (o : Oper) : Option OpC :=
  match guardC ops n o.guard, insC P n o with
  | some g, some i => if dstOk n o.dst then some { dst := o.dst, guard := g, ins := i } else none
  | _, _ => none
def opsC (P : Program) (ops : Array Oper) (n : Nat) : List Oper → Option (List OpC)
  | [] => some []
  | o :: r => match opC P ops n o, opsC P ops n r with
    | some a, some as => some (a :: as)
    | _, _ => none
/-- What an instruction looks at. -/
def Ins.args : Ins → List Arg
  | .mv a | .mvs a | .box a | .load _ _ a | .nilck a | .un _ a | .toInt _ a | .toStr a | .toBytes a | .mark a | .faddr _ a | .fld _ _ _ a | .ext _ a | .len _ a | .clear a => [a]
  | .pick a b c | .mapset _ a b c => [a, b, c]
  | .boxz _ | .mkmap | .lenArr _ => []
  | .build _ ps => ps.map (·.2.2)
  | .bsl _ ps => ps
  | .bslb ps => ps
  | .store _ a b | .bin _ a b | .eq _ _ a b | .lookup _ _ _ a b | .mksl _ _ _ a b | .ixaSl _ a b | .ixaArr _ _ a b | .ixArr _ _ _ a b | .ixStr a b | .app _ _ _ a b | .copy _ a b => [a, b]
  | .mkfn _ cs => cs
  | .slstr x l h => [x] ++ l.toList ++ h.toList
  | .slsl _ x l h m => [x] ++ l.toList ++ h.toList ++ m.toList
  | .mn xs | .mx xs | .call _ xs => xs
  | .callv g xs => g :: xs
def OpC.looks (o : OpC) (d : Nat) : Bool :=
  (o.ins.args.any fun | .t t => t == d | _ => false) || (match o.guard with | some (t, _) => t == d | none => false)
def looksO (ops : Array Oper) (o : Oper) (d : Nat) : Bool := (o.looksAt ops).contains d
/-- May the operations of a region be run in the text's order, whichever is drawn? -/
def waits (o : Oper) (i : Nat) : Bool := o.after.any fun e => Region.binds .any e && e.on == i
def drawOk (ops : Array Oper) (l : List OpC) : Bool :=
  (List.range l.length).all fun j => match ops[j]?, l[j]? with
    | some oj, some cj => (match oj.op with | .select _ _ => false | _ => true) &&
      (oj.after.all fun e => !Region.binds .any e || e.on < j) &&
      (List.range j).all fun i => match ops[i]?, l[i]? with
        | some oi, some ci => (match oi.dst with | some d => oj.dst != some d | none => true) &&
          (waits oj i || ((match oi.dst with | some d => !(looksO ops oj d) && !(cj.looks d) | none => true) && (match oj.dst with | some d => !(looksO ops oi d) && !(ci.looks d) | none => true)))
        | _, _ => false
    | _, _ => false
/-- What must have been run ahead of an operation, as bits: what it waits for, and what that waits for. -/
def maskOf (ms : List Nat) (o : Oper) : Nat :=
  o.after.toList.foldl (fun m e => if Region.binds .any e then m ||| (1 <<< e.on) ||| ms.getD e.on 0 else m) 0
def masks : List Oper → List Nat → List Nat
  | [], ms => ms
  | o :: r, ms => masks r (ms ++ [maskOf ms o])
/-- From which operation on each one waits for all before it. -/
def cutN (ms : List Nat) : Nat → Nat
  | 0 => 0
  | j + 1 => if ms.getD j 0 = 2 ^ j - 1 then cutN ms j else j + 1
/-- Does it write to what was there? -/
def isW : Ins → Bool
  | .store _ _ _ | .app _ _ _ _ _ | .copy _ _ _ | .mapset _ _ _ _ | .clear _ => true
  | _ => false
/-- May it be run late? -/
def lateI : Ins → Bool
  | .mv _ | .ext _ _ | .bin _ _ _ | .load _ _ _ => true
  | _ => false
def lateO : OpC → Bool
  | ⟨some _, none, i⟩ => lateI i
  | _ => false
/-- Is the last of k operations an allocation? It may be run ahead of others (fa). -/
def floatA (ops : Array Oper) (k : Nat) : Bool := match ops[k - 1]? with
  | some o => o.guard.isNone && o.dst.isSome && (match o.op with | .alloc _ => true | _ => false)
  | none => false
/-- A region whose writers (from c1 on) wait for all ahead of them but for some that may be run late (fp). -/
def mOk (fa : Bool) (ms : List Nat) (l : List OpC) (c1 : Nat) (fp : List Nat) : Bool :=
  (fp.all fun i => decide (i < c1) && (match l[i]? with | some o => lateO o | none => false)) &&
  ((List.range l.length).all fun j => decide (j < c1) || ((match l[j]? with | some o => o.guard.isNone | none => false) && ((fa && decide (j + 1 = l.length)) || (List.range j).all fun i => (ms.getD j 0).testBit i || fp.contains i))) &&
  (fp.all fun i => (List.range l.length).all fun j => decide (j < i) || (match l[i]?, l[j]? with
    | some oi, some oj => (match oj.dst with | some d => !(oi.looks d) | none => true)
    | _, _ => false))
def latesOf (fa : Bool) (ms : List Nat) (c1 c : Nat) : List Nat := (List.range c1).filter fun i => (List.range c).any fun j => decide (c1 ≤ j) && !(fa && decide (j + 1 = c)) && !(ms.getD j 0).testBit i
def isWAt (l : List OpC) (c : Nat) : Bool := match l[c]? with | some o => isW o.ins | none => false
def midA (ms : List Nat) (l : List OpC) : List Nat → Option (Nat × List Nat)
  | [] => none
  | c1 :: r => if c1 < l.length ∧ isWAt l c1 = true ∧ mOk true ms l c1 (latesOf true ms c1 l.length) = true then some (c1, latesOf true ms c1 l.length) else midA ms l r
def midC (fa : Bool) (ms : List Nat) (l : List OpC) : Option (Nat × List Nat) :=
  let c1 := l.findIdx fun o => isW o.ins
  let fp := latesOf false ms c1 l.length
  if c1 < l.length ∧ mOk false ms l c1 fp = true then some (c1, fp) else if fa then midA ms l (List.range l.length) else none
/-- The loads among what may be run late. -/
def flO : OpC → Option (Nat × Bool × Nat × Arg)
  | ⟨some d, none, .load g s a⟩ => some (d, g, s, a)
  | _ => none
def flI (l : List OpC) (fp : List Nat) : List (Nat × Bool × Nat × Arg) := fp.filterMap fun i => (l[i]?).bind flO
def codeC (P : Program) (n : Nat) : Code → Option C
  | .skip => some .skip
  | .label _ => some .skip
  | .region _ ops draw => match opsC P ops n ops.toList with
    | some l => if draw then (let c := cutN (masks ops.toList []) ops.size; if drawOk ops (l.take c) then (match midC (floatA ops (l.take c).length) (masks ops.toList []) (l.take c) with | some (c1, fp) => some (.mregion ((l.take c).take c1) ((l.take c).drop c1) (l.drop c) (flI (l.take c) fp)) | none => some (.dregion (l.take c) (l.drop c))) else none) else some (.region l)
    | none => none
  | .seq a b => match codeC P n a, codeC P n b with
    | some a, some b => some (.seq a b)
    | _, _ => none
  | .cond c a b => match argC n c, codeC P n a, codeC P n b with
    | some c, some a, some b => some (.cond c a b)
    | _, _, _ => none
  | .block id c => (codeC P n c).map (.block id)
  | .loop c => (codeC P n c).map .loop
  | .exit id => some (.exit id)
  | .ret => some .ret
  | _ => none
def resC (P : Program) (n : Nat) : ResultVar → Option Res
  | .tmp t => if t < n then some (.tmp t) else none
  | .cell t ty => match aggT P ty, sizeT P ty with
    | some g, some s => if t < n then some (.cell t g s) else none
    | _, _ => none
def ressC (P : Program) (n : Nat) : List ResultVar → Option (List Res)
  | [] => some []
  | x :: r => match resC P n x, ressC P n r with
    | some a, some as => some (a :: as)
    | _, _ => none
/-- A function, compiled. -/
def compF (P : Program) (f : FuncId) : Option FnC :=
  match P.funcs[f]? with
  | none => none
  | some fn => if fn.name == "runtime.NumGoroutine" then none else match fn.body with
    | none => none
    | some c => match ressC P fn.ntmps fn.results.toList, codeC P fn.ntmps c with
      | some rs, some b => some { ntmps := fn.ntmps, results := rs, body := b }
      | _, _ => none
end Go.Vm
end
section
namespace Go.Vm
set_option linter.unusedVariables false
structure Tip where
  n : Nat
  blk : Nat
  off : Nat
  cap : Nat
  sz : Nat
/-- What stands behind the boxes' numbers. blk: a box's (or map's) block and how many cells it has; tip: the row that a slice may grow in; lim: how many cells at a block's begin stay as they are. -/
structure Gh where
  blk : Nat → Option (Nat × Nat)
  tip : Nat → Option Tip
  lim : Nat → Option Nat
def Stable (B : Nat) (G : Gh) (b o : Nat) : Prop := b < B ∨ ∃ n, G.lim b = some n ∧ o < n
/-- A value of one cell. -/
def oneC : V → Prop
  | .agg _ => False
  | .tup _ => False
  | _ => True
def at? (w : World) (b o : Nat) : Option Value := w.cell? ⟨b, o, none⟩
inductive Rv (B : Nat) (G : Gh) (w : World) : V → Value → Prop
  | bool (b : Bool) : Rv B G w (.bool b) (.bool b)
  | int (k : IntKind) (n : Int) : Rv B G w (.int k n) (.int k n)
  | str (s : List UInt8) : Rv B G w (.str s) (.string ⟨s.toArray⟩)
  | nilp : Rv B G w .nilp (.pointer none)
  | ptr {id off b n : Nat} (h : G.blk id = some (b, n)) : Rv B G w (.ptr id off) (.pointer (some ⟨b, off, none⟩))
  | iptr {cs : List V} {b o : Nat} (vs : Nat → Value) (hc : ∀ k, k < cs.length → Stable B G b (o + k) ∧ at? w b (o + k) = some (vs k))
      (h1 : ∀ c ∈ cs, oneC c) (hr : ∀ (k : Nat) (x : V), cs[k]? = some x → Rv B G w x (vs k)) : Rv B G w (.iptr cs) (.pointer (some ⟨b, o, none⟩))
  | nsl : Rv B G w .nsl (.slice none 0 0)
  | sl {sz : Nat} {own : Own} {es : List V} {a : Addr} {cap : Nat} (vs : Nat → Value) (hsz : ∀ e ∈ es, (cells e).length = sz) (hsp : es ≠ [] → a.spot = none) (hcap : es.length ≤ cap)
      (hc : ∀ k, k < (flat es).length → Stable B G a.block (a.off + k) ∧ at? w a.block (a.off + k) = some (vs k))
      (h1 : ∀ c ∈ flat es, oneC c) (hr : ∀ (k : Nat) (x : V), (flat es)[k]? = some x → Rv B G w x (vs k))
      (hfull : own = .full → cap = es.length)
      (htip : ∀ id, own = .tip id → ∃ t, G.tip id = some t ∧ (flat es).length ≤ t.n ∧ ((flat es).length = t.n → a = ⟨t.blk, t.off, none⟩ ∧ cap = t.cap ∧ sz = t.sz)) :
      Rv B G w (.sl sz own es) (.slice (some a) es.length cap)
  | hsl {sz id len b n cap : Nat} (h : G.blk id = some (b, n)) (hl : len ≤ cap) (hn : cap * sz ≤ n) : Rv B G w (.hsl sz id len) (.slice (some ⟨b, 0, none⟩) len cap)
  | nmap : Rv B G w .nmap (.map none)
  | map {id b n : Nat} (h : G.blk id = some (b, n)) : Rv B G w (.map id) (.map (some b))
  | nfn : Rv B G w .nfn .nilFunc
  | fn {f : FuncId} {caps : List V} {vs : List Value} (hl : vs.length = caps.length) (hr : ∀ (k : Nat) (x : V) (v : Value), caps[k]? = some x → vs[k]? = some v → Rv B G w x v) :
      Rv B G w (.fn f caps) (.func (.func f) #[] vs.toArray)
  | agg {cs : List V} {vs : List Value} (hl : vs.length = cs.length) (h1 : ∀ c ∈ cs, oneC c) (hr : ∀ (k : Nat) (x : V) (v : Value), cs[k]? = some x → vs[k]? = some v → Rv B G w x v) :
      Rv B G w (.agg cs) (.agg vs.toArray)
  | tup {cs : List V} {vs : List Value} (hl : vs.length = cs.length) (hr : ∀ (k : Nat) (x : V) (v : Value), cs[k]? = some x → vs[k]? = some v → Rv B G w x v) :
      Rv B G w (.tup cs) (.tuple vs.toArray)
/-- Lists of values, one by one. -/
def Rvs (B : Nat) (G : Gh) (w : World) (xs : List V) (vs : List Value) : Prop :=
  vs.length = xs.length ∧ ∀ (k : Nat) (x : V) (v : Value), xs[k]? = some x → vs[k]? = some v → Rv B G w x v
/-- More is known, and what stays has stayed. -/
structure Le (B : Nat) (G : Gh) (w : World) (G' : Gh) (w' : World) : Prop where
  blk : ∀ id p, G.blk id = some p → G'.blk id = some p
  tip : ∀ id t, G.tip id = some t → ∃ t', G'.tip id = some t' ∧ t.n ≤ t'.n ∧ (t.n = t'.n → t' = t)
  stab : ∀ b o, Stable B G b o → Stable B G' b o ∧ at? w' b o = at? w b o
theorem Le.refl (B : Nat) (G : Gh) (w : World) : Le B G w G w :=
  ⟨fun _ _ h => h, fun _ t h => ⟨t, h, Nat.le_refl _, fun _ => rfl⟩, fun _ _ h => ⟨h, rfl⟩⟩
theorem Le.trans {B : Nat} {G G' G'' : Gh} {w w' w'' : World} (h : Le B G w G' w') (k : Le B G' w' G'' w'') : Le B G w G'' w'' where
  blk id p e := k.blk id p (h.blk id p e)
  tip id t e := by
    obtain ⟨t', e', l', f'⟩ := h.tip id t e
    obtain ⟨t'', e'', l'', f''⟩ := k.tip id t' e'
    refine ⟨t'', e'', Nat.le_trans l' l'', fun he => ?_⟩
    have h1 : t.n = t'.n := by omega
    have h2 : t' = t := f' h1
    subst h2
    exact f'' he
  stab b o hs := by
    obtain ⟨s', c'⟩ := h.stab b o hs
    obtain ⟨s'', c''⟩ := k.stab b o s'
    exact ⟨s'', c''.trans c'⟩
theorem Rv.mono {B : Nat} {G G' : Gh} {w w' : World} (hle : Le B G w G' w') {x : V} {v : Value} (h : Rv B G w x v) : Rv B G' w' x v := by
  induction h with
  | bool b => exact .bool b
  | int k n => exact .int k n
  | str s => exact .str s
  | nilp => exact .nilp
  | ptr h => exact .ptr (hle.blk _ _ h)
  | iptr vs hc h1 _ ih => exact .iptr vs (fun k hk => ⟨(hle.stab _ _ (hc k hk).1).1, (hle.stab _ _ (hc k hk).1).2.trans (hc k hk).2⟩) h1 ih
  | nsl => exact .nsl
  | sl vs hsz hsp hcap hc h1 _ hfull htip ih =>
    refine .sl vs hsz hsp hcap (fun k hk => ⟨(hle.stab _ _ (hc k hk).1).1, (hle.stab _ _ (hc k hk).1).2.trans (hc k hk).2⟩) h1 ih hfull fun id e => ?_
    obtain ⟨t, ht, hn, hf⟩ := htip id e
    obtain ⟨t', ht', hn', hf'⟩ := hle.tip id t ht
    refine ⟨t', ht', Nat.le_trans hn hn', fun he => ?_⟩
    have : t' = t := hf' (by omega)
    subst this
    exact hf he
  | hsl h hl hn => exact .hsl (hle.blk _ _ h) hl hn
  | nmap => exact .nmap
  | map h => exact .map (hle.blk _ _ h)
  | nfn => exact .nfn
  | fn hl _ ih => exact .fn hl ih
  | agg hl h1 _ ih => exact .agg hl h1 ih
  | tup hl _ ih => exact .tup hl ih
theorem Rvs.mono {B : Nat} {G G' : Gh} {w w' : World} (hle : Le B G w G' w') {xs : List V} {vs : List Value} (h : Rvs B G w xs vs) : Rvs B G' w' xs vs :=
  ⟨h.1, fun k x v hx hv => (h.2 k x v hx hv).mono hle⟩
/-- The block of cells b: n of them, none frozen, the first ones as they are told. -/
structure Row (B : Nat) (G : Gh) (w : World) (b n : Nat) (cs : List V) : Prop where
  out : ∃ arr T fz, w.heap[b]? = some (.cells arr T fz) ∧ arr.size = n ∧ (fz.1 = fz.2 ∨ n ≤ fz.1) ∧ cs.length ≤ n ∧
    (∀ c ∈ cs, oneC c) ∧ ∀ (k : Nat) (x : V), cs[k]? = some x → ∃ v, arr[k]? = some v ∧ Rv B G w x v
def Ents (B : Nat) (G : Gh) (w : World) (es : List (V × V)) (l : List MapEntry) : Prop :=
  l.length = es.length ∧ ∀ (k : Nat) (x : V × V) (e : MapEntry), es[k]? = some x → l[k]? = some e → Rv B G w x.1 e.key ∧ Rv B G w x.2 e.val
/-- What a box's number holds. -/
def ObjRel (B : Nat) (G : Gh) (w : World) (id : Nat) : O → Prop
  | .box cs => ∀ b n, G.blk id = some (b, n) → Row B G w b n cs
  | .map es => ∀ b n, G.blk id = some (b, n) → ∃ l clock, w.heap[b]? = some (.map l clock) ∧ Ents B G w es l.toList
  | .tip n => ∀ t, G.tip id = some t → t.n = n ∧ ∃ arr T fz, w.heap[t.blk]? = some (.cells arr T fz) ∧ t.off + t.cap * t.sz ≤ arr.size ∧ (∀ o, o < arr.size → ¬ (fz.1 ≤ o ∧ o < fz.2))
  | .dead => True
def alive (h : Heap) (id : Nat) : Prop := (∃ cs, h[id]? = some (.box cs)) ∨ ∃ es, h[id]? = some (.map es)
/-- The ghost fits the world. -/
structure Wf (B : Nat) (G : Gh) (h : Heap) (w : World) : Prop where
  base : B ≤ w.heap.size
  blk : ∀ id p, G.blk id = some p → B ≤ p.1 ∧ p.1 < w.heap.size ∧ G.lim p.1 = none ∧ id < h.length
  tip : ∀ id t, G.tip id = some t → B ≤ t.blk ∧ t.blk < w.heap.size ∧ G.lim t.blk = some (t.off + t.n) ∧ id < h.length
  lim : ∀ b n, G.lim b = some n → B ≤ b ∧ b < w.heap.size
  inj : ∀ i j p q, G.blk i = some p → G.blk j = some q → p.1 = q.1 → alive h i → alive h j → i = j
  tinj : ∀ i j t u, G.tip i = some t → G.tip j = some u → t.blk = u.blk → i = j
  tipo : ∀ id t, G.tip id = some t → h[id]? = some (.tip t.n)
structure Rel (B : Nat) (G : Gh) (h : Heap) (w : World) : Prop where
  wf : Wf B G h w
  obj : ∀ id o, h[id]? = some o → ObjRel B G w id o
def Mapped (G : Gh) (b : Nat) : Prop := (∃ id p, G.blk id = some p ∧ p.1 = b) ∨ ∃ id t, G.tip id = some t ∧ t.blk = b
/-- From one state to a later one. -/
structure Evo (B : Nat) (G : Gh) (h : Heap) (w : World) (G' : Gh) (h' : Heap) (w' : World) : Prop where
  le : Le B G w G' w'
  os : w'.os = w.os
  tape : w'.tape = w.tape
  output : w'.output = w.output
  size : w.heap.size ≤ w'.heap.size
  len : h.length ≤ h'.length
  frame : ∀ b, b < w.heap.size → ¬ Mapped G b → w'.heap[b]? = w.heap[b]?
  fresh : ∀ b, b < w.heap.size → Mapped G' b → Mapped G b
  limk : ∀ b, b < w.heap.size → ¬ Mapped G b → G'.lim b = G.lim b
  nores : ∀ x, x < h.length → alive h' x → alive h x
  oldb : ∀ x p, x < h.length → G'.blk x = some p → G.blk x = some p
  oldt : ∀ x t, x < h.length → G'.tip x = some t → ∃ t0, G.tip x = some t0 ∧ (t.blk = t0.blk ∨ w.heap.size ≤ t.blk)
  newb : ∀ x p, h.length ≤ x → G'.blk x = some p → w.heap.size ≤ p.1 ∨ ∃ y q, y < h.length ∧ G.blk y = some q ∧ q.1 = p.1 ∧ alive h y ∧ ¬ alive h' y
  newt : ∀ x t, h.length ≤ x → G'.tip x = some t → w.heap.size ≤ t.blk
theorem Evo.refl {B : Nat} {G : Gh} {h : Heap} {w : World} (hw : Wf B G h w) : Evo B G h w G h w where
  le := .refl _ _ _
  os := rfl
  tape := rfl
  output := rfl
  size := Nat.le_refl _
  len := Nat.le_refl _
  frame _ _ _ := rfl
  fresh _ _ m := m
  limk _ _ _ := rfl
  nores _ _ a := a
  oldb _ _ _ e := e
  oldt _ t _ e := ⟨t, e, .inl rfl⟩
  newb x p hx e := absurd (hw.blk x p e).2.2.2 (by omega)
  newt x t hx e := absurd (hw.tip x t e).2.2.2 (by omega)
theorem Evo.trans {B : Nat} {G G' G'' : Gh} {h h' h'' : Heap} {w w' w'' : World} (a : Evo B G h w G' h' w') (b : Evo B G' h' w' G'' h'' w'') : Evo B G h w G'' h'' w'' where
  le := a.le.trans b.le
  os := b.os.trans a.os
  tape := b.tape.trans a.tape
  output := b.output.trans a.output
  size := Nat.le_trans a.size b.size
  len := Nat.le_trans a.len b.len
  frame i hi hm := (b.frame i (Nat.lt_of_lt_of_le hi a.size) fun m => hm (a.fresh i hi m)).trans (a.frame i hi hm)
  fresh i hi m := a.fresh i hi (b.fresh i (Nat.lt_of_lt_of_le hi a.size) m)
  limk i hi hm := (b.limk i (Nat.lt_of_lt_of_le hi a.size) fun m => hm (a.fresh i hi m)).trans (a.limk i hi hm)
  nores x hx hal := a.nores x hx (b.nores x (Nat.lt_of_lt_of_le hx a.len) hal)
  oldb x p hx e := a.oldb x p hx (b.oldb x p (Nat.lt_of_lt_of_le hx a.len) e)
  oldt x t hx e := by
    obtain ⟨t0, e0, hb⟩ := b.oldt x t (Nat.lt_of_lt_of_le hx a.len) e
    obtain ⟨t1, e1, hb1⟩ := a.oldt x t0 hx e0
    refine ⟨t1, e1, ?_⟩
    rcases hb with hb | hb
    · rcases hb1 with hb1 | hb1
      · exact .inl (hb.trans hb1)
      · exact .inr (hb ▸ hb1)
    · exact .inr (Nat.le_trans a.size hb)
  newb x p hx e := by
    have dead : ∀ y, y < h.length → ¬ alive h' y → ¬ alive h'' y := fun y hy hn hal => hn (b.nores y (Nat.lt_of_lt_of_le hy a.len) hal)
    by_cases hx' : x < h'.length
    · rcases a.newb x p hx (b.oldb x p hx' e) with hf | ⟨y, q, hy, hq, hp, hal, hn⟩
      · exact .inl hf
      · exact .inr ⟨y, q, hy, hq, hp, hal, dead y hy hn⟩
    · rcases b.newb x p (by omega) e with hf | ⟨y, q, hy, hq, hp, hal, hn⟩
      · exact .inl (Nat.le_trans a.size hf)
      · by_cases hyl : y < h.length
        · exact .inr ⟨y, q, hyl, a.oldb y q hyl hq, hp, a.nores y hyl hal, hn⟩
        · rcases a.newb y q (by omega) hq with hf | ⟨z, r, hz, hr, hp', hal', hn'⟩
          · exact .inl (hp ▸ hf)
          · exact .inr ⟨z, r, hz, hr, hp'.trans hp, hal', dead z hz hn'⟩
  newt x t hx e := by
    by_cases hx' : x < h'.length
    · obtain ⟨t0, e0, hb⟩ := b.oldt x t hx' e
      have h0 := a.newt x t0 hx e0
      rcases hb with hb | hb
      · exact hb ▸ h0
      · exact Nat.le_trans a.size hb
    · exact Nat.le_trans a.size (b.newt x t (by omega) e)
/-- A world with the same heap. -/
theorem Rv.heap {B : Nat} {G : Gh} {w w' : World} (hh : w'.heap = w.heap) {x : V} {v : Value} (h : Rv B G w x v) : Rv B G w' x v :=
  h.mono ⟨fun _ _ e => e, fun _ t e => ⟨t, e, Nat.le_refl _, fun _ => rfl⟩, fun b o hs => ⟨hs, by simp only [at?, World.cell?, hh]⟩⟩
theorem at?_of_block {w w' : World} {b o : Nat} (h : w'.heap[b]? = w.heap[b]?) : at? w' b o = at? w b o := by
  simp only [at?, World.cell?, h]
theorem Row.mono {B : Nat} {G G' : Gh} {w w' : World} (hle : Le B G w G' w') {b n : Nat} {cs : List V} (hb : w'.heap[b]? = w.heap[b]?) (h : Row B G w b n cs) : Row B G' w' b n cs := by
  obtain ⟨arr, T, fz, h1, h2, h3, h4, h5, h6⟩ := h.out
  exact ⟨arr, T, fz, hb.trans h1, h2, h3, h4, h5, fun k x hx => let ⟨v, hv, hr⟩ := h6 k x hx; ⟨v, hv, hr.mono hle⟩⟩
theorem Ents.mono {B : Nat} {G G' : Gh} {w w' : World} (hle : Le B G w G' w') {es : List (V × V)} {l : List MapEntry} (h : Ents B G w es l) : Ents B G' w' es l :=
  ⟨h.1, fun k x e hx he => ⟨((h.2 k x e hx he).1).mono hle, ((h.2 k x e hx he).2).mono hle⟩⟩
end Go.Vm
end
section
namespace Go.Vm
set_option linter.unusedVariables false
structure Sm (w w' : World) : Prop where
  os : w'.os = w.os
  tape : w'.tape = w.tape
  output : w'.output = w.output
theorem Sm.refl (w : World) : Sm w w := ⟨rfl, rfl, rfl⟩
def Gh.addBlk (G : Gh) (id b n : Nat) : Gh := { G with blk := fun i => if i = id then some (b, n) else G.blk i }
def Gh.addLim (G : Gh) (b n : Nat) : Gh := { G with lim := fun i => if i = b then some n else G.lim i }
def Gh.addTip (G : Gh) (id : Nat) (t : Tip) : Gh :=
  { G with tip := (fun i => if i = id then some t else G.tip i), lim := fun i => if i = t.blk then some (t.off + t.n) else G.lim i }
section
variable {B : Nat} {G G' : Gh} {h h' : Heap} {w w' : World}
theorem Stable.lt (hw : Wf B G h w) {b o : Nat} (hs : Stable B G b o) : b < w.heap.size := by
  rcases hs with hs | ⟨n, hn, _⟩
  · exact Nat.lt_of_lt_of_le hs hw.base
  · exact (hw.lim b n hn).2
theorem push_get {ob : Obj} (hh : w'.heap = w.heap.push ob) {b : Nat} (hb : b < w.heap.size) : w'.heap[b]? = w.heap[b]? := by
  rw [hh, Array.getElem?_push, if_neg (by omega)]
theorem push_new {ob : Obj} (hh : w'.heap = w.heap.push ob) : w'.heap[w.heap.size]? = some ob := by
  rw [hh, Array.getElem?_push, if_pos rfl]
theorem push_size {ob : Obj} (hh : w'.heap = w.heap.push ob) : w'.heap.size = w.heap.size + 1 := by rw [hh]; simp
theorem le_push {ob : Obj} (hw : Wf B G h w) (hh : w'.heap = w.heap.push ob) (hb : ∀ id p, G.blk id = some p → G'.blk id = some p)
    (ht : ∀ id t, G.tip id = some t → G'.tip id = some t) (hl : ∀ b, b < w.heap.size → G'.lim b = G.lim b) : Le B G w G' w' where
  blk := hb
  tip id t e := ⟨t, ht id t e, Nat.le_refl _, fun _ => rfl⟩
  stab b o hs := by
    have hlt := Stable.lt hw hs
    refine ⟨?_, at?_of_block (push_get hh hlt)⟩
    rcases hs with hs | ⟨n, hn, ho⟩
    · exact .inl hs
    · exact .inr ⟨n, (hl b hlt).trans hn, ho⟩
/-- What a box's number holds stays, where its block is as it was. -/
theorem ObjRel.mono (hle : Le B G w G' w') {id : Nat} {o : O} (ho : ObjRel B G w id o)
    (hb : (∃ cs, o = .box cs) ∨ (∃ es, o = .map es) → ∀ p, G'.blk id = some p → G.blk id = some p ∧ w'.heap[p.1]? = w.heap[p.1]?)
    (ht : (∃ n, o = .tip n) → ∀ t, G'.tip id = some t → G.tip id = some t ∧ w'.heap[t.blk]? = w.heap[t.blk]?) : ObjRel B G' w' id o := by
  cases o with
  | box cs =>
    intro b n e
    obtain ⟨e0, hs⟩ := hb (.inl ⟨cs, rfl⟩) _ e
    exact (ho b n e0).mono hle hs
  | map es =>
    intro b n e
    obtain ⟨e0, hs⟩ := hb (.inr ⟨es, rfl⟩) _ e
    obtain ⟨l, clock, h1, h2⟩ := ho b n e0
    exact ⟨l, clock, hs.trans h1, h2.mono hle⟩
  | tip n =>
    intro t e
    obtain ⟨e0, hs⟩ := ht ⟨n, rfl⟩ _ e
    obtain ⟨h1, arr, T, fz, h2, h3⟩ := ho t e0
    exact ⟨h1, arr, T, fz, hs.trans h2, h3⟩
  | dead => trivial
theorem alive_append {o : O} {i : Nat} (hi : i < h.length) : alive (h ++ [o]) i ↔ alive h i := by
  simp only [alive, List.getElem?_append_left hi]
theorem alive_lt {i : Nat} (ha : alive h i) : i < h.length := by
  rcases ha with ⟨cs, e⟩ | ⟨es, e⟩ <;> exact (List.getElem?_eq_some_iff.1 e).1
/-- A new block behind a new number. -/
theorem push_blk {ob : Obj} {o : O} {n : Nat} (hr : Rel B G h w) (sm : Sm w w') (hh : w'.heap = w.heap.push ob)
    (ho : Le B G w (G.addBlk h.length w.heap.size n) w' → ObjRel B (G.addBlk h.length w.heap.size n) w' h.length o) :
    Rel B (G.addBlk h.length w.heap.size n) (h ++ [o]) w' ∧ Evo B G h w (G.addBlk h.length w.heap.size n) (h ++ [o]) w' := by
  have hw := hr.wf
  have hnew : G.blk h.length = none := by
    cases e : G.blk h.length with
    | none => rfl
    | some p => exact absurd (hw.blk _ _ e).2.2.2 (by omega)
  have hnewt : G.tip h.length = none := by
    cases e : G.tip h.length with
    | none => rfl
    | some p => exact absurd (hw.tip _ _ e).2.2.2 (by omega)
  have hle : Le B G w (G.addBlk h.length w.heap.size n) w' := le_push hw hh
    (fun id p e => by simp only [Gh.addBlk]; rw [if_neg (by rintro rfl; rw [hnew] at e; cases e)]; exact e) (fun id t e => e) (fun _ _ => rfl)
  have hsz := push_size hh
  have blk' : ∀ id p, (G.addBlk h.length w.heap.size n).blk id = some p → (id = h.length ∧ p = (w.heap.size, n)) ∨ (id ≠ h.length ∧ G.blk id = some p) := by
    intro id p e
    simp only [Gh.addBlk] at e
    by_cases hid : id = h.length
    · rw [if_pos hid] at e; exact .inl ⟨hid, (Option.some.inj e).symm⟩
    · rw [if_neg hid] at e; exact .inr ⟨hid, e⟩
  have limn : G.lim w.heap.size = none := by
    cases e : G.lim w.heap.size with
    | none => rfl
    | some p => exact absurd (hw.lim _ _ e).2 (by omega)
  have wf' : Wf B (G.addBlk h.length w.heap.size n) (h ++ [o]) w' := by
    refine ⟨by have := hw.base; omega, ?_, ?_, ?_, ?_, ?_, ?_⟩
    · intro id p e
      rcases blk' id p e with ⟨rfl, rfl⟩ | ⟨_, e0⟩
      · exact ⟨hw.base, by show w.heap.size < _; omega, limn, by simp⟩
      · obtain ⟨a, b, c, d⟩ := hw.blk id p e0
        exact ⟨a, by omega, c, by simp; omega⟩
    · intro id t e
      obtain ⟨a, b, c, d⟩ := hw.tip id t e
      exact ⟨a, by omega, c, by simp; omega⟩
    · intro b m e
      obtain ⟨x, y⟩ := hw.lim b m e
      exact ⟨x, by omega⟩
    · intro i j p q ei ej hpq ai aj
      rcases blk' i p ei with ⟨rfl, rfl⟩ | ⟨hi, e0⟩ <;> rcases blk' j q ej with ⟨rfl, rfl⟩ | ⟨hj, f0⟩
      · rfl
      · have := (hw.blk j q f0).2.1; simp only at hpq; omega
      · have := (hw.blk i p e0).2.1; simp only at hpq; omega
      · have li := (hw.blk i p e0).2.2.2
        have lj := (hw.blk j q f0).2.2.2
        exact hw.inj i j p q e0 f0 hpq ((alive_append li).1 ai) ((alive_append lj).1 aj)
    · exact hw.tinj
    · intro i t e
      rw [List.getElem?_append_left (hw.tip i t e).2.2.2]
      exact hw.tipo i t e
  refine ⟨⟨wf', ?_⟩, ?_⟩
  · intro id x e
    rcases Nat.lt_trichotomy id h.length with hlt | heq | hgt
    · rw [List.getElem?_append_left hlt] at e
      refine (hr.obj id x e).mono hle (fun _ p ep => ?_) (fun _ t et => ?_)
      · rcases blk' id p ep with ⟨rfl, _⟩ | ⟨_, e0⟩
        · omega
        · exact ⟨e0, push_get hh (hw.blk id p e0).2.1⟩
      · exact ⟨et, push_get hh (hw.tip id t et).2.1⟩
    · subst heq
      rw [List.getElem?_append_right (Nat.le_refl _)] at e
      simp at e
      subst e
      exact ho hle
    · rw [List.getElem?_eq_none (by simp; omega)] at e
      cases e
  · exact {
      le := hle, os := sm.os, tape := sm.tape, output := sm.output, size := by omega, len := by simp
      frame := fun b hb _ => push_get hh hb
      fresh := by
        rintro b hb (⟨id, p, e, rfl⟩ | ⟨id, t, e, rfl⟩)
        · rcases blk' id p e with ⟨rfl, rfl⟩ | ⟨_, e0⟩
          · simp only at hb; omega
          · exact .inl ⟨id, p, e0, rfl⟩
        · exact .inr ⟨id, t, e, rfl⟩
      limk := fun _ _ _ => rfl
      nores := fun x hx ha => (alive_append hx).1 ha
      oldb := by
        intro x p hx e
        rcases blk' x p e with ⟨rfl, _⟩ | ⟨_, e0⟩
        · omega
        · exact e0
      oldt := fun x t hx e => ⟨t, e, .inl rfl⟩
      newb := by
        intro x p hx e
        rcases blk' x p e with ⟨rfl, rfl⟩ | ⟨_, e0⟩
        · exact .inl (Nat.le_refl _)
        · exact absurd (hw.blk x p e0).2.2.2 (by omega)
      newt := fun x t hx e => absurd (hw.tip x t e).2.2.2 (by omega) }
/-- A new block that nobody writes. -/
theorem push_lim {ob : Obj} {n : Nat} (hr : Rel B G h w) (sm : Sm w w') (hh : w'.heap = w.heap.push ob) :
    Rel B (G.addLim w.heap.size n) h w' ∧ Evo B G h w (G.addLim w.heap.size n) h w' := by
  have hw := hr.wf
  have hsz := push_size hh
  have liml : ∀ b, b < w.heap.size → (G.addLim w.heap.size n).lim b = G.lim b := fun b hb => by simp only [Gh.addLim]; rw [if_neg (by omega)]
  have hle : Le B G w (G.addLim w.heap.size n) w' := le_push hw hh (fun _ _ e => e) (fun _ _ e => e) liml
  have wf' : Wf B (G.addLim w.heap.size n) h w' := by
    refine ⟨by have := hw.base; omega, ?_, ?_, ?_, hw.inj, hw.tinj, hw.tipo⟩
    · intro id p e
      obtain ⟨a, b, c, d⟩ := hw.blk id p e
      exact ⟨a, by omega, (liml _ b).trans c, d⟩
    · intro id t e
      obtain ⟨a, b, c, d⟩ := hw.tip id t e
      exact ⟨a, by omega, (liml _ b).trans c, d⟩
    · intro b m e
      simp only [Gh.addLim] at e
      by_cases hb : b = w.heap.size
      · subst hb; exact ⟨hw.base, by omega⟩
      · rw [if_neg hb] at e
        obtain ⟨x, y⟩ := hw.lim b m e
        exact ⟨x, by omega⟩
  refine ⟨⟨wf', fun id x e => (hr.obj id x e).mono hle (fun _ p ep => ⟨ep, push_get hh (hw.blk id p ep).2.1⟩) (fun _ t et => ⟨et, push_get hh (hw.tip id t et).2.1⟩)⟩, ?_⟩
  exact {
      le := hle, os := sm.os, tape := sm.tape, output := sm.output, size := by omega, len := Nat.le_refl _
      frame := fun b hb _ => push_get hh hb
      fresh := fun b hb m => m
      limk := fun b hb _ => liml b hb
      nores := fun x hx ha => ha
      oldb := fun x p hx e => e
      oldt := fun x t hx e => ⟨t, e, .inl rfl⟩
      newb := fun x p hx e => absurd (hw.blk x p e).2.2.2 (by omega)
      newt := fun x t hx e => absurd (hw.tip x t e).2.2.2 (by omega) }
/-- A new row that may grow, behind a new number. -/
theorem push_tip {ob : Obj} {n cap sz : Nat} (hr : Rel B G h w) (sm : Sm w w') (hh : w'.heap = w.heap.push ob)
    (ho : ∃ arr T fz, ob = .cells arr T fz ∧ cap * sz ≤ arr.size ∧ (∀ o, o < arr.size → ¬ (fz.1 ≤ o ∧ o < fz.2))) :
    Rel B (G.addTip h.length ⟨n, w.heap.size, 0, cap, sz⟩) (h ++ [.tip n]) w' ∧ Evo B G h w (G.addTip h.length ⟨n, w.heap.size, 0, cap, sz⟩) (h ++ [.tip n]) w' := by
  have hw := hr.wf
  have hnewt : G.tip h.length = none := by
    cases e : G.tip h.length with
    | none => rfl
    | some p => exact absurd (hw.tip _ _ e).2.2.2 (by omega)
  have hsz := push_size hh
  have liml : ∀ b, b < w.heap.size → (G.addTip h.length ⟨n, w.heap.size, 0, cap, sz⟩).lim b = G.lim b := fun b hb => by simp only [Gh.addTip]; rw [if_neg (by omega)]
  have hle : Le B G w (G.addTip h.length ⟨n, w.heap.size, 0, cap, sz⟩) w' := le_push hw hh
    (fun id p e => e) (fun id t e => by simp only [Gh.addTip]; rw [if_neg (by rintro rfl; rw [hnewt] at e; cases e)]; exact e) liml
  have tip' : ∀ id t, (G.addTip h.length ⟨n, w.heap.size, 0, cap, sz⟩).tip id = some t → (id = h.length ∧ t = ⟨n, w.heap.size, 0, cap, sz⟩) ∨ (id ≠ h.length ∧ G.tip id = some t) := by
    intro id t e
    simp only [Gh.addTip] at e
    by_cases hid : id = h.length
    · rw [if_pos hid] at e; exact .inl ⟨hid, (Option.some.inj e).symm⟩
    · rw [if_neg hid] at e; exact .inr ⟨hid, e⟩
  have wf' : Wf B (G.addTip h.length ⟨n, w.heap.size, 0, cap, sz⟩) (h ++ [.tip n]) w' := by
    refine ⟨by have := hw.base; omega, ?_, ?_, ?_, ?_, ?_, ?_⟩
    · intro id p e
      obtain ⟨a, b, c, d⟩ := hw.blk id p e
      exact ⟨a, by omega, (liml _ b).trans c, by simp; omega⟩
    · intro id t e
      rcases tip' id t e with ⟨rfl, rfl⟩ | ⟨_, e0⟩
      · exact ⟨hw.base, by show w.heap.size < _; omega, by simp [Gh.addTip], by simp⟩
      · obtain ⟨a, b, c, d⟩ := hw.tip id t e0
        exact ⟨a, by omega, (liml _ b).trans c, by simp; omega⟩
    · intro b m e
      simp only [Gh.addTip] at e
      by_cases hb : b = w.heap.size
      · subst hb; exact ⟨hw.base, by omega⟩
      · rw [if_neg hb] at e
        obtain ⟨x, y⟩ := hw.lim b m e
        exact ⟨x, by omega⟩
    · intro i j p q ei ej hpq ai aj
      have li := (hw.blk i p ei).2.2.2
      have lj := (hw.blk j q ej).2.2.2
      exact hw.inj i j p q ei ej hpq ((alive_append li).1 ai) ((alive_append lj).1 aj)
    · intro i j t u ei ej htu
      rcases tip' i t ei with ⟨rfl, rfl⟩ | ⟨hi, e0⟩ <;> rcases tip' j u ej with ⟨rfl, rfl⟩ | ⟨hj, f0⟩
      · rfl
      · have := (hw.tip j u f0).2.1; simp only at htu; omega
      · have := (hw.tip i t e0).2.1; simp only at htu; omega
      · exact hw.tinj i j t u e0 f0 htu
    · intro i t e
      rcases tip' i t e with ⟨rfl, rfl⟩ | ⟨_, e0⟩
      · simp
      · rw [List.getElem?_append_left (hw.tip i t e0).2.2.2]
        exact hw.tipo i t e0
  refine ⟨⟨wf', ?_⟩, ?_⟩
  · intro id x e
    rcases Nat.lt_trichotomy id h.length with hlt | heq | hgt
    · rw [List.getElem?_append_left hlt] at e
      refine (hr.obj id x e).mono hle (fun _ p ep => ⟨ep, push_get hh (hw.blk id p ep).2.1⟩) (fun _ t et => ?_)
      rcases tip' id t et with ⟨rfl, _⟩ | ⟨_, e0⟩
      · omega
      · exact ⟨e0, push_get hh (hw.tip id t e0).2.1⟩
    · subst heq
      rw [List.getElem?_append_right (Nat.le_refl _)] at e
      simp at e
      subst e
      intro t et
      rcases tip' _ t et with ⟨_, rfl⟩ | ⟨hne, _⟩
      · obtain ⟨arr, T, fz, rfl, h1, h2⟩ := ho
        exact ⟨rfl, arr, T, fz, push_new hh, by simpa using h1, h2⟩
      · exact absurd rfl hne
    · rw [List.getElem?_eq_none (by simp; omega)] at e
      cases e
  · exact {
      le := hle, os := sm.os, tape := sm.tape, output := sm.output, size := by omega, len := by simp
      frame := fun b hb _ => push_get hh hb
      fresh := by
        rintro b hb (⟨id, p, e, rfl⟩ | ⟨id, t, e, rfl⟩)
        · exact .inl ⟨id, p, e, rfl⟩
        · rcases tip' id t e with ⟨rfl, rfl⟩ | ⟨_, e0⟩
          · simp only at hb; omega
          · exact .inr ⟨id, t, e0, rfl⟩
      limk := fun b hb _ => liml b hb
      nores := fun x hx ha => (alive_append hx).1 ha
      oldb := fun x p hx e => e
      oldt := by
        intro x t hx e
        rcases tip' x t e with ⟨rfl, _⟩ | ⟨_, e0⟩
        · omega
        · exact ⟨t, e0, .inl rfl⟩
      newb := fun x p hx e => absurd (hw.blk x p e).2.2.2 (by omega)
      newt := by
        intro x t hx e
        rcases tip' x t e with ⟨rfl, rfl⟩ | ⟨_, e0⟩
        · exact Nat.le_refl _
        · exact absurd (hw.tip x t e0).2.2.2 (by omega) }
theorem alive_of {i : Nat} {o : O} (e : h[i]? = some o) (k : (∃ cs, o = .box cs) ∨ (∃ es, o = .map es)) : alive h i := by
  rcases k with ⟨cs, rfl⟩ | ⟨es, rfl⟩
  · exact .inl ⟨cs, e⟩
  · exact .inr ⟨es, e⟩
theorem get_set {i id : Nat} {o x : O} (e : (h.set id o)[i]? = some x) : (i = id ∧ x = o) ∨ (i ≠ id ∧ h[i]? = some x) := by
  rw [List.getElem?_set] at e
  by_cases hi : id = i
  · rw [if_pos hi] at e
    split at e
    · exact .inl ⟨hi.symm, (Option.some.inj e).symm⟩
    · cases e
  · rw [if_neg hi] at e
    exact .inr ⟨fun h => hi h.symm, e⟩
theorem alive_set {i id : Nat} {o : O} (ha : alive (h.set id o) i) (hid : alive h id) : alive h i := by
  rcases ha with ⟨cs, e⟩ | ⟨cs, e⟩ <;> rcases get_set e with ⟨rfl, _⟩ | ⟨_, e0⟩
  · exact hid
  · exact .inl ⟨cs, e0⟩
  · exact hid
  · exact .inr ⟨cs, e0⟩
theorem not_stable_blk (hw : Wf B G h w) {id b n : Nat} (hg : G.blk id = some (b, n)) {o : Nat} : ¬ Stable B G b o := by
  obtain ⟨h1, _, h3, _⟩ := hw.blk id _ hg
  rintro (hs | ⟨m, hm, _⟩)
  · simp only at h1; omega
  · simp only at h3; rw [h3] at hm; cases hm
theorem tip_not_alive (hw : Wf B G h w) {i : Nat} {t : Tip} (e : G.tip i = some t) : ¬ alive h i := by
  have := hw.tipo i t e
  rintro (⟨cs, h1⟩ | ⟨cs, h1⟩) <;> (rw [this] at h1; cases h1)
/-- A block of a box's is written. -/
theorem set_blk {id b n : Nat} {o : O} (hr : Rel B G h w) (sm : Sm w w') (hg : G.blk id = some (b, n)) (hal : alive h id) (hs : w'.heap.size = w.heap.size)
    (hoth : ∀ c, c ≠ b → w'.heap[c]? = w.heap[c]?) (ho : Le B G w G w' → ObjRel B G w' id o) :
    Rel B G (h.set id o) w' ∧ Evo B G h w G (h.set id o) w' := by
  have hw := hr.wf
  have hle : Le B G w G w' := ⟨fun _ _ e => e, fun id t e => ⟨t, e, Nat.le_refl _, fun _ => rfl⟩, fun c k hsn => ⟨hsn, at?_of_block (hoth c (by
    rintro rfl; exact not_stable_blk hw hg hsn))⟩⟩
  have wf' : Wf B G (h.set id o) w' := by
    refine ⟨by have := hw.base; omega, ?_, ?_, ?_, ?_, hw.tinj, ?_⟩
    · intro i p e
      obtain ⟨a, b, c, d⟩ := hw.blk i p e
      exact ⟨a, by omega, c, by simpa using d⟩
    · intro i t e
      obtain ⟨a, b, c, d⟩ := hw.tip i t e
      exact ⟨a, by omega, c, by simpa using d⟩
    · intro b m e
      obtain ⟨x, y⟩ := hw.lim b m e
      exact ⟨x, by omega⟩
    · intro i j p q ei ej hpq ai aj
      exact hw.inj i j p q ei ej hpq (alive_set ai hal) (alive_set aj hal)
    · intro i t e
      rw [List.getElem?_set, if_neg (by rintro rfl; exact tip_not_alive hw e hal)]
      exact hw.tipo i t e
  refine ⟨⟨wf', ?_⟩, ?_⟩
  · intro i x e
    rcases get_set e with ⟨rfl, rfl⟩ | ⟨hne, e0⟩
    · exact ho hle
    · refine (hr.obj i x e0).mono hle (fun k p ep => ⟨ep, hoth _ fun hpb => hne ?_⟩) (fun _ t et => ⟨et, hoth _ fun hpb => ?_⟩)
      · exact hw.inj i id p _ ep hg hpb (alive_of e0 k) hal
      · have h1 := (hw.tip i t et).2.2.1
        have h2 := (hw.blk id _ hg).2.2.1
        simp only at h2
        rw [hpb, h2] at h1
        cases h1
  · exact {
      le := hle, os := sm.os, tape := sm.tape, output := sm.output, size := by omega, len := by simp
      frame := fun c hc hm => hoth c (by rintro rfl; exact hm (.inl ⟨id, _, hg, rfl⟩))
      fresh := fun b hb m => m
      limk := fun b hb _ => rfl
      nores := fun x hx ha => alive_set ha hal
      oldb := fun x p hx e => e
      oldt := fun x t hx e => ⟨t, e, .inl rfl⟩
      newb := fun x p hx e => absurd (hw.blk x p e).2.2.2 (by omega)
      newt := fun x t hx e => absurd (hw.tip x t e).2.2.2 (by omega) }
/-- The row of a tip grows in its place. -/
theorem grow_in {id n : Nat} {t : Tip} (hr : Rel B G h w) (sm : Sm w w') (hg : G.tip id = some t) (hn : t.n ≤ n) (hs : w'.heap.size = w.heap.size)
    (hoth : ∀ c, c ≠ t.blk → w'.heap[c]? = w.heap[c]?) (hat : ∀ o, o < t.off + t.n → at? w' t.blk o = at? w t.blk o)
    (hrow : ∃ arr T fz, w'.heap[t.blk]? = some (.cells arr T fz) ∧ t.off + t.cap * t.sz ≤ arr.size ∧ (∀ o, o < arr.size → ¬ (fz.1 ≤ o ∧ o < fz.2))) (hid : ∃ m, h[id]? = some (.tip m)) :
    Rel B (G.addTip id { t with n := n }) (h.set id (.tip n)) w' ∧ Evo B G h w (G.addTip id { t with n := n }) (h.set id (.tip n)) w' := by
  have hw := hr.wf
  obtain ⟨hB, hlt, hlim, hidl⟩ := hw.tip id t hg
  have tip' : ∀ i u, (G.addTip id { t with n := n }).tip i = some u → (i = id ∧ u = { t with n := n }) ∨ (i ≠ id ∧ G.tip i = some u) := by
    intro i u e
    simp only [Gh.addTip] at e
    by_cases hi : i = id
    · rw [if_pos hi] at e; exact .inl ⟨hi, (Option.some.inj e).symm⟩
    · rw [if_neg hi] at e; exact .inr ⟨hi, e⟩
  have limo : ∀ c, c ≠ t.blk → (G.addTip id { t with n := n }).lim c = G.lim c := fun c hc => by simp only [Gh.addTip]; rw [if_neg hc]
  have limt : (G.addTip id { t with n := n }).lim t.blk = some (t.off + n) := by simp [Gh.addTip]
  have hle : Le B G w (G.addTip id { t with n := n }) w' := by
    refine ⟨fun _ _ e => e, fun i u e => ?_, fun c k hsn => ?_⟩
    · by_cases hi : i = id
      · subst hi
        have : u = t := Option.some.inj (e.symm.trans hg)
        subst this
        exact ⟨{ u with n := n }, by simp [Gh.addTip], hn, fun he => by simp only at he; cases u; simp_all⟩
      · exact ⟨u, by simp only [Gh.addTip]; rw [if_neg hi]; exact e, Nat.le_refl _, fun _ => rfl⟩
    · by_cases hc : c = t.blk
      · subst hc
        rcases hsn with hsn | ⟨m, hm, hk⟩
        · omega
        · rw [hlim] at hm
          have := Option.some.inj hm
          exact ⟨.inr ⟨_, limt, by omega⟩, hat k (by omega)⟩
      · refine ⟨?_, at?_of_block (hoth c hc)⟩
        rcases hsn with hsn | ⟨m, hm, hk⟩
        · exact .inl hsn
        · exact .inr ⟨m, (limo c hc).trans hm, hk⟩
  have blkne : ∀ i p, G.blk i = some p → p.1 ≠ t.blk := fun i p e hp => by
    have h2 := (hw.blk i p e).2.2.1
    rw [hp, hlim] at h2
    cases h2
  have al : ∀ i, alive (h.set id (.tip n)) i → alive h i := by
    intro i ha
    rcases ha with ⟨cs, e⟩ | ⟨cs, e⟩ <;> rcases get_set e with ⟨_, hx⟩ | ⟨_, e0⟩
    · cases hx
    · exact .inl ⟨cs, e0⟩
    · cases hx
    · exact .inr ⟨cs, e0⟩
  have wf' : Wf B (G.addTip id { t with n := n }) (h.set id (.tip n)) w' := by
    refine ⟨by have := hw.base; omega, ?_, ?_, ?_, ?_, ?_, ?_⟩
    · intro i p e
      obtain ⟨a, b, c, d⟩ := hw.blk i p e
      exact ⟨a, by omega, (limo _ (blkne i p e)).trans c, by simpa using d⟩
    · intro i u e
      rcases tip' i u e with ⟨rfl, rfl⟩ | ⟨hi, e0⟩
      · exact ⟨hB, by show t.blk < _; omega, limt, by simpa using hidl⟩
      · obtain ⟨a, b, c, d⟩ := hw.tip i u e0
        exact ⟨a, by omega, (limo _ fun hh => hi (hw.tinj i id u t e0 hg hh)).trans c, by simpa using d⟩
    · intro c m e
      by_cases hc : c = t.blk
      · subst hc; exact ⟨hB, by omega⟩
      · rw [limo c hc] at e
        obtain ⟨x, y⟩ := hw.lim c m e
        exact ⟨x, by omega⟩
    · intro i j p q ei ej hpq ai aj
      exact hw.inj i j p q ei ej hpq (al i ai) (al j aj)
    · intro i j u v ei ej huv
      rcases tip' i u ei with ⟨rfl, rfl⟩ | ⟨hi, e0⟩ <;> rcases tip' j v ej with ⟨rfl, rfl⟩ | ⟨hj, f0⟩
      · rfl
      · exact hw.tinj _ _ t v hg f0 huv
      · exact hw.tinj _ _ u t e0 hg huv
      · exact hw.tinj i j u v e0 f0 huv
    · intro i u e
      rcases tip' i u e with ⟨rfl, rfl⟩ | ⟨hi, e0⟩
      · rw [List.getElem?_set, if_pos rfl, if_pos hidl]
      · rw [List.getElem?_set, if_neg (fun hh => hi hh.symm)]
        exact hw.tipo i u e0
  refine ⟨⟨wf', ?_⟩, ?_⟩
  · intro i x e
    rcases get_set e with ⟨rfl, rfl⟩ | ⟨hne, e0⟩
    · intro u eu
      rcases tip' _ u eu with ⟨_, rfl⟩ | ⟨hi, _⟩
      · exact ⟨rfl, hrow⟩
      · exact absurd rfl hi
    · refine (hr.obj i x e0).mono hle (fun k p ep => ⟨ep, hoth _ (blkne i p ep)⟩) (fun _ u eu => ?_)
      rcases tip' i u eu with ⟨hi, _⟩ | ⟨_, f0⟩
      · exact absurd hi hne
      · exact ⟨f0, hoth _ fun hh => hne (hw.tinj i id u t f0 hg hh)⟩
  · exact {
      le := hle, os := sm.os, tape := sm.tape, output := sm.output, size := by omega, len := by simp
      frame := fun c hc hm => hoth c (by rintro rfl; exact hm (.inr ⟨id, t, hg, rfl⟩))
      fresh := by
        rintro c hc (⟨i, p, e, rfl⟩ | ⟨i, u, e, rfl⟩)
        · exact .inl ⟨i, p, e, rfl⟩
        · rcases tip' i u e with ⟨rfl, rfl⟩ | ⟨_, e0⟩
          · exact .inr ⟨_, t, hg, rfl⟩
          · exact .inr ⟨i, u, e0, rfl⟩
      limk := fun c hc hm => limo c (by rintro rfl; exact hm (.inr ⟨id, t, hg, rfl⟩))
      nores := fun x hx ha => al x ha
      oldb := fun x p hx e => e
      oldt := by
        intro x u hx e
        rcases tip' x u e with ⟨rfl, rfl⟩ | ⟨_, e0⟩
        · exact ⟨t, hg, .inl rfl⟩
        · exact ⟨u, e0, .inl rfl⟩
      newb := fun x p hx e => absurd (hw.blk x p e).2.2.2 (by omega)
      newt := by
        intro x u hx e
        rcases tip' x u e with ⟨rfl, rfl⟩ | ⟨_, e0⟩
        · omega
        · exact absurd (hw.tip x u e0).2.2.2 (by omega) }
/-- The row of a tip grows into a new block. -/
theorem grow_new {ob : Obj} {id n cap sz : Nat} {t : Tip} (hr : Rel B G h w) (sm : Sm w w') (hg : G.tip id = some t) (hn : t.n < n) (hh : w'.heap = w.heap.push ob)
    (ho : ∃ arr T fz, ob = .cells arr T fz ∧ cap * sz ≤ arr.size ∧ (∀ o, o < arr.size → ¬ (fz.1 ≤ o ∧ o < fz.2))) (hid : ∃ m, h[id]? = some (.tip m)) :
    Rel B (G.addTip id ⟨n, w.heap.size, 0, cap, sz⟩) (h.set id (.tip n)) w' ∧ Evo B G h w (G.addTip id ⟨n, w.heap.size, 0, cap, sz⟩) (h.set id (.tip n)) w' := by
  have hw := hr.wf
  have hsz := push_size hh
  obtain ⟨hB, hlt, hlim, hidl⟩ := hw.tip id t hg
  have tip' : ∀ i u, (G.addTip id ⟨n, w.heap.size, 0, cap, sz⟩).tip i = some u → (i = id ∧ u = ⟨n, w.heap.size, 0, cap, sz⟩) ∨ (i ≠ id ∧ G.tip i = some u) := by
    intro i u e
    simp only [Gh.addTip] at e
    by_cases hi : i = id
    · rw [if_pos hi] at e; exact .inl ⟨hi, (Option.some.inj e).symm⟩
    · rw [if_neg hi] at e; exact .inr ⟨hi, e⟩
  have limo : ∀ c, c < w.heap.size → (G.addTip id ⟨n, w.heap.size, 0, cap, sz⟩).lim c = G.lim c := fun c hc => by simp only [Gh.addTip]; rw [if_neg (by omega)]
  have limt : (G.addTip id ⟨n, w.heap.size, 0, cap, sz⟩).lim w.heap.size = some (0 + n) := by simp [Gh.addTip]
  have hle : Le B G w (G.addTip id ⟨n, w.heap.size, 0, cap, sz⟩) w' := by
    refine ⟨fun _ _ e => e, fun i u e => ?_, fun c k hsn => ?_⟩
    · by_cases hi : i = id
      · subst hi
        have : u = t := Option.some.inj (e.symm.trans hg)
        subst this
        exact ⟨⟨n, w.heap.size, 0, cap, sz⟩, by simp [Gh.addTip], Nat.le_of_lt hn, fun he => by simp only at he; omega⟩
      · exact ⟨u, by simp only [Gh.addTip]; rw [if_neg hi]; exact e, Nat.le_refl _, fun _ => rfl⟩
    · have hc := Stable.lt hw hsn
      refine ⟨?_, at?_of_block (push_get hh hc)⟩
      rcases hsn with hsn | ⟨m, hm, hk⟩
      · exact .inl hsn
      · exact .inr ⟨m, (limo c hc).trans hm, hk⟩
  have al : ∀ i, alive (h.set id (.tip n)) i → alive h i := by
    intro i ha
    rcases ha with ⟨cs, e⟩ | ⟨cs, e⟩ <;> rcases get_set e with ⟨_, hx⟩ | ⟨_, e0⟩
    · cases hx
    · exact .inl ⟨cs, e0⟩
    · cases hx
    · exact .inr ⟨cs, e0⟩
  have wf' : Wf B (G.addTip id ⟨n, w.heap.size, 0, cap, sz⟩) (h.set id (.tip n)) w' := by
    refine ⟨by have := hw.base; omega, ?_, ?_, ?_, ?_, ?_, ?_⟩
    · intro i p e
      obtain ⟨a, b, c, d⟩ := hw.blk i p e
      exact ⟨a, by omega, (limo _ b).trans c, by simpa using d⟩
    · intro i u e
      rcases tip' i u e with ⟨rfl, rfl⟩ | ⟨hi, e0⟩
      · exact ⟨hw.base, by show w.heap.size < _; omega, limt, by simpa using hidl⟩
      · obtain ⟨a, b, c, d⟩ := hw.tip i u e0
        exact ⟨a, by omega, (limo _ b).trans c, by simpa using d⟩
    · intro c m e
      simp only [Gh.addTip] at e
      by_cases hc : c = w.heap.size
      · subst hc; exact ⟨hw.base, by omega⟩
      · rw [if_neg hc] at e
        obtain ⟨x, y⟩ := hw.lim c m e
        exact ⟨x, by omega⟩
    · intro i j p q ei ej hpq ai aj
      exact hw.inj i j p q ei ej hpq (al i ai) (al j aj)
    · intro i j u v ei ej huv
      rcases tip' i u ei with ⟨rfl, rfl⟩ | ⟨hi, e0⟩ <;> rcases tip' j v ej with ⟨rfl, rfl⟩ | ⟨hj, f0⟩
      · rfl
      · have := (hw.tip j v f0).2.1; simp only at huv; omega
      · have := (hw.tip i u e0).2.1; simp only at huv; omega
      · exact hw.tinj i j u v e0 f0 huv
    · intro i u e
      rcases tip' i u e with ⟨rfl, rfl⟩ | ⟨hi, e0⟩
      · rw [List.getElem?_set, if_pos rfl, if_pos hidl]
      · rw [List.getElem?_set, if_neg (fun hh => hi hh.symm)]
        exact hw.tipo i u e0
  refine ⟨⟨wf', ?_⟩, ?_⟩
  · intro i x e
    rcases get_set e with ⟨rfl, rfl⟩ | ⟨hne, e0⟩
    · intro u eu
      rcases tip' _ u eu with ⟨_, rfl⟩ | ⟨hi, _⟩
      · obtain ⟨arr, T, fz, rfl, h1, h2⟩ := ho
        exact ⟨rfl, arr, T, fz, push_new hh, by simpa using h1, h2⟩
      · exact absurd rfl hi
    · refine (hr.obj i x e0).mono hle (fun k p ep => ⟨ep, push_get hh (hw.blk i p ep).2.1⟩) (fun _ u eu => ?_)
      rcases tip' i u eu with ⟨hi, _⟩ | ⟨_, f0⟩
      · exact absurd hi hne
      · exact ⟨f0, push_get hh (hw.tip i u f0).2.1⟩
  · exact {
      le := hle, os := sm.os, tape := sm.tape, output := sm.output, size := by omega, len := by simp
      frame := fun c hc hm => push_get hh hc
      fresh := by
        rintro c hc (⟨i, p, e, rfl⟩ | ⟨i, u, e, rfl⟩)
        · exact .inl ⟨i, p, e, rfl⟩
        · rcases tip' i u e with ⟨rfl, rfl⟩ | ⟨_, e0⟩
          · simp only at hc; omega
          · exact .inr ⟨i, u, e0, rfl⟩
      limk := fun c hc hm => limo c hc
      nores := fun x hx ha => al x ha
      oldb := fun x p hx e => e
      oldt := by
        intro x u hx e
        rcases tip' x u e with ⟨rfl, rfl⟩ | ⟨_, e0⟩
        · exact ⟨t, hg, .inr (Nat.le_refl _)⟩
        · exact ⟨u, e0, .inl rfl⟩
      newb := fun x p hx e => absurd (hw.blk x p e).2.2.2 (by omega)
      newt := by
        intro x u hx e
        rcases tip' x u e with ⟨rfl, rfl⟩ | ⟨_, e0⟩
        · exact Nat.le_refl _
        · exact absurd (hw.tip x u e0).2.2.2 (by omega) }
/-- A box's number goes over to a new one, of the same block, which is written. -/
theorem transfer {id b n : Nat} {o : O} (hr : Rel B G h w) (sm : Sm w w') (hg : G.blk id = some (b, n)) (hal : alive h id) (hs : w'.heap.size = w.heap.size)
    (hoth : ∀ c, c ≠ b → w'.heap[c]? = w.heap[c]?) (ho : Le B G w (G.addBlk h.length b n) w' → ObjRel B (G.addBlk h.length b n) w' h.length o) :
    Rel B (G.addBlk h.length b n) (h.set id .dead ++ [o]) w' ∧ Evo B G h w (G.addBlk h.length b n) (h.set id .dead ++ [o]) w' := by
  have hw := hr.wf
  have hidl := alive_lt hal
  obtain ⟨hB, hblt, hlimb, _⟩ := hw.blk id _ hg
  simp only at hB hblt hlimb
  have hnew : G.blk h.length = none := by
    cases e : G.blk h.length with
    | none => rfl
    | some p => exact absurd (hw.blk _ _ e).2.2.2 (by omega)
  have blk' : ∀ i p, (G.addBlk h.length b n).blk i = some p → (i = h.length ∧ p = (b, n)) ∨ (i ≠ h.length ∧ G.blk i = some p) := by
    intro i p e
    simp only [Gh.addBlk] at e
    by_cases hid : i = h.length
    · rw [if_pos hid] at e; exact .inl ⟨hid, (Option.some.inj e).symm⟩
    · rw [if_neg hid] at e; exact .inr ⟨hid, e⟩
  have hle : Le B G w (G.addBlk h.length b n) w' := by
    refine ⟨fun i p e => ?_, fun i t e => ⟨t, e, Nat.le_refl _, fun _ => rfl⟩, fun c k hsn => ⟨hsn, at?_of_block (hoth c (by rintro rfl; exact not_stable_blk hw hg hsn))⟩⟩
    simp only [Gh.addBlk]; rw [if_neg (by rintro rfl; rw [hnew] at e; cases e)]; exact e
  have al : ∀ i, i < h.length → alive (h.set id .dead ++ [o]) i → alive h i ∧ i ≠ id := by
    intro i hi ha
    have hi' : i < (h.set id .dead).length := by simpa using hi
    have ha' := (alive_append hi').1 ha
    rcases ha' with ⟨cs, e⟩ | ⟨cs, e⟩ <;> rcases get_set e with ⟨_, hx⟩ | ⟨hne, e0⟩
    · cases hx
    · exact ⟨.inl ⟨cs, e0⟩, hne⟩
    · cases hx
    · exact ⟨.inr ⟨cs, e0⟩, hne⟩
  have wf' : Wf B (G.addBlk h.length b n) (h.set id .dead ++ [o]) w' := by
    refine ⟨by have := hw.base; omega, ?_, ?_, ?_, ?_, hw.tinj, ?_⟩
    · intro i p e
      rcases blk' i p e with ⟨rfl, rfl⟩ | ⟨_, e0⟩
      · exact ⟨hB, by show b < _; omega, hlimb, by simp⟩
      · obtain ⟨a, b, c, d⟩ := hw.blk i p e0
        exact ⟨a, by omega, c, by simp; omega⟩
    · intro i t e
      obtain ⟨a, b, c, d⟩ := hw.tip i t e
      exact ⟨a, by omega, c, by simp; omega⟩
    · intro c m e
      obtain ⟨x, y⟩ := hw.lim c m e
      exact ⟨x, by omega⟩
    · intro i j p q ei ej hpq ai aj
      rcases blk' i p ei with ⟨rfl, rfl⟩ | ⟨hi, e0⟩ <;> rcases blk' j q ej with ⟨rfl, rfl⟩ | ⟨hj, f0⟩
      · rfl
      · obtain ⟨a1, a2⟩ := al j (hw.blk j q f0).2.2.2 aj
        exact absurd (hw.inj j id q _ f0 hg hpq.symm a1 hal) a2
      · obtain ⟨a1, a2⟩ := al i (hw.blk i p e0).2.2.2 ai
        exact absurd (hw.inj i id p _ e0 hg hpq a1 hal) a2
      · exact hw.inj i j p q e0 f0 hpq (al i (hw.blk i p e0).2.2.2 ai).1 (al j (hw.blk j q f0).2.2.2 aj).1
    · intro i t e
      rw [List.getElem?_append_left (by simpa using (hw.tip i t e).2.2.2), List.getElem?_set, if_neg (by rintro rfl; exact tip_not_alive hw e hal)]
      exact hw.tipo i t e
  refine ⟨⟨wf', ?_⟩, ?_⟩
  · intro i x e
    rcases Nat.lt_trichotomy i h.length with hlt | heq | hgt
    · rw [List.getElem?_append_left (by simpa using hlt)] at e
      rcases get_set e with ⟨rfl, rfl⟩ | ⟨hne, e0⟩
      · trivial
      · refine (hr.obj i x e0).mono hle (fun k p ep => ?_) (fun _ t et => ⟨et, hoth _ fun hpb => ?_⟩)
        · rcases blk' i p ep with ⟨rfl, _⟩ | ⟨_, f0⟩
          · omega
          · exact ⟨f0, hoth _ fun hpb => hne (hw.inj i id p _ f0 hg hpb (alive_of e0 k) hal)⟩
        · have h1 := (hw.tip i t et).2.2.1
          rw [hpb, hlimb] at h1
          cases h1
    · subst heq
      rw [List.getElem?_append_right (by simp)] at e
      simp at e
      subst e
      exact ho hle
    · rw [List.getElem?_eq_none (by simp; omega)] at e
      cases e
  · exact {
      le := hle, os := sm.os, tape := sm.tape, output := sm.output, size := by omega, len := by simp
      frame := fun c hc hm => hoth c (by rintro rfl; exact hm (.inl ⟨id, _, hg, rfl⟩))
      fresh := by
        rintro c hc (⟨i, p, e, rfl⟩ | ⟨i, t, e, rfl⟩)
        · rcases blk' i p e with ⟨rfl, rfl⟩ | ⟨_, e0⟩
          · exact .inl ⟨id, _, hg, rfl⟩
          · exact .inl ⟨i, p, e0, rfl⟩
        · exact .inr ⟨i, t, e, rfl⟩
      limk := fun c hc _ => rfl
      nores := fun x hx ha => (al x hx ha).1
      oldb := by
        intro x p hx e
        rcases blk' x p e with ⟨rfl, _⟩ | ⟨_, e0⟩
        · omega
        · exact e0
      oldt := fun x t hx e => ⟨t, e, .inl rfl⟩
      newb := by
        intro x p hx e
        rcases blk' x p e with ⟨rfl, rfl⟩ | ⟨_, e0⟩
        · exact .inr ⟨id, _, hidl, hg, rfl, hal, fun ha => (al id hidl ha).2 rfl⟩
        · exact absurd (hw.blk x p e0).2.2.2 (by omega)
      newt := fun x t hx e => absurd (hw.tip x t e).2.2.2 (by omega) }
/-- A world of the same heap. -/
theorem Rel.heap (hr : Rel B G h w) (sm : Sm w w') (hh : w'.heap = w.heap) : Rel B G h w' ∧ Evo B G h w G h w' := by
  have hw := hr.wf
  have hle : Le B G w G w' := ⟨fun _ _ e => e, fun _ t e => ⟨t, e, Nat.le_refl _, fun _ => rfl⟩, fun b o hs => ⟨hs, by simp only [at?, World.cell?, hh]⟩⟩
  refine ⟨⟨⟨by rw [hh]; exact hw.base, fun i p e => by rw [hh]; exact hw.blk i p e, fun i t e => by rw [hh]; exact hw.tip i t e, fun c m e => by rw [hh]; exact hw.lim c m e, hw.inj, hw.tinj, hw.tipo⟩,
    fun i x e => (hr.obj i x e).mono hle (fun _ p ep => ⟨ep, by rw [hh]⟩) (fun _ t et => ⟨et, by rw [hh]⟩)⟩, ?_⟩
  exact {
      le := hle, os := sm.os, tape := sm.tape, output := sm.output, size := by rw [hh]; exact Nat.le_refl _, len := Nat.le_refl _
      frame := fun b hb _ => by rw [hh]
      fresh := fun b hb m => m
      limk := fun b hb _ => rfl
      nores := fun x hx ha => ha
      oldb := fun x p hx e => e
      oldt := fun x t hx e => ⟨t, e, .inl rfl⟩
      newb := fun x p hx e => absurd (hw.blk x p e).2.2.2 (by omega)
      newt := fun x t hx e => absurd (hw.tip x t e).2.2.2 (by omega) }
end
end Go.Vm
end
section
namespace Go.Vm
set_option linter.unusedVariables false
set_option linter.unusedSimpArgs false
section
variable {P : Program} {B : Nat} {G : Gh} {h : Heap} {w : World}
def EnvRel (B : Nat) (G : Gh) (w : World) (n : Nat) (e : Env) (tmps : Array Value) : Prop :=
  tmps.size = n ∧ ∀ t, t < n → Rv B G w (e t) (tmps.getD t undef)
theorem rv_undef : Rv B G w (.tup []) undef := by
  have := Rv.tup (B := B) (G := G) (w := w) (cs := []) (vs := []) rfl (fun k x v hx => by simp at hx)
  simpa [undef] using this
theorem rvs_nil : Rvs B G w [] [] := ⟨rfl, fun k x v hx => by simp at hx⟩
theorem rvs_cons {x : V} {v : Value} {xs : List V} {vs : List Value} (h1 : Rv B G w x v) (h2 : Rvs B G w xs vs) : Rvs B G w (x :: xs) (v :: vs) :=
  ⟨by simp [h2.1], fun k y u hy hu => by
    cases k with
    | zero => simp at hy hu; subst hy; subst hu; exact h1
    | succ k => simp at hy hu; exact h2.2 k y u hy hu⟩
theorem rvs_append {xs ys : List V} {vs us : List Value} (h1 : Rvs B G w xs vs) (h2 : Rvs B G w ys us) : Rvs B G w (xs ++ ys) (vs ++ us) := by
  refine ⟨by simp [h1.1, h2.1], fun k x v hx hv => ?_⟩
  by_cases hk : k < xs.length
  · rw [List.getElem?_append_left hk] at hx
    rw [List.getElem?_append_left (by rw [h1.1]; exact hk)] at hv
    exact h1.2 k x v hx hv
  · rw [List.getElem?_append_right (by omega)] at hx
    rw [List.getElem?_append_right (by rw [h1.1]; omega), h1.1] at hv
    exact h2.2 _ x v hx hv
/-! ### Constants and operands -/
theorem ofScalar_rv {v : Value} {x : V} (hx : ofScalar v = some x) : Rv B G w x v ∧ oneC x := by
  unfold ofScalar at hx
  split at hx <;> first | (cases hx; done) | skip
  all_goals (injection hx with hx; subst hx)
  · exact ⟨.bool _, trivial⟩
  · exact ⟨.int _ _, trivial⟩
  · rename_i s
    refine ⟨?_, trivial⟩
    have := Rv.str (B := B) (G := G) (w := w) s.data.toList
    simpa using this
  · exact ⟨.nilp, trivial⟩
  · exact ⟨.nsl, trivial⟩
  · exact ⟨.nmap, trivial⟩
  · exact ⟨.nfn, trivial⟩
theorem ofScalars_rv : ∀ {vs : List Value} {xs : List V}, ofScalars vs = some xs → Rvs B G w xs vs ∧ ∀ c ∈ xs, oneC c
  | [], xs, hx => by
    simp [ofScalars] at hx; subst hx; exact ⟨rvs_nil, fun c hc => by simp at hc⟩
  | v :: r, xs, hx => by
    simp only [ofScalars] at hx
    split at hx
    · rename_i x ys e1 e2
      injection hx with hx
      subst hx
      obtain ⟨a, b⟩ := ofScalar_rv (B := B) (G := G) (w := w) e1
      obtain ⟨c, d⟩ := ofScalars_rv (vs := r) e2
      exact ⟨rvs_cons a c, fun z hz => by
        rcases List.mem_cons.1 hz with rfl | hz
        · exact b
        · exact d z hz⟩
    · cases hx
theorem ofConst_rv {v : Value} {x : V} (hx : ofConst v = some x) : Rv B G w x v := by
  unfold ofConst at hx
  split at hx
  · rename_i cs
    cases e : ofScalars cs.toList with
    | none => simp [e] at hx
    | some xs =>
      simp [e] at hx
      subst hx
      obtain ⟨a, b⟩ := ofScalars_rv (B := B) (G := G) (w := w) e
      have := Rv.agg a.1 b a.2
      simpa using this
  · rename_i vs
    split at hx
    · rename_i h0
      injection hx with hx
      subst hx
      have : vs = #[] := by simpa using h0
      subst this
      exact rv_undef
    · cases hx
  · exact (ofScalar_rv hx).1
theorem argC_rv {n : Nat} {e : Env} {a : Act} (he : EnvRel B G w n e a.tmps) {x : Operand} {g : Arg} (hx : argC n x = some g) : Rv B G w (g.get e) (a.eval x) := by
  cases x with
  | tmp t =>
    simp only [argC] at hx
    split at hx
    · rename_i ht
      injection hx with hx
      subst hx
      exact he.2 t ht
    · cases hx
  | const v =>
    simp only [argC] at hx
    cases ec : ofConst v with
    | none => simp [ec] at hx
    | some c =>
      simp [ec] at hx
      subst hx
      exact ofConst_rv ec
  | global g => simp [argC] at hx
  | func f =>
    simp [argC] at hx
    subst hx
    have := Rv.fn (B := B) (G := G) (w := w) (f := f) (caps := []) (vs := []) rfl (fun k x v hx => by simp at hx)
    simpa [Act.eval, Arg.get] using this
theorem argsC_rv {n : Nat} {e : Env} {a : Act} (he : EnvRel B G w n e a.tmps) : ∀ {xs : List Operand} {gs : List Arg}, argsC n xs = some gs →
    Rvs B G w (gs.map (·.get e)) (xs.map a.eval)
  | [], gs, hx => by simp [argsC] at hx; subst hx; exact rvs_nil
  | x :: r, gs, hx => by
    simp only [argsC] at hx
    split at hx
    · rename_i g hs e1 e2
      injection hx with hx
      subst hx
      exact rvs_cons (argC_rv he e1) (argsC_rv he e2)
    · cases hx
/-! ### Cells of values -/
theorem one_of_rv {x : V} {v : Value} (h : Rv B G w x v) (h1 : oneC x) : v.oneCell' = true := by
  cases h <;> first | rfl | exact h1.elim
theorem cells_rv {x : V} {v : Value} (h : Rv B G w x v) (hs : stor x = true) : Rvs B G w (cells x) v.cells.toList ∧ ∀ c ∈ cells x, oneC c := by
  have single : ∀ {x : V} {v : Value}, Rv B G w x v → oneC x → Rvs B G w [x] [v] ∧ ∀ c ∈ [x], oneC c := fun h h1 => ⟨rvs_cons h rvs_nil, fun c hc => by
    rcases List.mem_cons.1 hc with rfl | hc
    · exact h1
    · simp at hc⟩
  have hh := h
  cases h with
  | agg hl h1 hr => exact ⟨⟨by simp [cells, Value.cells, hl], by simpa [cells, Value.cells] using hr⟩, by simpa [cells] using h1⟩
  | tup hl hr => simp [stor] at hs
  | _ => exact single hh trivial
theorem mem_flat {es : List V} {e : V} (he : e ∈ es) : ∀ c ∈ cells e, c ∈ flat es := fun c hc => List.mem_flatMap.2 ⟨e, he, hc⟩
theorem flat_get : ∀ {es : List V} {sz m k : Nat} {el : V}, (∀ e ∈ es, (cells e).length = sz) → es[m]? = some el → k < (cells el).length → (flat es)[m * sz + k]? = (cells el)[k]?
  | [], sz, m, k, el, _, hel, _ => by simp at hel
  | x :: es, sz, m, k, el, hsz, hel, hk => by
    have hx : (cells x).length = sz := hsz x (by simp)
    cases m with
    | zero =>
      simp at hel
      subst hel
      simp only [flat, List.flatMap_cons, Nat.zero_mul, Nat.zero_add]
      rw [List.getElem?_append_left hk]
    | succ m =>
      simp at hel
      have ih := flat_get (es := es) (fun e he => hsz e (by simp [he])) hel hk
      simp only [flat, List.flatMap_cons]
      rw [List.getElem?_append_right (by rw [hx, Nat.succ_mul]; omega), hx, show (m + 1) * sz + k - sz = m * sz + k by rw [Nat.succ_mul]; omega]
      exact ih
theorem flat_length : ∀ {es : List V} {sz : Nat}, (∀ e ∈ es, (cells e).length = sz) → (flat es).length = es.length * sz
  | [], sz, _ => by simp [flat]
  | x :: es, sz, hsz => by
    have hx : (cells x).length = sz := hsz x (by simp)
    have ih := flat_length (es := es) (fun e he => hsz e (by simp [he]))
    simp only [flat, List.flatMap_cons, List.length_append, List.length_cons] at ih ⊢
    rw [hx, ih, Nat.succ_mul]; omega
theorem flat_append (xs ys : List V) : flat (xs ++ ys) = flat xs ++ flat ys := by simp [flat]
/-! ### Runs -/
theorem run_sizeT {t s : Nat} (h : sizeT P t = some s) (w : World) : (sizeOf t).run P w = .ok s w := by
  unfold sizeT at h
  cases e : P.info? t with
  | none => simp [e] at h
  | some i => simp [e] at h; subst h; simp [sizeOf, typeInfo, e]
theorem run_info {t : TypeId} {i : TypeInfo} (h : P.info? t = some i) (w : World) : (typeInfo t).run P w = .ok i w := by simp [typeInfo, h]
theorem run_aggT {t : TypeId} {g : Bool} (h : aggT P t = some g) (w : World) : (isAgg t).run P w = .ok g w := by
  unfold aggT at h
  cases e : P.underlying t with
  | none => simp [e] at h
  | some d =>
    cases d <;> simp [e] at h <;> subst h <;> simp [isAgg, run_underlying e]
theorem zeroT_run {t : TypeId} {zs : List V} (h : zeroT P t = some zs) (w : World) : ∃ z, (zeroValue t).run P w = .ok z w ∧ ∀ B G w', Rvs B G w' zs z.cells.toList ∧ ∀ c ∈ zs, oneC c := by
  unfold zeroT at h
  split at h
  · rename_i i ei
    split at h
    · rename_i z ez
      exact ⟨z, by simp [zeroValue, run_info ei, ez], fun B G w' => ofScalars_rv h⟩
    · cases h
  · cases h
theorem add_at (b o n : Nat) : Addr.add ⟨b, o, none⟩ n = ⟨b, o + n, none⟩ := Addr.add_lit b o n
theorem run_cells (P : Program) (w : World) (b o n : Nat) (vs : List Value) (hn : vs.length = n) (hc : ∀ k v, vs[k]? = some v → at? w b (o + k) = some v) :
    (loadCells ⟨b, o, none⟩ n).run P w = .ok vs.toArray w := by
  subst hn
  exact run_loadCells_list w _ vs fun j v hv => by rw [add_at]; exact hc j v hv
/-- A whole variable, of cells that are known. -/
theorem run_load {t : TypeId} {g : Bool} {s : Nat} (hg : aggT P t = some g) (hs : sizeT P t = some s) (w : World) (b o : Nat) (vs : List Value) (hn : vs.length = s)
    (h1 : g = false → s = 1) (hc : ∀ k v, vs[k]? = some v → at? w b (o + k) = some v) :
    ∃ v, (loadVar t ⟨b, o, none⟩).run P w = .ok v w ∧ (g = true → v = .agg vs.toArray) ∧ (g = false → vs = [v]) := by
  cases g with
  | true =>
    exact ⟨.agg vs.toArray, by simp [loadVar, run_aggT hg, run_sizeT hs, run_cells P w b o s vs hn hc], fun _ => rfl, (fun h => by cases h)⟩
  | false =>
    have h1' := h1 rfl
    subst h1'
    obtain ⟨v, rfl⟩ := List.length_eq_one_iff.1 hn
    refine ⟨v, ?_, (fun h => by cases h), fun _ => rfl⟩
    have h0 : w.cell? ⟨b, o, none⟩ = some v := by have := hc 0 v rfl; simpa [at?] using this
    simp [loadVar, run_aggT hg, h0]
end
end Go.Vm
end
section
namespace Go.Vm
set_option linter.unusedVariables false
set_option linter.unusedSimpArgs false
section
variable {P : Program} {B : Nat} {G : Gh} {h h' : Heap} {w : World} {n : Nat} {e : Env} {a : Act} {o : Oper} {v : V}
def Outc (P : Program) (B : Nat) (G : Gh) (h : Heap) (w : World) (o : Oper) (a : Act) (v : V) (h' : Heap) : Prop :=
  ∃ nx w' G' val, (execOp a.eval o).run P w = .ok nx w' ∧ (nx = .value val ∨ (nx = .skip ∧ val = undef)) ∧ Rv B G' w' v val ∧ Rel B G' h' w' ∧ Evo B G h w G' h' w'
theorem Outc.same (hr : Rel B G h w) {val : Value} (hx : (execOp a.eval o).run P w = .ok (.value val) w) (hv : Rv B G w v val) : Outc P B G h w o a v h :=
  ⟨_, w, G, val, hx, .inl rfl, hv, hr, .refl hr.wf⟩
theorem map_some {α β : Type} {f : α → β} {x : Option α} {y : β} (h : x.map f = some y) : ∃ z, x = some z ∧ f z = y := by
  cases x with
  | none => cases h
  | some z => exact ⟨z, rfl, Option.some.inj h⟩
/-! ### move, pick, nilCheck, makeFunc, extract -/
theorem o_move {x : Operand} {i : Ins} (hop : o.op = .move x ∨ o.op = .assign x) (hc : insC P n o = some i) (hs : stepI i e h = some (v, h')) (he : EnvRel B G w n e a.tmps) (hr : Rel B G h w) : Outc P B G h w o a v h' := by
  have hc' : (argC n x).map Ins.mv = some i := by rcases hop with hop | hop <;> simpa [insC, hop] using hc
  obtain ⟨g, hg, rfl⟩ := map_some hc'
  simp [stepI] at hs
  obtain ⟨rfl, rfl⟩ := hs
  refine Outc.same hr (val := a.eval x) ?_ (argC_rv he hg)
  rcases hop with hop | hop <;> simp [execOp, hop]
theorem o_pick {c x y : Operand} {i : Ins} (hop : o.op = .pick c x y) (hc : insC P n o = some i) (hs : stepI i e h = some (v, h')) (he : EnvRel B G w n e a.tmps) (hr : Rel B G h w) : Outc P B G h w o a v h' := by
  simp only [insC, hop] at hc
  split at hc
  · rename_i gc gx gy e1 e2 e3
    injection hc with hc; subst hc
    simp only [stepI] at hs
    split at hs
    · rename_i t et
      injection hs with hs
      injection hs with h1 h2; subst h1; subst h2
      have r1 := argC_rv he e1
      rw [et] at r1
      cases hb : a.eval c with
      | bool b =>
        rw [hb] at r1
        cases r1
        refine Outc.same hr (val := if t then a.eval x else a.eval y) ?_ ?_
        · cases t <;> simp [execOp, hop, hb, asBool]
        · cases t
          · exact argC_rv he e3
          · exact argC_rv he e2
      | _ => rw [hb] at r1; cases r1
    · cases hs
  · cases hc
theorem o_nilck {x : Operand} {i : Ins} (hop : o.op = .nilCheck x) (hc : insC P n o = some i) (hs : stepI i e h = some (v, h')) (he : EnvRel B G w n e a.tmps) (hr : Rel B G h w) : Outc P B G h w o a v h' := by
  simp only [insC, hop] at hc
  obtain ⟨g, hg, rfl⟩ := map_some hc
  have r := argC_rv he hg
  simp only [stepI] at hs
  split at hs
  all_goals (first | (cases hs; done) | skip)
  all_goals
    rename_i eg
    injection hs with hs
    injection hs with h1 h2; subst h1; subst h2
    rw [eg] at r
    refine Outc.same hr (val := a.eval x) ?_ r
    generalize hx : a.eval x = u at r ⊢
    cases r <;> simp [execOp, hop, hx]
theorem o_makeFunc {fn : Fn} {fs cs : Array Operand} {i : Ins} (hop : o.op = .makeFunc fn fs cs) (hc : insC P n o = some i) (hs : stepI i e h = some (v, h')) (he : EnvRel B G w n e a.tmps) (hr : Rel B G h w) : Outc P B G h w o a v h' := by
  cases fn with
  | func f =>
    simp only [insC, hop] at hc
    split at hc
    · rename_i h0
      obtain ⟨gs, hg, rfl⟩ := map_some hc
      simp [stepI] at hs
      obtain ⟨rfl, rfl⟩ := hs
      have r := argsC_rv he hg
      have hfs : fs = #[] := by simpa using h0
      subst hfs
      refine Outc.same hr (val := .func (.func f) #[] (cs.toList.map a.eval).toArray) ?_ (.fn r.1 r.2)
      simp [execOp, hop, Instr.makeFunc]
      cases cs; simp
    · cases hc
  | _ => simp [insC, hop] at hc
theorem o_extract {x : Operand} {k : Nat} {i : Ins} (hop : o.op = .extract x k) (hc : insC P n o = some i) (hs : stepI i e h = some (v, h')) (he : EnvRel B G w n e a.tmps) (hr : Rel B G h w) : Outc P B G h w o a v h' := by
  simp only [insC, hop] at hc
  obtain ⟨g, hg, rfl⟩ := map_some hc
  have r := argC_rv he hg
  simp only [stepI] at hs
  split at hs
  · rename_i vs eg
    obtain ⟨u, hu, h2⟩ := map_some hs
    injection h2 with h1 h2; subst h1; subst h2
    rw [eg] at r
    generalize hx : a.eval x = q at r
    cases r with
    | tup hl hrr =>
      rename_i us
      have hk : k < us.length := by rw [hl]; exact (List.getElem?_eq_some_iff.1 hu).1
      refine Outc.same hr (val := us[k]) ?_ (hrr k _ _ hu (List.getElem?_eq_getElem hk))
      simp [execOp, hop, Instr.extract, hx, hk]
  · cases hs
/-! ### Parts of structs and arrays -/
/-- A part of cells that are known, by value. -/
theorem part_run {t : TypeId} {g : Bool} {s off : Nat} (hg : aggT P t = some g) (hsz : sizeT P t = some s) {cs : List V} {vs : List Value} (hv : Rvs B G w cs vs) (h1 : ∀ c ∈ cs, oneC c)
    {x : V} (hp : part cs off s g = some x) : ∃ u, (Go.part t vs.toArray off).run P w = .ok u w ∧ Rv B G w x u := by
  unfold part at hp
  split at hp
  · rename_i hle
    cases g with
    | true =>
      simp at hp
      subst hp
      refine ⟨.agg ((vs.drop off).take s).toArray, ?_, .agg ?_ ?_ ?_⟩
      · simp [Go.part, run_aggT hg, run_sizeT hsz]
      · simp [hv.1]
      · intro c hc
        exact h1 c (List.mem_of_mem_drop (List.mem_of_mem_take hc))
      · intro k y u hy hu
        rw [List.getElem?_take] at hy hu
        split at hy <;> rename_i hk
        · rw [if_pos hk] at hu
          rw [List.getElem?_drop] at hy hu
          exact hv.2 _ _ _ hy hu
        · cases hy
    | false =>
      simp at hp
      obtain ⟨rfl, hx⟩ := hp
      have hk : off < vs.length := by rw [hv.1]; omega
      refine ⟨vs[off], ?_, hv.2 off x _ hx (List.getElem?_eq_getElem hk)⟩
      simp [Go.part, run_aggT hg, hk]
  · cases hp
theorem o_field {t : TypeId} {x : Operand} {k : Nat} {i : Ins} (hop : o.op = .field t x k) (hc : insC P n o = some i) (hs : stepI i e h = some (v, h')) (he : EnvRel B G w n e a.tmps) (hr : Rel B G h w) : Outc P B G h w o a v h' := by
  simp only [insC, hop] at hc
  split at hc <;> first | (cases hc; done) | skip
  rename_i fs hu
  split at hc <;> first | (cases hc; done) | skip
  rename_i fd hf
  split at hc <;> first | (cases hc; done) | skip
  rename_i g s gx e1 e2 e3
  injection hc with hc; subst hc
  have r := argC_rv he e3
  simp only [stepI] at hs
  split at hs
  · rename_i cs eg
    obtain ⟨u, hp, h2⟩ := map_some hs
    injection h2 with h1 h2; subst h1; subst h2
    rw [eg] at r
    generalize hx : a.eval x = q at r
    cases r with
    | agg hl h1 hrr =>
      obtain ⟨u', hu', hr'⟩ := part_run e1 e2 (w := w) ⟨hl, hrr⟩ h1 hp
      refine Outc.same hr (val := u') ?_ hr'
      simp [execOp, hop, Instr.field, run_underlying hu, hf, hx, asAgg, hu']
  · cases hs
theorem o_index {t : TypeId} {x j : Operand} {i : Ins} (hop : o.op = .index t x j) (hc : insC P n o = some i) (hs : stepI i e h = some (v, h')) (he : EnvRel B G w n e a.tmps) (hr : Rel B G h w) : Outc P B G h w o a v h' := by
  simp only [insC, hop] at hc
  split at hc <;> first | (cases hc; done) | skip
  rename_i gx gj e1 e2
  have r1 := argC_rv he e1
  have r2 := argC_rv he e2
  split at hc <;> first | (cases hc; done) | skip
  · rename_i hu
    injection hc with hc; subst hc
    simp only [stepI] at hs
    split at hs <;> first | (cases hs; done) | skip
    rename_i s kk m es ej
    split at hs
    · cases hs
    · rename_i hm
      obtain ⟨b, hb, h2⟩ := map_some hs
      injection h2 with h1 h2; subst h1; subst h2
      rw [es] at r1; rw [ej] at r2
      generalize hx : a.eval x = q at r1
      generalize hy : a.eval j = q2 at r2
      cases r1; cases r2
      have hk : m.toNat < s.length := (List.getElem?_eq_some_iff.1 hb).1
      refine Outc.same hr (val := .int .u8 b.toNat) ?_ (.int _ _)
      have hb' : (⟨s.toArray⟩ : ByteArray)[m.toNat]? = some b := by
        rw [getElem?_pos (⟨s.toArray⟩ : ByteArray) m.toNat (by simpa [ByteArray.size] using hk)]
        have := List.getElem?_eq_some_iff.1 hb
        obtain ⟨_, h3⟩ := this
        simp [ByteArray.getElem_eq_getElem_data, h3]
      simp [execOp, hop, Instr.index, run_underlying hu, hx, hy, asIntOf, show (0 : Int) ≤ m by omega, hb']
  · rename_i k et hu
    split at hc <;> first | (cases hc; done) | skip
    rename_i g s e3 e4
    injection hc with hc; subst hc
    simp only [stepI] at hs
    split at hs <;> first | (cases hs; done) | skip
    rename_i kk m ej
    split at hs <;> first | (cases hs; done) | skip
    rename_i hm
    split at hs <;> first | (cases hs; done) | skip
    rename_i cs ec
    obtain ⟨u, hp, h2⟩ := map_some hs
    injection h2 with h1 h2; subst h1; subst h2
    rw [ec] at r1; rw [ej] at r2
    generalize hx : a.eval x = q at r1
    generalize hy : a.eval j = q2 at r2
    cases r2
    cases r1 with
    | agg hl h1 hrr =>
      obtain ⟨u', hu', hr'⟩ := part_run e3 e4 (w := w) ⟨hl, hrr⟩ h1 hp
      refine Outc.same hr (val := u') ?_ hr'
      simp [execOp, hop, Instr.index, run_underlying hu, hx, hy, asIntOf, hm, run_sizeT e4, hu']
/-! ### Addresses -/
theorem o_fieldAddr {t : TypeId} {x : Operand} {k : Nat} {i : Ins} (hop : o.op = .fieldAddr t x k) (hc : insC P n o = some i) (hs : stepI i e h = some (v, h')) (he : EnvRel B G w n e a.tmps) (hr : Rel B G h w) : Outc P B G h w o a v h' := by
  simp only [insC, hop] at hc
  split at hc <;> first | (cases hc; done) | skip
  rename_i fs hu
  split at hc <;> first | (cases hc; done) | skip
  rename_i fd hf
  split at hc <;> first | (cases hc; done) | skip
  rename_i s gx e2 e3
  split at hc
  · cases hc
  rename_i hs0
  injection hc with hc; subst hc
  have r := argC_rv he e3
  simp only [stepI] at hs
  split at hs <;> first | (cases hs; done) | skip
  · rename_i id off eg
    injection hs with hs
    injection hs with h1 h2; subst h1; subst h2
    rw [eg] at r
    generalize hx : a.eval x = q at r
    cases r with
    | ptr hb =>
      refine Outc.same hr ?_ (.ptr hb)
      simp [execOp, hop, Instr.fieldAt, run_underlying hu, hf, hx, Instr.sureAddr, fieldPlace, run_sizeT e2, hs0, add_at]
  · rename_i cs eg
    injection hs with hs
    injection hs with h1 h2; subst h1; subst h2
    rw [eg] at r
    generalize hx : a.eval x = q at r
    cases r with
    | iptr vs hcc h1 hrr =>
      rename_i b off
      refine Outc.same hr (val := .pointer (some ⟨b, off + fd.offset, none⟩)) ?_ (.iptr (fun k => vs (k + fd.offset)) ?_ ?_ ?_)
      · simp [execOp, hop, Instr.fieldAt, run_underlying hu, hf, hx, Instr.sureAddr, fieldPlace, run_sizeT e2, hs0, add_at]
      · intro k hk
        have := hcc (k + fd.offset) (by simp at hk; omega)
        rwa [show off + (k + fd.offset) = off + fd.offset + k by omega] at this
      · exact fun c hc => h1 c (List.mem_of_mem_drop hc)
      · intro k y hy
        rw [List.getElem?_drop, Nat.add_comm] at hy
        exact hrr _ _ hy
theorem o_indexAddr {t : TypeId} {x j : Operand} {i : Ins} (hop : o.op = .indexAddr t x j) (hc : insC P n o = some i) (hs : stepI i e h = some (v, h')) (he : EnvRel B G w n e a.tmps) (hr : Rel B G h w) : Outc P B G h w o a v h' := by
  simp only [insC, hop] at hc
  split at hc <;> first | (cases hc; done) | skip
  rename_i gx gj e1 e2
  have r1 := argC_rv he e1
  have r2 := argC_rv he e2
  split at hc <;> first | (cases hc; done) | skip
  · rename_i et hu
    split at hc <;> first | (cases hc; done) | skip
    rename_i s e3
    split at hc <;> first | (cases hc; done) | skip
    rename_i hs0
    injection hc with hc; subst hc
    simp only [stepI] at hs
    split at hs <;> first | (cases hs; done) | skip
    rename_i kk m ej
    split at hs
    · cases hs
    rename_i hm
    rw [ej] at r2
    generalize hy : a.eval j = q2 at r2
    cases r2
    split at hs <;> first | (cases hs; done) | skip
    · rename_i s' own es ex
      split at hs <;> first | (cases hs; done) | skip
      rename_i hss
      subst hss
      obtain ⟨el, hel, h2⟩ := map_some hs
      injection h2 with h1 h2; subst h1; subst h2
      rw [ex] at r1
      generalize hx : a.eval x = q at r1
      cases r1 with
      | sl vs hsz hsp hcap hcc h1 hrr hfull htip =>
        rename_i ad cap
        have hk := (List.getElem?_eq_some_iff.1 hel).1
        have hmem : el ∈ es := List.mem_of_getElem? hel
        have hspot : ad.spot = none := hsp (by rintro rfl; simp at hk)
        have had : ad = ⟨ad.block, ad.off, none⟩ := by cases ad; simp_all
        have hfl : ∀ k, k < (cells el).length → (flat es)[m.toNat * s' + k]? = (cells el)[k]? := fun k hk' => flat_get hsz hel hk'
        refine Outc.same hr (val := .pointer (some ⟨ad.block, ad.off + m.toNat * s', none⟩)) ?_ (.iptr (fun k => vs (m.toNat * s' + k)) ?_ ?_ ?_)
        · have hm2 : m < (es.length : Int) := by omega
          simp [execOp, hop, Instr.indexAt, run_underlying hu, hx, hy, asIntOf, show (0 : Int) ≤ m by omega, hm2, run_sizeT e3]
          rw [had, add_at]
        · intro k hk'
          have h3 := hfl k hk'
          have h4 : m.toNat * s' + k < (flat es).length := (List.getElem?_eq_some_iff.1 (h3.trans (List.getElem?_eq_getElem hk'))).1
          have := hcc _ h4
          rwa [← Nat.add_assoc] at this
        · exact fun c hc => h1 c (mem_flat hmem c hc)
        · intro k y hy'
          have hk' := (List.getElem?_eq_some_iff.1 hy').1
          exact hrr _ _ ((hfl k hk').trans hy')
    · rename_i s' id len ex
      split at hs <;> first | (cases hs; done) | skip
      rename_i hss
      obtain ⟨rfl, hlen⟩ := hss
      injection hs with hs
      injection hs with h1 h2; subst h1; subst h2
      rw [ex] at r1
      generalize hx : a.eval x = q at r1
      cases r1 with
      | hsl hb hl hn =>
        refine Outc.same hr ?_ (.ptr (off := m.toNat * s') hb)
        have hm2 : m < (len : Int) := by omega
        simp [execOp, hop, Instr.indexAt, run_underlying hu, hx, hy, asIntOf, show (0 : Int) ≤ m by omega, hm2, run_sizeT e3, add_at]
  · rename_i k et hu
    split at hc <;> first | (cases hc; done) | skip
    rename_i s e3
    split at hc <;> first | (cases hc; done) | skip
    rename_i hs0
    injection hc with hc; subst hc
    simp only [stepI] at hs
    split at hs <;> first | (cases hs; done) | skip
    rename_i kk m ej
    split at hs <;> first | (cases hs; done) | skip
    rename_i hm
    rw [ej] at r2
    generalize hy : a.eval j = q2 at r2
    cases r2
    split at hs <;> first | (cases hs; done) | skip
    · rename_i id off ex
      injection hs with hs
      injection hs with h1 h2; subst h1; subst h2
      rw [ex] at r1
      generalize hx : a.eval x = q at r1
      cases r1 with
      | ptr hb =>
        refine Outc.same hr ?_ (.ptr (off := off + m.toNat * s) hb)
        simp [execOp, hop, Instr.indexAt, run_underlying hu, hx, hy, asIntOf, hm, run_sizeT e3, add_at, Instr.sureAddr]
    · rename_i cs ex
      injection hs with hs
      injection hs with h1 h2; subst h1; subst h2
      rw [ex] at r1
      generalize hx : a.eval x = q at r1
      cases r1 with
      | iptr vs hcc h1 hrr =>
        rename_i b off
        refine Outc.same hr (val := .pointer (some ⟨b, off + m.toNat * s, none⟩)) ?_ (.iptr (fun k => vs (k + m.toNat * s)) ?_ ?_ ?_)
        · simp [execOp, hop, Instr.indexAt, run_underlying hu, hx, hy, asIntOf, hm, run_sizeT e3, add_at, Instr.sureAddr]
        · intro k hk
          have := hcc (k + m.toNat * s) (by simp at hk; omega)
          rwa [show off + (k + m.toNat * s) = off + m.toNat * s + k by omega] at this
        · exact fun c hc => h1 c (List.mem_of_mem_drop hc)
        · intro k y hy
          rw [List.getElem?_drop, Nat.add_comm] at hy
          exact hrr _ _ hy
end
end Go.Vm
end
section
namespace Go.Vm
set_option linter.unusedVariables false
set_option linter.unusedSimpArgs false
section
variable {P : Program} {B : Nat} {G : Gh} {h h' : Heap} {w : World} {n : Nat} {e : Env} {a : Act} {o : Oper} {v : V}
theorem eqLeaves_length : ∀ {ks : List LK} {as bs : List V} {r : Bool}, eqLeaves ks as bs = some r → as.length = ks.length ∧ bs.length = ks.length
  | [], [], [], _, _ => ⟨rfl, rfl⟩
  | k :: ks, a :: as, b :: bs, r, h => by
    simp only [eqLeaves] at h
    cases e1 : eqLeaf k a b with
    | none => simp [e1] at h
    | some r1 =>
      cases e2 : eqLeaves ks as bs with
      | none => simp [e1, e2] at h
      | some r2 => have := eqLeaves_length e2; simp [this.1, this.2]
  | [], [], _ :: _, _, h => by simp [eqLeaves] at h
  | [], _ :: _, [], _, h => by simp [eqLeaves] at h
  | [], _ :: _, _ :: _, _, h => by simp [eqLeaves] at h
  | _ :: _, [], [], _, h => by simp [eqLeaves] at h
  | _ :: _, [], _ :: _, _, h => by simp [eqLeaves] at h
  | _ :: _, _ :: _, [], _, h => by simp [eqLeaves] at h
theorem eqLeaves_append : ∀ {ks ls : List LK} {as bs : List V} {r : Bool}, eqLeaves (ks ++ ls) as bs = some r →
    ∃ r1 r2, eqLeaves ks (as.take ks.length) (bs.take ks.length) = some r1 ∧ eqLeaves ls (as.drop ks.length) (bs.drop ks.length) = some r2 ∧ r = (r1 && r2)
  | [], ls, as, bs, r, h => ⟨true, r, by simp [eqLeaves], by simpa using h, by simp⟩
  | k :: ks, ls, as, bs, r, h => by
    cases as with
    | nil => simp [eqLeaves] at h
    | cons a as =>
      cases bs with
      | nil => simp [eqLeaves] at h
      | cons b bs =>
        simp only [List.cons_append, eqLeaves] at h
        cases e1 : eqLeaf k a b with
        | none => simp [e1] at h
        | some r1 =>
          cases e2 : eqLeaves (ks ++ ls) as bs with
          | none => simp [e1, e2] at h
          | some r2 =>
            simp [e1, e2] at h
            obtain ⟨s1, s2, h1, h2, h3⟩ := eqLeaves_append e2
            exact ⟨r1 && s1, s2, by simp [eqLeaves, e1, h1], by simpa using h2, by rw [← h, h3, Bool.and_assoc]⟩
theorem scalar_eq {t : TypeId} {k : LK} {D : Nat} {x y : V} {u z : Value} {r : Bool} (hk : (k = .b ∧ P.underlying t = some .bool) ∨ (k = .i ∧ ∃ kk, P.underlying t = some (.int kk)) ∨ (k = .s ∧ P.underlying t = some .string))
    (he : eqLeaf k x y = some r) (hx : Rv B G w x u) (hy : Rv B G w y z) : (Op.equalIn (D + 1) t u z).run P w = .ok r w := by
  rcases hk with ⟨rfl, hu⟩ | ⟨rfl, kk, hu⟩ | ⟨rfl, hu⟩
  · unfold eqLeaf at he
    split at he <;> first | (cases he; done) | skip
    all_goals (first | contradiction | skip)
    cases hx; cases hy
    simp at he
    subst he
    exact run_equalIn_bool w D t _ _ hu
  · unfold eqLeaf at he
    split at he <;> first | (cases he; done) | skip
    all_goals (first | contradiction | skip)
    split at he <;> first | (cases he; done) | skip
    rename_i hkk
    subst hkk
    cases hx; cases hy
    simp at he
    subst he
    rw [run_equalIn_int w D t _ kk _ _ hu]
    congr 1
  · unfold eqLeaf at he
    split at he <;> first | (cases he; done) | skip
    all_goals (first | contradiction | skip)
    cases hx; cases hy
    simp at he
    subst he
    rw [run_equalIn_string w D t _ _ hu]
    simp [ByteArray.toList_eq]
/-- A part, by kinds. -/
def PartEq (P : Program) (d : Nat) (g : TypeId → Option (List LK)) : Prop :=
  ∀ t ks D B G w as bs vs us r, d ≤ D → g t = some ks → eqLeaves ks as bs = some r → Rvs B G w as vs → Rvs B G w bs us → (∀ c ∈ as, oneC c) → (∀ c ∈ bs, oneC c) →
    sizeT P t = some ks.length → ∀ (xs ys : Array Value) off, (xs.toList.drop off).take ks.length = vs → (ys.toList.drop off).take ks.length = us →
    ∃ x y, (Go.part t xs off).run P w = .ok x w ∧ (Go.part t ys off).run P w = .ok y w ∧ (Op.equalIn D t x y).run P w = .ok r w
theorem fields_eq {d : Nat} {g : TypeId → Option (List LK)} (hg : PartEq P d g) {D : Nat} (hD : d ≤ D) {xs ys : Array Value} : ∀ {fs : List Field} {acc : Nat} {ks : List LK} {as bs : List V} {r : Bool},
    plainFs P g acc fs = some ks → eqLeaves ks as bs = some r → Rvs B G w as (xs.toList.drop acc) → Rvs B G w bs (ys.toList.drop acc) → (∀ c ∈ as, oneC c) → (∀ c ∈ bs, oneC c) →
    (Op.eqFields D xs ys fs).run P w = .ok r w
  | [], acc, ks, as, bs, r, hp, he, _, _, _, _ => by
    simp [plainFs] at hp
    subst hp
    have := eqLeaves_length he
    have h1 : as = [] := by simpa using this.1
    have h2 : bs = [] := by simpa using this.2
    subst h1; subst h2
    simp [eqLeaves] at he
    subst he
    simp [Op.eqFields]
  | f :: fs, acc, ks, as, bs, r, hp, he, ha, hb, h1, h2 => by
    simp only [plainFs] at hp
    split at hp <;> first | (cases hp; done) | skip
    rename_i hf
    obtain ⟨hf1, rfl⟩ := hf
    split at hp <;> first | (cases hp; done) | skip
    rename_i k1 eg
    split at hp <;> first | (cases hp; done) | skip
    rename_i hsz
    obtain ⟨k2, e2, rfl⟩ := map_some hp
    obtain ⟨r1, r2, he1, he2, rfl⟩ := eqLeaves_append he
    have hl := eqLeaves_length he1
    have tk : ∀ {as : List V} {l : List Value} {m : Nat}, Rvs B G w as l → Rvs B G w (as.take m) (l.take m) := fun ha => ⟨by simp [ha.1], fun k x v hx hv => by
      rw [List.getElem?_take] at hx hv
      split at hx <;> rename_i hk
      · rw [if_pos hk] at hv
        exact ha.2 k x v hx hv
      · cases hx⟩
    have dr : ∀ {as : List V} {l : List Value} {m : Nat}, Rvs B G w as l → Rvs B G w (as.drop m) (l.drop m) := fun ha => ⟨by simp [ha.1], fun k x v hx hv => by
      rw [List.getElem?_drop] at hx hv
      exact ha.2 _ x v hx hv⟩
    obtain ⟨x, y, hx, hy, hxy⟩ := hg f.type k1 D B G w _ _ _ _ r1 hD eg he1 (tk ha) (tk hb) (fun c hc => h1 c (List.mem_of_mem_take hc)) (fun c hc => h2 c (List.mem_of_mem_take hc)) hsz xs ys f.offset rfl rfl
    have ih := fields_eq hg hD (xs := xs) (ys := ys) e2 he2 (by have := dr (m := k1.length) ha; rwa [List.drop_drop] at this) (by have := dr (m := k1.length) hb; rwa [List.drop_drop] at this)
      (fun c hc => h1 c (List.mem_of_mem_drop hc)) (fun c hc => h2 c (List.mem_of_mem_drop hc))
    simp only [Op.eqFields, if_pos hf1, Sem.run_bind, hx, hy, hxy, Result.andThen_ok]
    cases r1
    · simp
    · simpa using ih
theorem plain_part : ∀ d, PartEq P d (plainK P d)
  | 0 => by intro t ks D B G w as bs vs us r hD hg; simp [plainK] at hg
  | d + 1 => by
    intro t ks D B G w as bs vs us r hD hg he ha hb h1 h2 hsz xs ys off hxs hys
    obtain ⟨D, rfl⟩ : ∃ m, D = m + 1 := ⟨D - 1, by omega⟩
    simp only [plainK] at hg
    have hl := eqLeaves_length he
    have scal : ∀ k, ks = [k] → ((k = .b ∧ P.underlying t = some .bool) ∨ (k = .i ∧ ∃ kk, P.underlying t = some (.int kk)) ∨ (k = .s ∧ P.underlying t = some .string)) →
        ∃ x y, (Go.part t xs off).run P w = .ok x w ∧ (Go.part t ys off).run P w = .ok y w ∧ (Op.equalIn (D + 1) t x y).run P w = .ok r w := by
      intro k hk hu
      subst hk
      obtain ⟨x, rfl⟩ := List.length_eq_one_iff.1 (show as.length = 1 by simpa using hl.1)
      obtain ⟨y, rfl⟩ := List.length_eq_one_iff.1 (show bs.length = 1 by simpa using hl.2)
      obtain ⟨u, rfl⟩ := List.length_eq_one_iff.1 (show vs.length = 1 by simpa using ha.1)
      obtain ⟨z, rfl⟩ := List.length_eq_one_iff.1 (show us.length = 1 by simpa using hb.1)
      simp only [eqLeaves] at he
      cases e1 : eqLeaf k x y with
      | none => simp [e1] at he
      | some r1 =>
        simp [e1] at he
        subst he
        have get : ∀ {zs : Array Value} {v : Value}, (zs.toList.drop off).take [k].length = [v] → zs[off]? = some v := by
          intro zs v hz
          have h3 : ((zs.toList.drop off).take [k].length)[0]? = some v := by rw [hz]; rfl
          rw [List.getElem?_take, if_pos (by simp), List.getElem?_drop] at h3
          simpa using h3
        have hagg : aggT P t = some false := by
          rcases hu with ⟨_, hu⟩ | ⟨_, kk, hu⟩ | ⟨_, hu⟩ <;> simp [aggT, hu]
        refine ⟨u, z, ?_, ?_, scalar_eq hu e1 (ha.2 0 _ _ rfl rfl) (hb.2 0 _ _ rfl rfl)⟩
        · simp [Go.part, run_aggT hagg, get hxs]
        · simp [Go.part, run_aggT hagg, get hys]
    split at hg <;> first | (cases hg; done) | skip
    · rename_i hu; injection hg with hg; exact scal _ hg.symm (.inl ⟨rfl, hu⟩)
    · rename_i kk hu; injection hg with hg; exact scal _ hg.symm (.inr (.inl ⟨rfl, kk, hu⟩))
    · rename_i hu; injection hg with hg; exact scal _ hg.symm (.inr (.inr ⟨rfl, hu⟩))
    · rename_i fs hu
      split at hg <;> first | (cases hg; done) | skip
      rename_i hst
      have hst' : P.stoodInHeld t = false := by simpa using hst
      have hagg : aggT P t = some true := by simp [aggT, hu]
      refine ⟨.agg vs.toArray, .agg us.toArray, ?_, ?_, ?_⟩
      · simp [Go.part, run_aggT hagg, run_sizeT hsz]
        rw [← hxs]; apply Array.ext'; simp [List.take_drop]
      · simp [Go.part, run_aggT hagg, run_sizeT hsz]
        rw [← hys]; apply Array.ext'; simp [List.take_drop]
      · have hf : P.fieldsOf t = fs := by simp [Program.fieldsOf, hu]
        rw [run_equalIn_struct (P := P) w D t _ _ (by rw [hf]; exact hu) hst', hf]
        exact fields_eq (plain_part d) (by omega) hg he (by simpa using ha) (by simpa using hb) h1 h2
/-- '==' of two structs. -/
theorem eq_agg {t : TypeId} {ks : List LK} {x y : List V} {u z : Value} {r : Bool} (hk : plainK P 8 t = some ks) (hst : ∃ fs, P.underlying t = some (.struct fs)) (he : eqLeaves ks x y = some r)
    (hx : Rv B G w (.agg x) u) (hy : Rv B G w (.agg y) z) : (Op.equal t u z).run P w = .ok r w := by
  obtain ⟨fs, hu⟩ := hst
  cases hx with
  | agg hl h1 hr =>
    cases hy with
    | agg hl' h1' hr' =>
      have hk' := hk
      simp only [plainK, hu] at hk
      split at hk <;> first | (cases hk; done) | skip
      rename_i hst
      have hst' : P.stoodInHeld t = false := by simpa using hst
      have hf : P.fieldsOf t = fs := by simp [Program.fieldsOf, hu]
      unfold Op.equal Op.maxDepth
      rw [show (10000 : Nat) = 9999 + 1 from rfl, run_equalIn_struct (P := P) w 9999 t _ _ (by rw [hf]; exact hu) hst', hf]
      exact fields_eq (plain_part 7) (by omega) hk he (by simpa using ⟨hl, hr⟩) (by simpa using ⟨hl', hr'⟩) h1 h1'
end
end Go.Vm
end
section
namespace Go.Vm
set_option linter.unusedVariables false
set_option linter.unusedSimpArgs false
section
variable {P : Program} {B : Nat} {G : Gh} {h h' : Heap} {w : World} {n : Nat} {e : Env} {a : Act} {o : Oper} {v : V}
/-! ### Arithmetic -/
theorem binI_run {op : BinOp} {k : IntKind} {x y : Int} {t : TypeId} (hop : op ≠ .shl ∧ op ≠ .shr) (hb : binI op k x y = some v) :
    ∃ u, (binOp op t (.int k x) (.int k y)).run P w = .ok u w ∧ Rv B G w v u := by
  cases op <;> simp only [binI] at hb
  case quo =>
    split at hb <;> first | (cases hb; done) | skip
    rename_i h0
    injection hb with hb; subst hb
    exact ⟨_, by simp [binOp, Op.intDiv, h0], .int _ _⟩
  case rem =>
    split at hb <;> first | (cases hb; done) | skip
    rename_i h0
    injection hb with hb; subst hb
    exact ⟨_, by simp [binOp, Op.intDiv, h0], .int _ _⟩
  case shl => exact absurd rfl hop.1
  case shr => exact absurd rfl hop.2
  all_goals (injection hb with hb; subst hb)
  all_goals first
    | exact ⟨_, by simp [binOp, Op.intArith, Op.intBits, bitsI], .int _ _⟩
    | skip
  · exact ⟨.bool (x == y), by simp [binOp, Op.intCmp], by rw [show (x == y) = decide (x = y) from by rw [Bool.eq_iff_iff]; simp]; exact .bool _⟩
  · exact ⟨.bool (x != y), by simp [binOp, Op.intCmp], by rw [show (x != y) = !decide (x = y) from by rw [Bool.eq_iff_iff]; simp]; exact .bool _⟩
  all_goals exact ⟨_, by simp [binOp, Op.intCmp], .bool _⟩
theorem shI_run {op : BinOp} {k yk : IntKind} {x y : Int} {t : TypeId} (hop : op = .shl ∨ op = .shr) (hb : shI op k x y = some v) :
    ∃ u, (binOp op t (.int k x) (.int yk y)).run P w = .ok u w ∧ Rv B G w v u := by
  unfold shI at hb
  split at hb <;> first | (cases hb; done) | skip
  rename_i h0
  rcases hop with rfl | rfl
  · simp at hb; subst hb
    exact ⟨_, by simp [binOp, Op.shift, h0], .int _ _⟩
  · simp at hb; subst hb
    exact ⟨_, by simp [binOp, Op.shift, h0], .int _ _⟩
theorem bytes_toList (s : List UInt8) : (⟨s.toArray⟩ : ByteArray).toList = s := by simp [ByteArray.toList_eq]
theorem binS_run {op : BinOp} {x y : List UInt8} {t : TypeId} (hb : binS op x y = some v) :
    ∃ u, (binOp op t (.string ⟨x.toArray⟩) (.string ⟨y.toArray⟩)).run P w = .ok u w ∧ Rv B G w v u := by
  have hst : binOp op t (.string ⟨x.toArray⟩) (.string ⟨y.toArray⟩) = Op.stringOp op ⟨x.toArray⟩ ⟨y.toArray⟩ := by cases op <;> rfl
  rw [hst]
  cases op <;> simp only [binS] at hb <;> first | (cases hb; done) | skip
  case add =>
    split at hb <;> first | (cases hb; done) | skip
    rename_i hle
    injection hb with hb; subst hb
    refine ⟨.string (⟨x.toArray⟩ ++ ⟨y.toArray⟩), ?_, ?_⟩
    · have hn : ¬ ((((⟨x.toArray⟩ : ByteArray).size + (⟨y.toArray⟩ : ByteArray).size : Nat) : Int) > 9223372036854775807) := by
        simp [ByteArray.size]; omega
      simp only [Op.stringOp, IntKind.max_i64]
      rw [if_neg hn]; rfl
    · have : ((⟨x.toArray⟩ : ByteArray) ++ ⟨y.toArray⟩) = ⟨(x ++ y).toArray⟩ := by
        apply ByteArray.ext; simp
      rw [this]; exact .str _
  all_goals (injection hb with hb; subst hb)
  all_goals exact ⟨_, by simp [Op.stringOp, bytes_toList], .bool _⟩
/-- '==' by the model's own, one level deep. -/
theorem eql_of {D : Nat} (hD : D = 9999) {t : TypeId} {u z : Value} {b : Bool} (hb : ∀ op, (op = .eql ∨ op = .neq) → binOp op t u z = (do let r ← Op.equal t u z; pure (.bool (if op = .neq then !r else r))))
    (hq : (Op.equalIn (D + 1) t u z).run P w = .ok b w) : (binOp .eql t u z).run P w = .ok (.bool b) w ∧ (binOp .neq t u z).run P w = .ok (.bool (!b)) w := by
  have hq' : (Op.equal t u z).run P w = .ok b w := by subst hD; exact hq
  constructor
  · rw [hb .eql (.inl rfl)]; simp [hq']
  · rw [hb .neq (.inr rfl)]; simp [hq']
theorem eqs_slice {D : Nat} {t el : TypeId} (hu : P.underlying t = some (.slice el)) (p q : Option Addr) (l m c d : Nat) (h0 : p = none ∨ q = none) :
    (Op.equalIn (D + 1) t (.slice p l c) (.slice q m d)).run P w = .ok (p.isNone && q.isNone) w := by
  simp only [Op.equalIn, Sem.run_bind, run_underlying hu, Result.andThen_ok]
  rcases h0 with rfl | rfl
  · simp
  · cases p <;> simp
theorem eqs_map {D : Nat} {t k el : TypeId} (hu : P.underlying t = some (.map k el)) (p q : Option Nat) (h0 : p = none ∨ q = none) :
    (Op.equalIn (D + 1) t (.map p) (.map q)).run P w = .ok (p.isNone && q.isNone) w := by
  simp only [Op.equalIn, Sem.run_bind, run_underlying hu, Result.andThen_ok]
  rcases h0 with rfl | rfl
  · simp
  · cases p <;> simp
theorem eqs_ptr {D : Nat} {t el : TypeId} (hu : P.underlying t = some (.pointer el)) (p q : Option Addr) (h0 : p = none ∨ q = none) :
    (Op.equalIn (D + 1) t (.pointer p) (.pointer q)).run P w = .ok (p.isNone && q.isNone) w := by
  simp only [Op.equalIn, Sem.run_bind, run_underlying hu, Result.andThen_ok]
  rcases h0 with rfl | rfl
  · simp
  · cases p <;> simp
theorem eqs_fn {D : Nat} {t : TypeId} {ps rs : Array TypeId} {vr : Bool} (hu : P.underlying t = some (.func ps rs vr)) :
    (Op.equalIn (D + 1) t .nilFunc .nilFunc).run P w = .ok true w ∧ (∀ f x y, (Op.equalIn (D + 1) t .nilFunc (.func f x y)).run P w = .ok false w) ∧
    ∀ f x y, (Op.equalIn (D + 1) t (.func f x y) .nilFunc).run P w = .ok false w := by
  refine ⟨?_, fun f x y => ?_, fun f x y => ?_⟩ <;> (simp only [Op.equalIn, Sem.run_bind, run_underlying hu, Result.andThen_ok]; rfl)
theorem bo_slice {t : TypeId} {p q : Option Addr} {l m c d : Nat} (op : BinOp) (ho : op = .eql ∨ op = .neq) :
    binOp op t (.slice p l c) (.slice q m d) = (do let r ← Op.equal t (.slice p l c) (.slice q m d); pure (.bool (if op = .neq then !r else r))) := by
  rcases ho with rfl | rfl <;> rfl
theorem bo_map {t : TypeId} {p q : Option Nat} (op : BinOp) (ho : op = .eql ∨ op = .neq) :
    binOp op t (.map p) (.map q) = (do let r ← Op.equal t (.map p) (.map q); pure (.bool (if op = .neq then !r else r))) := by
  rcases ho with rfl | rfl <;> rfl
theorem bo_ptr {t : TypeId} {p q : Option Addr} (op : BinOp) (ho : op = .eql ∨ op = .neq) :
    binOp op t (.pointer p) (.pointer q) = (do let r ← Op.equal t (.pointer p) (.pointer q); pure (.bool (if op = .neq then !r else r))) := by
  rcases ho with rfl | rfl <;> cases p <;> cases q <;> rfl
theorem bo_nf {t : TypeId} {z : Value} (hz : z = .nilFunc ∨ ∃ f x y, z = .func f x y) (op : BinOp) (ho : op = .eql ∨ op = .neq) :
    binOp op t .nilFunc z = (do let r ← Op.equal t .nilFunc z; pure (.bool (if op = .neq then !r else r))) := by
  rcases hz with rfl | ⟨f, x, y, rfl⟩ <;> rcases ho with rfl | rfl <;> rfl
theorem bo_fn {t : TypeId} {f : Fn} {x y : Array Value} (op : BinOp) (ho : op = .eql ∨ op = .neq) :
    binOp op t (.func f x y) .nilFunc = (do let r ← Op.equal t (.func f x y) .nilFunc; pure (.bool (if op = .neq then !r else r))) := by
  rcases ho with rfl | rfl <;> rfl
theorem bo_bool {t : TypeId} {p q : Bool} (op : BinOp) (ho : op = .eql ∨ op = .neq) :
    binOp op t (.bool p) (.bool q) = (do let r ← Op.equal t (.bool p) (.bool q); pure (.bool (if op = .neq then !r else r))) := by
  rcases ho with rfl | rfl <;> rfl
theorem eq_nil_run {t : TypeId} {x y : V} {u z : Value} {b : Bool} (c : Nat) (hk : (c = 0 ∧ ∃ el, P.underlying t = some (.slice el)) ∨ (c = 1 ∧ ∃ k el, P.underlying t = some (.map k el)) ∨ (c = 2 ∧ ∃ ps rs vr, P.underlying t = some (.func ps rs vr)) ∨ (c = 3 ∧ ∃ el, P.underlying t = some (.pointer el)))
    (hb : eqNil c x y = some b) (r1 : Rv B G w x u) (r2 : Rv B G w y z) :
    (∀ op X Y, (eqGuard op t X Y u z).run P w = .ok () w) ∧ (binOp .eql t u z).run P w = .ok (.bool b) w ∧ (binOp .neq t u z).run P w = .ok (.bool (!b)) w := by
  rcases hk with ⟨rfl, el, hu⟩ | ⟨rfl, k, el, hu⟩ | ⟨rfl, ps, rs, vr, hu⟩ | ⟨rfl, el, hu⟩
  · unfold eqNil at hb
    split at hb <;> first | (cases hb; done) | skip
    all_goals (first | contradiction | skip)
    all_goals (injection hb with hb; subst hb; cases r1; cases r2)
    all_goals (refine ⟨fun op X Y => by rw [eqGuard_at_slice]; rfl, eql_of rfl bo_slice ?_⟩)
    all_goals first | exact eqs_slice hu none none _ _ _ _ (.inl rfl) | exact eqs_slice hu none (some _) _ _ _ _ (.inl rfl) | exact eqs_slice hu (some _) none _ _ _ _ (.inr rfl)
  · unfold eqNil at hb
    split at hb <;> first | (cases hb; done) | skip
    all_goals (first | contradiction | skip)
    all_goals (injection hb with hb; subst hb; cases r1; cases r2)
    all_goals (refine ⟨fun op X Y => by rw [eqGuard_at_map]; rfl, eql_of rfl bo_map ?_⟩)
    all_goals first | exact eqs_map hu none none (.inl rfl) | exact eqs_map hu none (some _) (.inl rfl) | exact eqs_map hu (some _) none (.inr rfl)
  · unfold eqNil at hb
    split at hb <;> first | (cases hb; done) | skip
    all_goals (first | contradiction | skip)
    all_goals (injection hb with hb; subst hb; cases r1; cases r2)
    · exact ⟨fun op X Y => by rw [eqGuard_at_nilFunc]; rfl, eql_of rfl (bo_nf (.inl rfl)) (eqs_fn hu).1⟩
    · exact ⟨fun op X Y => by rw [eqGuard_at_nilFunc]; rfl, eql_of rfl (bo_nf (.inr ⟨_, _, _, rfl⟩)) ((eqs_fn hu).2.1 _ _ _)⟩
    · exact ⟨fun op X Y => by rw [eqGuard_at_func]; rfl, eql_of rfl bo_fn ((eqs_fn hu).2.2 _ _ _)⟩
  · unfold eqNil at hb
    split at hb <;> first | (cases hb; done) | skip
    all_goals (first | contradiction | skip)
    all_goals (injection hb with hb; subst hb; cases r1; cases r2)
    all_goals (refine ⟨fun op X Y => by rw [eqGuard_at_pointer]; rfl, eql_of rfl bo_ptr ?_⟩)
    all_goals first | exact eqs_ptr hu none none (.inl rfl) | exact eqs_ptr hu none (some _) (.inl rfl) | exact eqs_ptr hu (some _) none (.inr rfl)
/-- '==' and '!=' of what is neither a number nor a text. -/
theorem eq_run {t : TypeId} {k : EqK} {x y : V} {u z : Value} {b : Bool} (hk : eqKind P t = some k) (hb : eqV k x y = some b) (r1 : Rv B G w x u) (r2 : Rv B G w y z) :
    (∀ op X Y, (eqGuard op t X Y u z).run P w = .ok () w) ∧ (binOp .eql t u z).run P w = .ok (.bool b) w ∧ (binOp .neq t u z).run P w = .ok (.bool (!b)) w := by
  unfold eqKind at hk
  split at hk <;> first | (cases hk; done) | skip
  · rename_i hu
    injection hk with hk; subst hk
    simp only [eqV] at hb
    split at hb <;> first | (cases hb; done) | skip
    injection hb with hb; subst hb
    cases r1; cases r2
    exact ⟨fun op X Y => by rw [eqGuard_at_bool]; rfl, eql_of rfl bo_bool (run_equalIn_bool w 9999 t _ _ hu)⟩
  · rename_i el hu
    injection hk with hk; subst hk
    exact eq_nil_run 0 (.inl ⟨rfl, el, hu⟩) hb r1 r2
  · rename_i kt el hu
    injection hk with hk; subst hk
    exact eq_nil_run 1 (.inr (.inl ⟨rfl, kt, el, hu⟩)) hb r1 r2
  · rename_i ps rs vr hu
    injection hk with hk; subst hk
    exact eq_nil_run 2 (.inr (.inr (.inl ⟨rfl, ps, rs, vr, hu⟩))) hb r1 r2
  · rename_i el hu
    injection hk with hk; subst hk
    exact eq_nil_run 3 (.inr (.inr (.inr ⟨rfl, el, hu⟩))) hb r1 r2
  · rename_i fs hu
    split at hk <;> first | (cases hk; done) | skip
    rename_i hg
    have hg' : P.eqGuardType P.depth t = false := by simpa using hg
    obtain ⟨ks, hks, rfl⟩ := map_some hk
    simp only [eqV] at hb
    split at hb <;> first | (cases hb; done) | skip
    rename_i as bs
    have heq := eq_agg hks ⟨fs, hu⟩ hb r1 r2
    cases r1; cases r2
    refine ⟨fun op X Y => run_eqGuard_agg w op t X Y _ _ hg', ?_, ?_⟩
    · simp [binOp, heq]
    · simp [binOp, heq]
theorem o_binOp {op : BinOp} {t yt : TypeId} {x y : Operand} {i : Ins} (hop : o.op = .binOp op t x y yt) (hc : insC P n o = some i) (hs : stepI i e h = some (v, h')) (he : EnvRel B G w n e a.tmps) (hr : Rel B G h w) : Outc P B G h w o a v h' := by
  simp only [insC, hop] at hc
  split at hc <;> first | (cases hc; done) | skip
  rename_i gx gy e1 e2
  have r1 := argC_rv he e1
  have r2 := argC_rv he e2
  have binc : i = .bin op gx gy → Outc P B G h w o a v h' := by
    rintro rfl
    simp only [stepI] at hs
    obtain ⟨u, hu, h2⟩ := map_some hs
    injection h2 with h1 h2; subst h1; subst h2
    unfold binV at hu
    split at hu <;> first | (cases hu; done) | skip
    · rename_i k1 x1 k2 y1 ex ey
      rw [ex] at r1; rw [ey] at r2
      generalize hx : a.eval x = q1 at r1
      generalize hy : a.eval y = q2 at r2
      cases r1; cases r2
      have key : ∃ z, (binOp op t (.int k1 x1) (.int k2 y1)).run P w = .ok z w ∧ Rv B G w u z := by
        split at hu
        · exact shI_run (.inl rfl) hu
        · exact shI_run (.inr rfl) hu
        · rename_i hn1 hn2
          split at hu <;> first | (cases hu; done) | skip
          rename_i hk
          subst hk
          exact binI_run ⟨fun hh => hn1 hh, fun hh => hn2 hh⟩ hu
      obtain ⟨z, hz, hrz⟩ := key
      refine Outc.same hr (val := z) ?_ hrz
      simp [execOp, hop, hx, hy, eqGuard_at_int, hz]
    · rename_i s1 s2 ex ey
      rw [ex] at r1; rw [ey] at r2
      generalize hx : a.eval x = q1 at r1
      generalize hy : a.eval y = q2 at r2
      cases r1; cases r2
      obtain ⟨z, hz, hrz⟩ := binS_run (P := P) (w := w) (B := B) (G := G) (t := t) hu
      refine Outc.same hr (val := z) ?_ hrz
      simp [execOp, hop, hx, hy, eqGuard_at_string, hz]
  split at hc
  · injection hc with hc; exact binc hc.symm
  · injection hc with hc; exact binc hc.symm
  · split at hc <;> first | (cases hc; done) | skip
    all_goals (
      rename_i k ek
      injection hc with hc; subst hc
      simp only [stepI] at hs
      obtain ⟨b, hb, h2⟩ := map_some hs
      injection h2 with h1 h2; subst h1; subst h2
      obtain ⟨g0, g1, g2⟩ := eq_run ek hb r1 r2)
    · exact Outc.same hr (val := .bool b) (by simp [execOp, hop, g0, g1]) (.bool _)
    · exact Outc.same hr (val := .bool (!b)) (by simp [execOp, hop, g0, g2]) (.bool _)
end
end Go.Vm
end
section
namespace Go.Vm
set_option linter.unusedVariables false
set_option linter.unusedSimpArgs false
section
variable {P : Program} {B : Nat} {G : Gh} {h h' : Heap} {w : World} {n : Nat} {e : Env} {a : Act} {o : Oper} {v : V}
theorem o_unOp {op : UnOp} {t : TypeId} {x : Operand} {i : Ins} (hop : o.op = .unOp op t x) (hc : insC P n o = some i) (hs : stepI i e h = some (v, h')) (he : EnvRel B G w n e a.tmps) (hr : Rel B G h w) : Outc P B G h w o a v h' := by
  simp only [insC, hop] at hc
  obtain ⟨g, hg, rfl⟩ := map_some hc
  have r := argC_rv he hg
  simp only [stepI] at hs
  obtain ⟨u, hu, h2⟩ := map_some hs
  injection h2 with h1 h2; subst h1; subst h2
  unfold unV at hu
  split at hu <;> first | (cases hu; done) | skip
  · rename_i k m eg
    rw [eg] at r
    generalize hx : a.eval x = q at r
    cases r
    split at hu <;> first | (cases hu; done) | skip
    · injection hu with hu; subst hu
      exact Outc.same hr (by simp [execOp, hop, hx, Op.unary, Op.intArith]) (.int _ _)
    · injection hu with hu; subst hu
      exact Outc.same hr (by simp [execOp, hop, hx, Op.unary, Op.intBits]; rfl) (by simp only [bitsI]; exact .int _ _)
  · rename_i b eg
    rw [eg] at r
    generalize hx : a.eval x = q at r
    cases r
    split at hu <;> first | (cases hu; done) | skip
    injection hu with hu; subst hu
    exact Outc.same hr (by simp [execOp, hop, hx, Op.unary]) (.bool _)
/-- Bounds of a cut. -/
def BO (l : Option Nat) (x : Option Value) : Prop :=
  match l, x with
  | none, none => True
  | some k, some v => ∃ kk m, v = .int kk m ∧ 0 ≤ m ∧ m.toNat = k
  | _, _ => False
theorem argO_bo {x : Option Operand} {g : Option Arg} {l : Option Nat} (he : EnvRel B G w n e a.tmps) (hg : argO n x = some g) (hl : boundO e g = some l) : BO l (x.map a.eval) := by
  cases x with
  | none =>
    simp [argO] at hg; subst hg
    simp [boundO] at hl; subst hl
    simp [BO]
  | some x =>
    simp only [argO] at hg
    obtain ⟨g', hg', rfl⟩ := map_some hg
    have r := argC_rv he hg'
    simp only [boundO] at hl
    split at hl <;> first | (cases hl; done) | skip
    rename_i k m em
    split at hl <;> first | (cases hl; done) | skip
    rename_i h0
    injection hl with hl; subst hl
    rw [em] at r
    simp only [Option.map_some]
    generalize a.eval x = q at r
    cases r
    exact ⟨_, _, rfl, h0, rfl⟩
theorem bounds_run {sl : Bool} {len cap : Nat} {low high mx : Option Value} {l r m : Option Nat} (h1 : BO l low) (h2 : BO r high) (h3 : BO m mx) (hm : m = none ∨ r ≠ none)
    (ha : m.getD cap ≤ cap) (hb : r.getD len ≤ m.getD cap) (hc : l.getD 0 ≤ r.getD len) :
    (Instr.sliceBounds sl len cap low high mx).run P w = .ok (l.getD 0, r.getD len, m.getD cap) w := by
  have sb : ∀ {k y : Nat} {v : Value} {c : BoundsCode}, (∃ kk z, v = .int kk z ∧ 0 ≤ z ∧ z.toNat = k) → k ≤ y → (Instr.sliceBound v y c).run P w = .ok k w := by
    rintro k y v c ⟨kk, z, rfl, hz, rfl⟩ hle
    have : z ≤ (y : Int) := by omega
    simp [Instr.sliceBound, asIntOf, hz, this]
  cases m with
  | none =>
    cases mx with
    | some _ => exact h3.elim
    | none =>
      cases r with
      | none =>
        cases high with
        | some _ => exact h2.elim
        | none =>
          cases l with
          | none => cases low with
            | some _ => exact h1.elim
            | none => simp [Instr.sliceBounds]
          | some k => cases low with
            | none => exact h1.elim
            | some lv => simp at hc; simp [Instr.sliceBounds, sb h1 hc]
      | some kr =>
        cases high with
        | none => exact h2.elim
        | some hv =>
          simp at hb hc
          cases l with
          | none => cases low with
            | some _ => exact h1.elim
            | none => simp [Instr.sliceBounds, sb h2 hb]
          | some k => cases low with
            | none => exact h1.elim
            | some lv => simp at hc; simp [Instr.sliceBounds, sb h2 hb, sb h1 hc]
  | some km =>
    cases mx with
    | none => exact h3.elim
    | some mv =>
      cases r with
      | none => exact absurd rfl (hm.resolve_left (by simp))
      | some kr =>
        cases high with
        | none => exact h2.elim
        | some hv =>
          simp at ha hb hc
          cases l with
          | none => cases low with
            | some _ => exact h1.elim
            | none => simp [Instr.sliceBounds, sb h2 hb, sb h3 ha]
          | some k => cases low with
            | none => exact h1.elim
            | some lv => simp at hc; simp [Instr.sliceBounds, sb h2 hb, sb h1 hc, sb h3 ha]
theorem extract_bytes (s : List UInt8) (l r : Nat) : (⟨s.toArray⟩ : ByteArray).extract l r = ⟨((s.take r).drop l).toArray⟩ := by
  apply ByteArray.ext
  simp [List.take_drop]
  by_cases hle : l ≤ r
  · rw [show l + (r - l) = r by omega]
  · rw [List.drop_eq_nil_of_le (by simp; omega), List.drop_eq_nil_of_le (by simp; omega)]
theorem o_slice {t : TypeId} {x : Operand} {lo hi mx : Option Operand} {i : Ins} (hop : o.op = .slice t x lo hi mx) (hc : insC P n o = some i) (hs : stepI i e h = some (v, h')) (he : EnvRel B G w n e a.tmps) (hr : Rel B G h w) : Outc P B G h w o a v h' := by
  simp only [insC, hop] at hc
  split at hc <;> first | (cases hc; done) | skip
  rename_i gx glo ghi gmx e1 e2 e3 e4
  have r1 := argC_rv he e1
  split at hc <;> first | (cases hc; done) | skip
  · rename_i hu
    split at hc <;> first | (cases hc; done) | skip
    injection hc with hc; subst hc
    have hmx : mx = none := by
      cases mx with
      | none => rfl
      | some m => simp [argO] at e4
    subst hmx
    simp only [stepI] at hs
    split at hs <;> first | (cases hs; done) | skip
    rename_i s es
    cases eb : boundO e glo with
    | none => simp [eb] at hs
    | some l =>
      cases ec : boundO e ghi with
      | none => simp [eb, ec] at hs
      | some r =>
        simp only [eb, ec, Option.bind_some] at hs
        split at hs <;> first | (cases hs; done) | skip
        rename_i hle
        injection hs with hs
        injection hs with h1 h2; subst h1; subst h2
        rw [es] at r1
        generalize hx : a.eval x = q at r1
        cases r1
        have hb := bounds_run (P := P) (w := w) (sl := false) (len := s.length) (cap := s.length) (m := none) (mx := none) (argO_bo he e2 eb) (argO_bo he e3 ec) (by simp [BO]) (.inl rfl) (by simp) (by simpa using hle.2) hle.1
        refine Outc.same hr (val := .string ⟨((s.take (r.getD s.length)).drop (l.getD 0)).toArray⟩) ?_ (.str _)
        have hsz : (⟨s.toArray⟩ : ByteArray).size = s.length := by simp [ByteArray.size]
        simp [execOp, hop, Instr.sliceAt, Instr.slice, run_underlying hu, hx, hsz, hb, extract_bytes]
  · rename_i el hu
    split at hc <;> first | (cases hc; done) | skip
    rename_i sz esz
    split at hc <;> first | (cases hc; done) | skip
    rename_i hsz0
    injection hc with hc; subst hc
    simp only [stepI] at hs
    cases eb : boundO e glo with
    | none => simp [eb] at hs
    | some l =>
    cases ec : boundO e ghi with
    | none => simp [eb, ec] at hs
    | some r =>
    cases ed : boundO e gmx with
    | none => simp [eb, ec, ed] at hs
    | some m =>
    simp only [eb, ec, ed, Option.bind_some] at hs
    obtain ⟨u, hu2, h2⟩ := map_some hs
    injection h2 with h1 h2; subst h1; subst h2
    have b1 := argO_bo he e2 eb
    have b2 := argO_bo he e3 ec
    have b3 := argO_bo he e4 ed
    generalize hxx : gx.get e = gxv at hu2 r1
    generalize hx : a.eval x = q at r1
    unfold slslV at hu2
    split at hu2 <;> first | (cases hu2; done) | skip
    · -- nil
      cases r1
      have fin : l.getD 0 = 0 → r.getD 0 = 0 → (m = none ∨ m = some 0) → (m = none ∨ r ≠ none) → Outc P B G h w o a .nsl h := by
        intro hl hrr hm hm2
        have hm0 : m.getD 0 = 0 := by rcases hm with rfl | rfl <;> rfl
        have hb := bounds_run (P := P) (w := w) (sl := true) (len := 0) (cap := 0) b1 b2 b3 hm2 (by omega) (by omega) (by omega)
        refine Outc.same hr (val := .slice none 0 0) ?_ .nsl
        simp [execOp, hop, Instr.sliceAt, Instr.slice, run_underlying hu, hx, hb, run_sizeT esz, hl, hrr, hm0]
      split at hu2 <;> first | (cases hu2; done) | skip
      all_goals (split at hu2 <;> first | (cases hu2; done) | skip)
      all_goals (rename_i hl; injection hu2 with hu2; subst hu2)
      · exact fin hl rfl (.inl rfl) (.inl rfl)
      · exact fin hl rfl (.inl rfl) (.inl rfl)
      · exact fin hl rfl (.inr rfl) (.inr (by simp))
    · -- a slice of elements
      rename_i sz' own es
      split at hu2
      · cases hu2
      rename_i hszz'
      have hszz : sz' = sz := Classical.byContradiction fun h => hszz' h
      cases r1 with
      | sl vs hsz hsp hcap hcc h1 hrr hfull htip =>
        rename_i ad cap
        have fl := flat_length hsz
        -- a cut from k on, of r elements' end
        have cut : ∀ (k q c : Nat) (own' : Own), k ≤ q → q ≤ es.length → q ≤ c → (k = 0 → (own' = own ∧ q = es.length ∧ c = cap) ∨ own' = .no ∨ (own' = .full ∧ c = q)) → (k ≠ 0 → own' = .no ∨ (own' = .full ∧ c = q)) → 
            Rv B G w (.sl sz' own' ((es.take q).drop k)) (.slice (some (if c = k then ad else ad.add (k * sz'))) (q - k) (c - k)) := by
          intro k q c own' hkq hqe hqc ho1 ho2
          have hlen : ((es.take q).drop k).length = q - k := by simp; omega
          have hmem : ∀ x ∈ (es.take q).drop k, x ∈ es := fun x hx => List.mem_of_mem_take (List.mem_of_mem_drop hx)
          have hsz2 : ∀ x ∈ (es.take q).drop k, (cells x).length = sz' := fun x hx => hsz x (hmem x hx)
          have hfl : ∀ j, j < (flat ((es.take q).drop k)).length → (flat ((es.take q).drop k))[j]? = (flat es)[k * sz' + j]? := by
            intro j hj
            have e1 : flat es = flat (es.take k) ++ (flat ((es.take q).drop k) ++ flat (es.drop q)) := by
              rw [← flat_append, ← flat_append]
              congr 1
              rw [List.drop_take, ← List.append_assoc]
              have : es.take k ++ (es.drop k).take (q - k) = es.take q := by
                rw [← List.take_add]; congr 1; omega
              rw [this, List.take_append_drop]
            have e2 : (flat (es.take k)).length = k * sz' := by
              rw [flat_length (fun x hx => hsz x (List.mem_of_mem_take hx)), List.length_take, Nat.min_eq_left (by omega)]
            rw [e1, List.getElem?_append_right (by omega), e2, show k * sz' + j - k * sz' = j by omega, List.getElem?_append_left hj]
          have hadd : (if c = k then ad else ad.add (k * sz')).block = ad.block ∧ (0 < (flat ((es.take q).drop k)).length → (if c = k then ad else ad.add (k * sz')).off = ad.off + k * sz') := by
            by_cases hck : c = k
            · rw [if_pos hck]
              refine ⟨rfl, fun h0 => ?_⟩
              rw [flat_length hsz2, hlen, show q - k = 0 by omega] at h0
              simp at h0
            · rw [if_neg hck]
              unfold Addr.add
              split
              · rename_i hz; rw [hz]; exact ⟨rfl, fun _ => rfl⟩
              · exact ⟨rfl, fun _ => rfl⟩
          rw [← hlen]
          refine .sl (fun j => vs (k * sz' + j)) hsz2 ?_ (by rw [hlen]; omega) ?_ ?_ ?_ ?_ ?_
          · intro hne
            have hne' : es ≠ [] := by rintro rfl; simp at hne
            have := hsp hne'
            split
            · exact this
            · unfold Addr.add; split
              · exact this
              · rfl
          · intro j hj
            obtain ⟨ha1, ha2⟩ := hadd
            rw [ha1, ha2 (by omega)]
            have h3 := hfl j hj
            have h4 : k * sz' + j < (flat es).length := (List.getElem?_eq_some_iff.1 (h3.symm.trans (List.getElem?_eq_getElem hj))).1
            have := hcc _ h4
            rwa [← Nat.add_assoc] at this
          · intro c hc
            obtain ⟨x, hx, hcx⟩ := List.mem_flatMap.1 hc
            exact h1 c (mem_flat (hmem x hx) c hcx)
          · intro j y hy
            have hj := (List.getElem?_eq_some_iff.1 hy).1
            exact hrr _ _ ((hfl j hj).symm.trans hy)
          · intro hf
            rw [hlen]
            by_cases hk0 : k = 0
            · rcases ho1 hk0 with ⟨ho, hq, hcq⟩ | ho | ⟨_, ho⟩
              · rw [ho] at hf; have := hfull hf; omega
              · rw [ho] at hf; cases hf
              · omega
            · rcases ho2 hk0 with ho | ⟨_, ho⟩
              · rw [ho] at hf; cases hf
              · omega
          · intro id hid
            by_cases hk0 : k = 0
            · rcases ho1 hk0 with ⟨ho, hq, hcq⟩ | ho | ⟨ho, _⟩
              · subst hk0; subst hq; subst hcq
                rw [ho] at hid
                obtain ⟨t', ht, hn, hf⟩ := htip id hid
                refine ⟨t', ht, by simpa using hn, fun hh => ?_⟩
                obtain ⟨a1, a2, a3⟩ := hf (by simpa using hh)
                refine ⟨?_, by simpa using a2, a3⟩
                rw [a1]; simp [Addr.add]
              · rw [ho] at hid; cases hid
              · rw [ho] at hid; cases hid
            · rcases ho2 hk0 with ho | ⟨ho, _⟩ <;> (rw [ho] at hid; cases hid)
        have fin : ∀ (own' : Own), (m = none ∨ r ≠ none) → m.getD cap ≤ cap → r.getD es.length ≤ m.getD cap → l.getD 0 ≤ r.getD es.length → r.getD es.length ≤ es.length →
            (l.getD 0 = 0 → (own' = own ∧ r.getD es.length = es.length ∧ m.getD cap = cap) ∨ own' = .no ∨ (own' = .full ∧ m.getD cap = r.getD es.length)) → (l.getD 0 ≠ 0 → own' = .no ∨ (own' = .full ∧ m.getD cap = r.getD es.length))→
            Outc P B G h w o a (.sl sz' own' ((es.take (r.getD es.length)).drop (l.getD 0))) h := by
          intro own' hm2 ha hb hc hd ho1 ho2
          subst hszz
          have hbr := bounds_run (P := P) (w := w) (sl := true) b1 b2 b3 hm2 ha hb hc
          refine Outc.same hr ?_ (cut _ _ (m.getD cap) own' hc hd hb ho1 ho2)
          simp [execOp, hop, Instr.sliceAt, Instr.slice, run_underlying hu, hx, hbr, run_sizeT esz]
          split <;> rfl
        split at hu2 <;> first | (cases hu2; done) | skip
        · split at hu2 <;> first | (cases hu2; done) | skip
          rename_i hle
          injection hu2 with hu2; subst hu2
          have := fin (if l.getD 0 = 0 then own else .no) (.inl rfl) (by simp) (by simpa using hcap) (by simpa using hle) (by simp) (fun h0 => .inl ⟨by rw [if_pos h0], by simp, by simp⟩) (fun h0 => .inl (by rw [if_neg h0]))
          simpa using this
        · rename_i r'
          split at hu2 <;> first | (cases hu2; done) | skip
          rename_i hle
          injection hu2 with hu2; subst hu2
          exact fin .no (.inl rfl) (by simp) (by simpa using Nat.le_trans hle.2 hcap) (by simpa using hle.1) (by simpa using hle.2) (fun h0 => .inr (.inl rfl)) (fun h0 => .inl rfl)
        · rename_i r' m'
          split at hu2 <;> first | (cases hu2; done) | skip
          rename_i hle
          injection hu2 with hu2; subst hu2
          have own2 : (if r' = m' then Own.full else Own.no) = .no ∨ ((if r' = m' then Own.full else Own.no) = .full ∧ m' = r') := by
            by_cases hrm : r' = m'
            · exact .inr ⟨by rw [if_pos hrm], hrm.symm⟩
            · exact .inl (by rw [if_neg hrm])
          exact fin (if r' = m' then .full else .no) (.inr (by simp)) (by simpa using Nat.le_trans hle.2.2 hcap) (by simpa using hle.2.1) (by simpa using hle.1) (by simpa using Nat.le_trans hle.2.1 hle.2.2)
            (fun h0 => .inr own2) (fun h0 => own2)
    · -- a slice in a box
      rename_i sz' id len
      split at hu2
      · cases hu2
      rename_i hszz'
      have hszz : sz' = sz := Classical.byContradiction fun h => hszz' h
      subst hszz
      cases r1 with
      | hsl hb hl hn =>
        rename_i b nn cap
        split at hu2 <;> first | (cases hu2; done) | skip
        · split at hu2 <;> first | (cases hu2; done) | skip
          rename_i hl0
          injection hu2 with hu2; subst hu2
          have hbr := bounds_run (P := P) (w := w) (sl := true) (len := len) (cap := cap) b1 b2 b3 (.inl rfl) (by simp) (by simpa using hl) (by simp [hl0])
          refine Outc.same hr (val := .slice (some ⟨b, 0, none⟩) len cap) ?_ (.hsl hb hl hn)
          simp [execOp, hop, Instr.sliceAt, Instr.slice, run_underlying hu, hx, hbr, run_sizeT esz, hl0, Addr.add]
        · rename_i r'
          split at hu2 <;> first | (cases hu2; done) | skip
          rename_i hl0
          injection hu2 with hu2; subst hu2
          have hbr := bounds_run (P := P) (w := w) (sl := true) (len := len) (cap := cap) b1 b2 b3 (.inl rfl) (by simp) (by simp; omega) (by simp [hl0.1])
          refine Outc.same hr (val := .slice (some ⟨b, 0, none⟩) r' cap) ?_ (.hsl hb (by omega) hn)
          simp [execOp, hop, Instr.sliceAt, Instr.slice, run_underlying hu, hx, hbr, run_sizeT esz, hl0.1, Addr.add]
        · rename_i r' m'
          split at hu2 <;> first | (cases hu2; done) | skip
          rename_i hl0
          injection hu2 with hu2; subst hu2
          have hbr := bounds_run (P := P) (w := w) (sl := true) (len := len) (cap := cap) b1 b2 b3 (.inr (by simp)) (by simp; omega) (by simp; omega) (by simp [hl0.1])
          refine Outc.same hr (val := .slice (some ⟨b, 0, none⟩) r' m') ?_ (.hsl hb hl0.2.1 (Nat.le_trans (Nat.mul_le_mul_right _ (by omega)) hn))
          simp [execOp, hop, Instr.sliceAt, Instr.slice, run_underlying hu, hx, hbr, run_sizeT esz, hl0.1, Addr.add]
end
end Go.Vm
end
section
namespace Go.Vm
set_option linter.unusedVariables false
set_option linter.unusedSimpArgs false
section
variable {P : Program} {B : Nat} {G : Gh} {h h' : Heap} {w : World} {n : Nat} {e : Env} {a : Act} {o : Oper} {v : V}
theorem Row.at {b n : Nat} {cs : List V} (hrow : Row B G w b n cs) {k : Nat} {x : V} (hx : cs[k]? = some x) : ∃ v, at? w b k = some v ∧ Rv B G w x v ∧ oneC x := by
  obtain ⟨arr, T, fz, h1, h2, h3, h4, h5, h6⟩ := hrow.out
  obtain ⟨v, hv, hr⟩ := h6 k x hx
  exact ⟨v, by simp [at?, World.cell?, h1, hv], hr, h5 x (List.mem_of_getElem? hx)⟩
/-- Cells that are known one by one, as a list. -/
theorem gather {b o : Nat} : ∀ {cs : List V}, (∀ k x, cs[k]? = some x → ∃ v, at? w b (o + k) = some v ∧ Rv B G w x v) →
    ∃ vs, Rvs B G w cs vs ∧ ∀ (k : Nat) (v : Value), vs[k]? = some v → at? w b (o + k) = some v
  | cs, hk => by
    refine ⟨(List.range cs.length).map fun k => (at? w b (o + k)).getD undef, ⟨by simp, fun k x v hx hv => ?_⟩, fun k v hv => ?_⟩
    · obtain ⟨u, hu, hr⟩ := hk k x hx
      have hlt := (List.getElem?_eq_some_iff.1 hx).1
      simp [hlt, hu] at hv
      subst hv; exact hr
    · rw [List.getElem?_map] at hv
      by_cases hlt : k < cs.length
      · obtain ⟨u, hu, hr⟩ := hk k _ (List.getElem?_eq_getElem hlt)
        simp [hlt, hu] at hv
        subst hv; exact hu
      · simp [hlt] at hv
theorem part_of {cs : List V} {off s : Nat} {g : Bool} {x : V} (hp : part cs off s g = some x) :
    off + s ≤ cs.length ∧ (g = true → x = .agg ((cs.drop off).take s)) ∧ (g = false → s = 1 ∧ (cs.drop off).take s = [x]) := by
  unfold part at hp
  split at hp <;> first | (cases hp; done) | skip
  rename_i hle
  refine ⟨hle, fun hg => ?_, fun hg => ?_⟩
  · subst hg; simpa using hp.symm
  · subst hg
    simp at hp
    obtain ⟨rfl, hx⟩ := hp
    refine ⟨rfl, ?_⟩
    apply List.ext_getElem?
    intro k
    cases k with
    | zero => rw [List.getElem?_take, if_pos (by omega), List.getElem?_drop]; simpa using hx
    | succ k => rw [List.getElem?_take, if_neg (by omega)]; simp
/-- A load of cells that are known. -/
theorem load_known {t : TypeId} {g : Bool} {s : Nat} (hg : aggT P t = some g) (hs : sizeT P t = some s) {b o : Nat} {cs : List V} {off : Nat} {x : V}
    (hk : ∀ k y, cs[k]? = some y → ∃ v, at? w b (o + k) = some v ∧ Rv B G w y v ∧ oneC y) (hp : part cs off s g = some x) :
    ∃ u, (loadVar t ⟨b, o + off, none⟩).run P w = .ok u w ∧ Rv B G w x u := by
  obtain ⟨hle, hg1, hg2⟩ := part_of hp
  have hk' : ∀ k y, ((cs.drop off).take s)[k]? = some y → ∃ v, at? w b (o + off + k) = some v ∧ Rv B G w y v := by
    intro k y hy
    rw [List.getElem?_take] at hy
    split at hy
    · rw [List.getElem?_drop] at hy
      obtain ⟨v, h1, h2, _⟩ := hk _ y hy
      exact ⟨v, by rw [Nat.add_assoc]; exact h1, h2⟩
    · cases hy
  obtain ⟨vs, hv, hat⟩ := gather hk'
  have hlen : vs.length = s := by rw [hv.1]; simp; omega
  obtain ⟨u, hu, hu1, hu2⟩ := run_load hg hs w b (o + off) vs hlen (fun hf => (hg2 hf).1) hat
  refine ⟨u, hu, ?_⟩
  cases g with
  | true =>
    rw [hg1 rfl, hu1 rfl]
    refine .agg hv.1 (fun c hc => ?_) hv.2
    obtain ⟨k, hk1, rfl⟩ := List.mem_iff_getElem.1 (List.mem_of_mem_drop (List.mem_of_mem_take hc))
    exact (hk k _ (List.getElem?_eq_getElem hk1)).elim fun _ h => h.2.2
  | false =>
    have h1 := (hg2 rfl).2
    have h2 := hu2 rfl
    rw [h1, h2] at hv
    exact hv.2 0 x u rfl rfl
theorem loadV_run {t : TypeId} {g : Bool} {s : Nat} (hg : aggT P t = some g) (hs : sizeT P t = some s) (hr : Rel B G h w) {x y : V} {u : Value} (hl : loadV h g s x = some y) (hx : Rv B G w x u) :
    ∃ ad z, u = .pointer (some ad) ∧ (loadVar t ad).run P w = .ok z w ∧ Rv B G w y z := by
  unfold loadV at hl
  split at hl <;> first | (cases hl; done) | skip
  · rename_i id off
    split at hl <;> first | (cases hl; done) | skip
    rename_i cs ho
    cases hx with
    | ptr hb =>
      rename_i b nn
      have hrow := hr.obj id _ ho b nn hb
      obtain ⟨z, hz, hrz⟩ := load_known (P := P) (w := w) (b := b) (o := 0) hg hs (fun k y hy => by rw [Nat.zero_add]; exact hrow.at hy) hl
      exact ⟨_, z, rfl, by simpa using hz, hrz⟩
  · rename_i cs
    cases hx with
    | iptr vs hc h1 hrr =>
      rename_i b off
      obtain ⟨z, hz, hrz⟩ := load_known (P := P) (w := w) (b := b) (o := off) hg hs (fun k y hy => ⟨_, (hc k (List.getElem?_eq_some_iff.1 hy).1).2, hrr k y hy, h1 y (List.mem_of_getElem? hy)⟩) hl
      exact ⟨_, z, rfl, by simpa using hz, hrz⟩
theorem o_load {t : TypeId} {x : Operand} {i : Ins} (hop : o.op = .load t x) (hc : insC P n o = some i) (hs : stepI i e h = some (v, h')) (he : EnvRel B G w n e a.tmps) (hr : Rel B G h w) : Outc P B G h w o a v h' := by
  simp only [insC, hop] at hc
  split at hc <;> first | (cases hc; done) | skip
  rename_i g s gx e1 e2 e3
  injection hc with hc; subst hc
  simp only [stepI] at hs
  obtain ⟨u, hu, h2⟩ := map_some hs
  injection h2 with h1 h2; subst h1; subst h2
  obtain ⟨ad, z, hx, hz, hrz⟩ := loadV_run e1 e2 hr hu (argC_rv he e3)
  refine Outc.same hr (val := z) ?_ hrz
  simp [execOp, hop, Instr.loadAt, hx, Instr.sureAddr, hz]
theorem o_convert {t u : TypeId} {x : Operand} {i : Ins} (hop : o.op = .convert t u x) (hc : insC P n o = some i) (hs : stepI i e h = some (v, h')) (he : EnvRel B G w n e a.tmps) (hr : Rel B G h w)
    (hq1 : ∀ g, i ≠ .toStr g) (hq2 : ∀ g, i ≠ .toBytes g) (hq3 : ∀ g, i ≠ .mark g) : Outc P B G h w o a v h' := by
  simp only [insC, hop] at hc
  split at hc <;> first | (cases hc; done) | skip
  · rename_i k1 k gx e1 e2 e3
    injection hc with hc; subst hc
    have r := argC_rv he e3
    simp only [stepI] at hs
    split at hs <;> first | (cases hs; done) | skip
    rename_i kk m em
    injection hs with hs
    injection hs with h1 h2; subst h1; subst h2
    rw [em] at r
    generalize hx : a.eval x = q at r
    cases r
    exact Outc.same hr (by simp [execOp, hop, hx, convert, run_underlying e1, run_underlying e2, Conv.intToInt]) (.int _ _)
  · rename_i gx e1 e2 e3
    injection hc with hc; subst hc
    have r := argC_rv he e3
    simp only [stepI] at hs
    split at hs <;> first | (cases hs; done) | skip
    rename_i s es
    injection hs with hs
    injection hs with h1 h2; subst h1; subst h2
    rw [es] at r
    generalize hx : a.eval x = q at r
    cases r
    exact Outc.same hr (val := .string ⟨s.toArray⟩) (by simp [execOp, hop, hx, convert, run_underlying e1, run_underlying e2]) (.str _)
  · split at hc <;> first | (cases hc; done) | skip
    injection hc with hc; exact absurd hc.symm (hq1 _)
  · split at hc <;> first | (cases hc; done) | skip
    injection hc with hc; exact absurd hc.symm (hq2 _)
  · split at hc <;> first | (cases hc; done) | skip
    split at hc <;> first | (cases hc; done) | skip
    injection hc with hc; exact absurd hc.symm (hq3 _)
/-! ### Maps: reading -/
theorem findNow_run {c : LK} {kind : TypeDesc} (hk : (c = .i ∧ ∃ kk, kind = .int kk) ∨ (c = .s ∧ kind = .string)) {k : V} {kv : Value} (rk : Rv B G w k kv) :
    ∀ {es : List (V × V)} {l : List MapEntry} {i : Nat} {r : Option (Nat × V)}, Ents B G w es l → findE c k es i = some r →
      ∃ r', Instr.findNow kind kv l i = some r' ∧ (match r, r' with
        | none, none => True
        | some (j, x), some (j', y) => j = j' ∧ Rv B G w x y ∧ i ≤ j ∧ ∃ p, es[j - i]? = some p ∧ p.2 = x ∧ eqLeaf c k p.1 = some true
        | _, _ => False)
  | [], l, i, r, hE, hf => by
    simp [findE] at hf; subst hf
    have : l = [] := by have := hE.1; simpa using this
    subst this
    exact ⟨none, rfl, trivial⟩
  | x :: es, l, i, r, hE, hf => by
    cases l with
    | nil => have := hE.1; simp at this
    | cons y l =>
      simp only [findE] at hf
      have h0 := hE.2 0 x y rfl rfl
      cases e1 : eqLeaf c k x.1 with
      | none => simp [e1] at hf
      | some b =>
        simp only [e1, Option.bind_some] at hf
        have hsame : Instr.sameNow kind kv y.key = some b := by
          have r2 := h0.1
          rcases hk with ⟨rfl, kk, rfl⟩ | ⟨rfl, rfl⟩
          · unfold eqLeaf at e1
            split at e1 <;> first | (cases e1; done) | skip
            all_goals (first | contradiction | skip)
            rename_i q1 q2 q3 q4 hq
            split at e1 <;> first | (cases e1; done) | skip
            rename_i hkk
            subst hkk
            rw [hq] at r2
            cases rk
            generalize y.key = z at r2
            cases r2
            simp at e1; subst e1
            simp only [Instr.sameNow, if_true]
            congr 1
          · unfold eqLeaf at e1
            split at e1 <;> first | (cases e1; done) | skip
            all_goals (first | contradiction | skip)
            rename_i q1 q2 hq
            rw [hq] at r2
            cases rk
            generalize y.key = z at r2
            cases r2
            simp at e1; subst e1
            simp only [Instr.sameNow]
            congr 1
            rw [beq_toListBytes, bytes_toList, bytes_toList]
        cases b with
        | true =>
          simp at hf; subst hf
          exact ⟨some (i, y.val), by simp [Instr.findNow, hsame], rfl, h0.2, Nat.le_refl _, x, by simp, rfl, e1⟩
        | false =>
          simp at hf
          have hE' : Ents B G w es l := ⟨by have := hE.1; simpa using this, fun k p q hp hq => hE.2 (k + 1) p q hp hq⟩
          obtain ⟨r', h1, h2⟩ := findNow_run hk rk hE' hf
          refine ⟨r', by simp [Instr.findNow, hsame, h1], ?_⟩
          cases r with
          | none => cases r' with
            | none => trivial
            | some q => exact h2.elim
          | some p => cases r' with
            | none => exact h2.elim
            | some q =>
              obtain ⟨a1, a2, a3, p', a4, a5, a6⟩ := h2
              refine ⟨a1, a2, by omega, p', ?_, a5, a6⟩
              rw [show p.1 - i = (p.1 - (i + 1)) + 1 by omega]
              simpa using a4
theorem checkKey_run {c : LK} {kt : TypeId} (hk : (c = .i ∧ ∃ kk, P.underlying kt = some (.int kk)) ∨ (c = .s ∧ P.underlying kt = some .string)) {k : V} {kv : Value} (rk : Rv B G w k kv) {es : List (V × V)} {i : Nat} {r : Option (Nat × V)}
    (b : Bool) (d : Nat) : (Instr.checkKey b (d + 1) kt kv).run P w = .ok () w := by
  rcases hk with ⟨rfl, kk, hu⟩ | ⟨rfl, hu⟩ <;> cases rk <;> simp [Instr.checkKey, run_underlying hu]
theorem o_lookup {t : TypeId} {m k : Operand} {ok : Bool} {i : Ins} (hop : o.op = .lookup t m k ok) (hc : insC P n o = some i) (hs : stepI i e h = some (v, h')) (he : EnvRel B G w n e a.tmps) (hr : Rel B G h w) : Outc P B G h w o a v h' := by
  simp only [insC, hop] at hc
  split at hc <;> first | (cases hc; done) | skip
  rename_i kt el hu
  have main : ∀ {c : LK} {z : Value} {zv : V} {gm gk : Arg}, ((c = .i ∧ ∃ kk, P.underlying kt = some (.int kk)) ∨ (c = .s ∧ P.underlying kt = some .string)) → (P.info? el).bind (·.zero) = some z → ofConst z = some zv → argC n m = some gm → argC n k = some gk →
      i = .lookup c zv ok gm gk → Outc P B G h w o a v h' := by
    intro c z zv gm gk hk hz hzv e1 e2 hi
    subst hi
    have r1 := argC_rv he e1
    have r2 := argC_rv he e2
    have hzr : (zeroValue el).run P w = .ok z w := by
      cases ei : P.info? el with
      | none => simp [ei] at hz
      | some inf => simp [ei] at hz; simp [zeroValue, run_info ei, hz]
    have rz : Rv B G w zv z := ofConst_rv hzv
    have tupR : ∀ {x : V} {y : Value} {b : Bool}, Rv B G w x y → Rv B G w (.tup [x, .bool b]) (.tuple #[y, .bool b]) := by
      intro x y b hxy
      have hh := rvs_cons hxy (rvs_cons (.bool b) rvs_nil)
      exact .tup hh.1 hh.2
    generalize hm : a.eval m = qm at r1
    generalize hkk : a.eval k = qk at r2
    have ck : ∀ b, (Instr.checkKey b 10000 kt qk).run P w = .ok () w := fun b => checkKey_run (es := []) (i := 0) (r := none) hk r2 b 9999
    have fin : ∀ {x : V} {y : Value} (b : Bool), Rv B G w x y → v = (if ok then .tup [x, .bool b] else x) → h' = h → (∀ (z : Value), z = (if ok then .tuple #[y, .bool b] else y) → (execOp a.eval o).run P w = .ok (.value z) w) → Outc P B G h w o a v h' := by
      intro x y b hxy hv hh hrun
      subst hh; subst hv
      refine Outc.same hr (hrun _ rfl) ?_
      cases ok
      · exact hxy
      · exact tupR hxy
    have und : ∃ kind, P.underlying kt = some kind ∧ ((c = .i ∧ ∃ kk, kind = .int kk) ∨ (c = .s ∧ kind = .string)) := by
      rcases hk with ⟨rfl, kk, hu'⟩ | ⟨rfl, hu'⟩
      · exact ⟨_, hu', .inl ⟨rfl, kk, rfl⟩⟩
      · exact ⟨_, hu', .inr ⟨rfl, rfl⟩⟩
    obtain ⟨kind, hkind, hkc⟩ := und
    simp only [stepI] at hs
    split at hs <;> first | (cases hs; done) | skip
    · rename_i em
      injection hs with hs
      injection hs with h1 h2
      rw [em] at r1
      cases r1
      refine fin false rz (by rw [← h1]) h2.symm fun zz hzz => ?_
      subst hzz
      simp [execOp, hop, Instr.lookup, run_underlying hu, hm, hkk, ck, Instr.findKey, run_underlying hkind, Instr.findNow, hzr]
    · rename_i id em
      split at hs <;> first | (cases hs; done) | skip
      rename_i es ho
      obtain ⟨r, hf, h2⟩ := map_some hs
      rw [em] at r1
      cases r1 with
      | map hb =>
        rename_i b nn
        obtain ⟨l, clock, hl, hE⟩ := hr.obj id _ ho b nn hb
        obtain ⟨r', hr1, hr2⟩ := findNow_run hkc r2 hE hf
        have hgo : (getObj b).run P w = .ok (.map l clock) w := by simp [getObj, Sem.run, hl]
        cases r with
        | none =>
          cases r' with
          | some q => exact hr2.elim
          | none =>
            injection h2 with h3 h4
            refine fin false rz (by rw [← h3]) h4.symm fun zz hzz => ?_
            subst hzz
            simp [execOp, hop, Instr.lookup, run_underlying hu, hm, hkk, ck, Instr.findKey, run_underlying hkind, hzr, hgo, hr1]
        | some p =>
          cases r' with
          | none => exact hr2.elim
          | some q =>
            obtain ⟨p1, p2⟩ := p
            obtain ⟨q1, q2⟩ := q
            injection h2 with h3 h4
            refine fin true hr2.2.1 (by rw [← h3]) h4.symm fun zz hzz => ?_
            subst hzz
            simp [execOp, hop, Instr.lookup, run_underlying hu, hm, hkk, ck, Instr.findKey, run_underlying hkind, hzr, hgo, hr1]
  split at hc <;> first | (cases hc; done) | skip
  · rename_i hu' hz e1 e2
    obtain ⟨zv, hzv, hi⟩ := map_some hc
    exact main (.inr ⟨rfl, hu'⟩) hz hzv e1 e2 hi.symm
  · rename_i hu' hz e1 e2
    obtain ⟨zv, hzv, hi⟩ := map_some hc
    exact main (.inl ⟨rfl, _, hu'⟩) hz hzv e1 e2 hi.symm
/-! ### len, min, max -/
theorem run_bi {c : Call} {b : Builtin} (hop : o.op = .call c) (hb : c.callee = .builtin b) :
    ∃ cs, (execOp a.eval o).run P w = (builtin b c.argTypes o.type cs (c.args.map a.eval)).run P w :=
  ⟨_, by simp [execOp, hop, resolve, hb, invoke]; rfl⟩
theorem toList_one {α : Type} {x : Array α} {y : α} (h : x.toList = [y]) : x = #[y] := by
  apply Array.ext'; simpa using h
theorem toList_two {α : Type} {x : Array α} {y z : α} (h : x.toList = [y, z]) : x = #[y, z] := by
  apply Array.ext'; simpa using h
theorem o_len {c : Call} {i : Ins} (hop : o.op = .call c) (hb : c.callee = .builtin .len) (hc : insC P n o = some i) (hs : stepI i e h = some (v, h')) (he : EnvRel B G w n e a.tmps) (hr : Rel B G h w) : Outc P B G h w o a v h' := by
  simp only [insC, hop, callC, hb] at hc
  split at hc <;> first | (cases hc; done) | skip
  all_goals (first | contradiction | skip)
  rename_i x t hbb e1 e2
  have ha := toList_one e1
  have ht := toList_one e2
  have hrun : ∀ k : Int, (Builtin.len_ #[t] o.type #[a.eval x]).run P w = .ok (.int .i64 k) w → (execOp a.eval o).run P w = .ok (.value (.int .i64 k)) w := by
    intro k hk
    obtain ⟨cs, hcs⟩ := run_bi (P := P) (w := w) (a := a) hop hb
    rw [hcs, ha, ht]
    simp [builtin, hk]
  have arr : ∀ {k : Nat}, i = .lenArr k → (Builtin.len_ #[t] o.type #[a.eval x]).run P w = .ok (.int .i64 k) w → Outc P B G h w o a v h' := by
    rintro k rfl hx
    simp [stepI] at hs
    obtain ⟨rfl, rfl⟩ := hs
    exact Outc.same hr (hrun _ hx) (.int _ _)
  have main : ∀ {gx : Arg} {k : Nat}, argC n x = some gx → i = .len k gx → ((k = 0 ∧ P.underlying t = some .string) ∨ (k = 1 ∧ ∃ el, P.underlying t = some (.slice el)) ∨ (k = 2 ∧ ∃ q el, P.underlying t = some (.map q el))) → Outc P B G h w o a v h' := by
    rintro gx k e3 rfl hu
    have r := argC_rv he e3
    have fin : ∀ m : Int, v = .int .i64 m → h' = h → (Builtin.len_ #[t] o.type #[a.eval x]).run P w = .ok (.int .i64 m) w → Outc P B G h w o a v h' := by
      rintro m rfl rfl hx
      exact Outc.same hr (hrun _ hx) (.int _ _)
    simp only [stepI] at hs
    generalize hx : a.eval x = q at r fin
    split at hs <;> first | (cases hs; done) | skip
    · rename_i s es
      injection hs with hs
      injection hs with h1 h2
      rw [es] at r
      cases r
      have hu' := hu.resolve_right (by rintro (⟨hh, _⟩ | ⟨hh, _⟩) <;> cases hh)
      exact fin _ h1.symm h2.symm (by rw [show (s.length : Int) = ((⟨s.toArray⟩ : ByteArray).size : Int) by simp [ByteArray.size]]; simp [Builtin.len_, run_underlying hu'.2, goInt])
    · rename_i es
      injection hs with hs
      injection hs with h1 h2
      rw [es] at r
      cases r
      obtain ⟨_, el, hu'⟩ := (hu.resolve_left (by rintro ⟨hh, _⟩; cases hh)).resolve_right (by rintro ⟨hh, _⟩; cases hh)
      exact fin _ h1.symm h2.symm (by simp [Builtin.len_, run_underlying hu', goInt])
    · rename_i sz own es ex
      injection hs with hs
      injection hs with h1 h2
      rw [ex] at r
      cases r
      obtain ⟨_, el, hu'⟩ := (hu.resolve_left (by rintro ⟨hh, _⟩; cases hh)).resolve_right (by rintro ⟨hh, _⟩; cases hh)
      exact fin _ h1.symm h2.symm (by simp [Builtin.len_, run_underlying hu', goInt])
    · rename_i sz id len ex
      injection hs with hs
      injection hs with h1 h2
      rw [ex] at r
      cases r
      obtain ⟨_, el, hu'⟩ := (hu.resolve_left (by rintro ⟨hh, _⟩; cases hh)).resolve_right (by rintro ⟨hh, _⟩; cases hh)
      exact fin _ h1.symm h2.symm (by simp [Builtin.len_, run_underlying hu', goInt])
    · rename_i es
      injection hs with hs
      injection hs with h1 h2
      rw [es] at r
      cases r
      obtain ⟨_, q, el, hu'⟩ := (hu.resolve_left (by rintro ⟨hh, _⟩; cases hh)).resolve_left (by rintro ⟨hh, _⟩; cases hh)
      exact fin _ h1.symm h2.symm (by simp [Builtin.len_, run_underlying hu', goInt])
    · rename_i id ex
      split at hs <;> first | (cases hs; done) | skip
      rename_i es ho
      injection hs with hs
      injection hs with h1 h2
      rw [ex] at r
      cases r with
      | map hb =>
        rename_i b nn
        obtain ⟨l, clock, hl, hE⟩ := hr.obj id _ ho b nn hb
        have hgo : (getObj b).run P w = .ok (.map l clock) w := by simp [getObj, Sem.run, hl]
        obtain ⟨_, q, el, hu'⟩ := (hu.resolve_left (by rintro ⟨hh, _⟩; cases hh)).resolve_left (by rintro ⟨hh, _⟩; cases hh)
        have hlen : l.size = es.length := by have := hE.1; simpa using this
        exact fin _ h1.symm h2.symm (by simp [Builtin.len_, run_underlying hu', goInt, hgo, hlen])
  split at hc <;> first | (cases hc; done) | skip
  · rename_i hu
    obtain ⟨gx, e3, hi⟩ := map_some hc
    exact main e3 hi.symm (.inl ⟨rfl, hu⟩)
  · rename_i el hu
    obtain ⟨gx, e3, hi⟩ := map_some hc
    exact main e3 hi.symm (.inr (.inl ⟨rfl, el, hu⟩))
  · rename_i k el hu
    obtain ⟨gx, e3, hi⟩ := map_some hc
    exact main e3 hi.symm (.inr (.inr ⟨rfl, k, el, hu⟩))
  · rename_i k el hu
    injection hc with hc
    exact arr hc.symm (by simp [Builtin.len_, run_underlying hu, goInt])
  · rename_i el hu
    split at hc <;> first | (cases hc; done) | skip
    rename_i k el' hu'
    injection hc with hc
    exact arr hc.symm (by simp [Builtin.len_, run_underlying hu, run_underlying hu', goInt])
theorem mnV_run : ∀ {xs : List V} {vs : List Value} {x : V}, mnV xs = some x → Rvs B G w xs vs → ∃ u, (Builtin.min_ #[] 0 vs.toArray).run P w = .ok u w ∧ Rv B G w x u := by
  have key : ∀ (r : List V) (rv : List Value) (k : IntKind) (m : Int) {x : V}, mnV (.int k m :: r) = some x → Rvs B G w r rv → ∃ u, (rv.foldlM Builtin.min2 (.int k m)).run P w = .ok u w ∧ Rv B G w x u := by
    intro r
    induction r with
    | nil =>
      intro rv k m x hx hv
      have : rv = [] := by have := hv.1; simpa using this
      subst this
      simp [mnV] at hx; subst hx
      exact ⟨_, by simp, .int _ _⟩
    | cons y r ih =>
      intro rv k m x hx hv
      cases rv with
      | nil => have := hv.1; simp at this
      | cons u rv =>
        have r0 := hv.2 0 y u rfl rfl
        have hv' : Rvs B G w r rv := ⟨by have := hv.1; simpa using this, fun k p q hp hq => hv.2 (k + 1) p q hp hq⟩
        cases y <;> (try (simp [mnV] at hx; done))
        rename_i k' m'
        cases r0
        simp only [mnV] at hx
        obtain ⟨z, hz, hrz⟩ := ih rv k _ hx hv'
        exact ⟨z, by simp [List.foldlM_cons, Builtin.min2, hz], hrz⟩
  intro xs vs x hx hv
  cases xs with
  | nil => simp [mnV] at hx
  | cons y r =>
    cases vs with
    | nil => have := hv.1; simp at this
    | cons u rv =>
      have r0 := hv.2 0 y u rfl rfl
      have hv' : Rvs B G w r rv := ⟨by have := hv.1; simpa using this, fun k p q hp hq => hv.2 (k + 1) p q hp hq⟩
      cases y <;> (try (cases r <;> simp [mnV] at hx; done))
      cases r0
      obtain ⟨z, hz, hrz⟩ := key r rv _ _ hx hv'
      exact ⟨z, by simp [Builtin.min_, hz], hrz⟩
theorem mxV_run : ∀ {xs : List V} {vs : List Value} {x : V}, mxV xs = some x → Rvs B G w xs vs → ∃ u, (Builtin.max_ #[] 0 vs.toArray).run P w = .ok u w ∧ Rv B G w x u := by
  have key : ∀ (r : List V) (rv : List Value) (k : IntKind) (m : Int) {x : V}, mxV (.int k m :: r) = some x → Rvs B G w r rv → ∃ u, (rv.foldlM Builtin.max2 (.int k m)).run P w = .ok u w ∧ Rv B G w x u := by
    intro r
    induction r with
    | nil =>
      intro rv k m x hx hv
      have : rv = [] := by have := hv.1; simpa using this
      subst this
      simp [mxV] at hx; subst hx
      exact ⟨_, by simp, .int _ _⟩
    | cons y r ih =>
      intro rv k m x hx hv
      cases rv with
      | nil => have := hv.1; simp at this
      | cons u rv =>
        have r0 := hv.2 0 y u rfl rfl
        have hv' : Rvs B G w r rv := ⟨by have := hv.1; simpa using this, fun k p q hp hq => hv.2 (k + 1) p q hp hq⟩
        cases y <;> (try (simp [mxV] at hx; done))
        rename_i k' m'
        cases r0
        simp only [mxV] at hx
        obtain ⟨z, hz, hrz⟩ := ih rv k _ hx hv'
        exact ⟨z, by simp [List.foldlM_cons, Builtin.max2, hz], hrz⟩
  intro xs vs x hx hv
  cases xs with
  | nil => simp [mxV] at hx
  | cons y r =>
    cases vs with
    | nil => have := hv.1; simp at this
    | cons u rv =>
      have r0 := hv.2 0 y u rfl rfl
      have hv' : Rvs B G w r rv := ⟨by have := hv.1; simpa using this, fun k p q hp hq => hv.2 (k + 1) p q hp hq⟩
      cases y <;> (try (cases r <;> simp [mxV] at hx; done))
      cases r0
      obtain ⟨z, hz, hrz⟩ := key r rv _ _ hx hv'
      exact ⟨z, by simp [Builtin.max_, hz], hrz⟩
theorem o_min {c : Call} {i : Ins} (hop : o.op = .call c) (hb : c.callee = .builtin .min) (hc : insC P n o = some i) (hs : stepI i e h = some (v, h')) (he : EnvRel B G w n e a.tmps) (hr : Rel B G h w) : Outc P B G h w o a v h' := by
  simp only [insC, hop, callC, hb] at hc
  obtain ⟨gs, e1, rfl⟩ := map_some hc
  simp only [stepI] at hs
  obtain ⟨u, hu, h2⟩ := map_some hs
  injection h2 with h1 h2; subst h1; subst h2
  obtain ⟨z, hz, hrz⟩ := mnV_run (P := P) hu (argsC_rv he e1)
  obtain ⟨cs, hcs⟩ := run_bi (P := P) (w := w) (a := a) hop hb
  refine Outc.same hr (val := z) ?_ hrz
  have : Builtin.min_ c.argTypes o.type (c.args.map a.eval) = Builtin.min_ #[] 0 (c.args.toList.map a.eval).toArray := by
    simp [Builtin.min_]
  rw [hcs]
  simp [builtin, this, hz]
theorem o_max {c : Call} {i : Ins} (hop : o.op = .call c) (hb : c.callee = .builtin .max) (hc : insC P n o = some i) (hs : stepI i e h = some (v, h')) (he : EnvRel B G w n e a.tmps) (hr : Rel B G h w) : Outc P B G h w o a v h' := by
  simp only [insC, hop, callC, hb] at hc
  obtain ⟨gs, e1, rfl⟩ := map_some hc
  simp only [stepI] at hs
  obtain ⟨u, hu, h2⟩ := map_some hs
  injection h2 with h1 h2; subst h1; subst h2
  obtain ⟨z, hz, hrz⟩ := mxV_run (P := P) hu (argsC_rv he e1)
  obtain ⟨cs, hcs⟩ := run_bi (P := P) (w := w) (a := a) hop hb
  refine Outc.same hr (val := z) ?_ hrz
  have : Builtin.max_ c.argTypes o.type (c.args.map a.eval) = Builtin.max_ #[] 0 (c.args.toList.map a.eval).toArray := by
    simp [Builtin.max_]
  rw [hcs]
  simp [builtin, this, hz]
end
end Go.Vm
end
section
namespace Go.Vm
set_option linter.unusedVariables false
set_option linter.unusedSimpArgs false
section
variable {P : Program} {B : Nat} {G : Gh} {h h' : Heap} {w : World} {n : Nat} {e : Env} {a : Act} {o : Oper} {v : V}
theorem splice_get {α : Type} (cs xs : List α) (off : Nat) (hle : off + xs.length ≤ cs.length) (k : Nat) :
    (cs.take off ++ xs ++ cs.drop (off + xs.length))[k]? = if off ≤ k ∧ k < off + xs.length then xs[k - off]? else cs[k]? := by
  by_cases h1 : k < off
  · rw [if_neg (by omega), List.append_assoc, List.getElem?_append_left (by simp; omega), List.getElem?_take, if_pos h1]
  · by_cases h2 : k < off + xs.length
    · rw [if_pos ⟨by omega, h2⟩, List.append_assoc, List.getElem?_append_right (by simp; omega), List.getElem?_append_left (by simp; omega)]
      congr 1; simp; omega
    · rw [if_neg (by omega), List.getElem?_append_right (by simp; omega), List.getElem?_drop]
      congr 1; simp; omega
theorem splice_length {α : Type} (cs xs : List α) (off : Nat) (hle : off + xs.length ≤ cs.length) : (cs.take off ++ xs ++ cs.drop (off + xs.length)).length = cs.length := by
  simp; omega
/-- Stores into a row of cells. -/
theorem storeCells_run (P : Program) {b o : Nat} {T : TypeId} {fz : Nat × Nat} : ∀ (us : List Value) (i : Nat) (arr : Array Value) (w : World), w.heap[b]? = some (.cells arr T fz) →
    (∀ k, k < arr.size → ¬ (fz.1 ≤ k ∧ k < fz.2)) → o + i + us.length ≤ arr.size → (∀ u ∈ us, u.oneCell' = true) →
    ∃ w', (storeCells ⟨b, o, none⟩ us i).run P w = .ok () w' ∧ Sm w w' ∧ w'.heap.size = w.heap.size ∧ (∀ c, c ≠ b → w'.heap[c]? = w.heap[c]?) ∧
      ∃ arr', w'.heap[b]? = some (.cells arr' T fz) ∧ arr'.size = arr.size ∧ ∀ k, arr'[k]? = if o + i ≤ k ∧ k < o + i + us.length then us[k - (o + i)]? else arr[k]?
  | [], i, arr, w, hb, hf, hle, h1 => ⟨w, by simp [storeCells], .refl w, rfl, fun _ _ => rfl, arr, hb, rfl, fun k => by rw [if_neg (by simp only [List.length_nil]; omega)]⟩
  | u :: us, i, arr, w, hb, hf, hle, h1 => by
    have hlt : o + i < arr.size := by simp at hle; omega
    have hc : w.cell? ⟨b, o + i, none⟩ = some arr[o + i] := by simp [World.cell?, hb, hlt]
    have hfr : w.frozen? ⟨b, o + i, none⟩ = false := by
      have := hf (o + i) hlt
      simp only [World.frozen?, hb]
      rw [Bool.and_eq_false_iff]
      simp
      omega
    have hst : (store ⟨b, o + i, none⟩ u).run P w = .ok () (w.setCell ⟨b, o + i, none⟩ u) := by
      rw [run_store P w _ u .plain (h1 u (by simp)), hc]
      simp [hfr]
    have hb' : (w.setCell ⟨b, o + i, none⟩ u).heap[b]? = some (.cells (arr.setIfInBounds (o + i) u) T fz) := by
      simp [World.setCell, Array.getElem?_modify, hb]
    obtain ⟨w', h2, h3, h4, h5, arr', h6, h7, h8⟩ := storeCells_run P (o := o) us (i + 1) (arr.setIfInBounds (o + i) u) (w.setCell ⟨b, o + i, none⟩ u) hb'
      (by simpa using hf) (by simp at hle ⊢; omega) (fun x hx => h1 x (by simp [hx]))
    refine ⟨w', ?_, ⟨h3.os, h3.tape, h3.output⟩, by rw [h4]; simp [World.setCell], fun c hc => by rw [h5 c hc]; simp [World.setCell, Array.getElem?_modify, Ne.symm hc], arr', h6, by rw [h7]; simp, fun k => ?_⟩
    · simp only [storeCells, Sem.run_bind, add_at, hst, Result.andThen_ok]
      exact h2
    · rw [h8 k]
      by_cases hk : k = o + i
      · subst hk
        rw [if_neg (by omega), if_pos ⟨Nat.le_refl _, by simp⟩]
        simp [hlt]
      · rw [Array.getElem?_setIfInBounds_ne (Ne.symm hk)]
        by_cases hk2 : o + (i + 1) ≤ k ∧ k < o + (i + 1) + us.length
        · rw [if_pos hk2, if_pos ⟨by omega, by simp; omega⟩]
          rw [show k - (o + i) = (k - (o + (i + 1))) + 1 by omega]
          simp
        · rw [if_neg hk2, if_neg (by simp; omega)]
/-- A new box. -/
theorem outc_box {arr : Array Value} {T : TypeId} {cs : List V} (hr : Rel B G h w) (hx : (execOp a.eval o).run P w = .ok (.value (.pointer (some ⟨w.heap.size, 0, none⟩))) { w with heap := w.heap.push (.cells arr T) })
    (hv : Rvs B G w cs arr.toList) (h1 : ∀ c ∈ cs, oneC c) : Outc P B G h w o a (.ptr h.length 0) (h ++ [.box cs]) := by
  obtain ⟨hrel, hevo⟩ := push_blk (o := .box cs) (n := arr.size) hr (w' := { w with heap := w.heap.push (.cells arr T) }) ⟨rfl, rfl, rfl⟩ rfl (by
    intro hle b m hb
    have : (b, m) = (w.heap.size, arr.size) := by simpa [Gh.addBlk] using hb.symm
    injection this with e1 e2
    subst e1; subst e2
    refine ⟨arr, T, (0, 0), push_new rfl, rfl, .inl rfl, by have := hv.1; simp at this; omega, h1, fun k x hk => ?_⟩
    have hlt : k < arr.size := by have := (List.getElem?_eq_some_iff.1 hk).1; have := hv.1; simp at this; omega
    exact ⟨arr[k], by simp [hlt], (hv.2 k x arr[k] hk (by simp [hlt])).mono hle⟩)
  exact ⟨_, _, _, _, hx, .inl rfl, .ptr (n := arr.size) (by simp [Gh.addBlk]), hrel, hevo⟩
theorem o_alloc {t : TypeId} {i : Ins} (hop : o.op = .alloc t) (hc : insC P n o = some i) (hs : stepI i e h = some (v, h')) (he : EnvRel B G w n e a.tmps) (hr : Rel B G h w) : Outc P B G h w o a v h' := by
  simp only [insC, hop] at hc
  obtain ⟨cs, hz, rfl⟩ := map_some hc
  simp [stepI] at hs
  obtain ⟨rfl, rfl⟩ := hs
  obtain ⟨z, hzr, hzz⟩ := zeroT_run hz w
  refine outc_box hr (arr := z.cells) (T := t) ?_ (hzz B G w).1 (hzz B G w).2
  simp [execOp, hop, Instr.alloc, hzr, newVar, newRow]
theorem o_box {t : TypeId} {x : Operand} {i : Ins} (hop : o.op = .box t x) (hc : insC P n o = some i) (hs : stepI i e h = some (v, h')) (he : EnvRel B G w n e a.tmps) (hr : Rel B G h w) : Outc P B G h w o a v h' := by
  simp only [insC, hop] at hc
  obtain ⟨g, hg, rfl⟩ := map_some hc
  simp only [stepI] at hs
  split at hs <;> first | (cases hs; done) | skip
  rename_i hst
  injection hs with hs
  injection hs with h1 h2; subst h1; subst h2
  obtain ⟨hv, h1⟩ := cells_rv (argC_rv he hg) hst
  refine outc_box hr (arr := (a.eval x).cells) (T := t) ?_ hv h1
  simp [execOp, hop, Instr.box, newVar, newRow]
/-! ### Structs that are built -/
theorem fold_set (off : Nat) : ∀ (us : List Value) (i : Nat) (arr : Array Value), off + i + us.length ≤ arr.size →
    ((us.zipIdx i).foldl (fun cs (c, j) => cs.setIfInBounds (off + j) c) arr).size = arr.size ∧
    ∀ k, ((us.zipIdx i).foldl (fun cs (c, j) => cs.setIfInBounds (off + j) c) arr)[k]? = if off + i ≤ k ∧ k < off + i + us.length then us[k - (off + i)]? else arr[k]?
  | [], i, arr, _ => ⟨rfl, fun k => by rw [if_neg (by simp only [List.length_nil]; omega)]; rfl⟩
  | u :: us, i, arr, hle => by
    have ih := fold_set off us (i + 1) (arr.setIfInBounds (off + i) u) (by simp at hle ⊢; omega)
    simp only [List.zipIdx_cons, List.foldl_cons]
    refine ⟨by rw [ih.1]; simp, fun k => ?_⟩
    rw [ih.2 k]
    have hlt : off + i < arr.size := by simp at hle; omega
    by_cases hk : k = off + i
    · subst hk
      rw [if_neg (by omega), if_pos ⟨Nat.le_refl _, by simp⟩]
      simp [hlt]
    · rw [Array.getElem?_setIfInBounds_ne (Ne.symm hk)]
      by_cases hk2 : off + (i + 1) ≤ k ∧ k < off + (i + 1) + us.length
      · rw [if_pos hk2, if_pos ⟨by omega, by simp; omega⟩]
        rw [show k - (off + i) = (k - (off + (i + 1))) + 1 by omega]
        simp
      · rw [if_neg hk2, if_neg (by simp; omega)]
theorem rvs_splice {cs xs : List V} {vs us : List Value} {off : Nat} (hv : Rvs B G w cs vs) (hu : Rvs B G w xs us) (hle : off + xs.length ≤ cs.length) {out : List Value} (hl : out.length = vs.length)
    (ho : ∀ k, out[k]? = if off ≤ k ∧ k < off + us.length then us[k - off]? else vs[k]?) : Rvs B G w (splice cs off xs) out := by
  refine ⟨by rw [hl, hv.1]; exact (splice_length cs xs off hle).symm, fun k x u hx hu2 => ?_⟩
  unfold splice at hx
  rw [splice_get cs xs off hle] at hx
  rw [ho k, hu.1] at hu2
  split at hx <;> rename_i hk
  · rw [if_pos hk] at hu2
    exact hu.2 _ x u hx hu2
  · rw [if_neg hk] at hu2
    exact hv.2 k x u hx hu2
theorem splice_one {cs xs : List V} {off : Nat} (h1 : ∀ c ∈ cs, oneC c) (h2 : ∀ c ∈ xs, oneC c) : ∀ c ∈ splice cs off xs, oneC c := by
  intro c hc
  unfold splice at hc
  rcases List.mem_append.1 hc with hc | hc
  · rcases List.mem_append.1 hc with hc | hc
    · exact h1 c (List.mem_of_mem_take hc)
    · exact h2 c hc
  · exact h1 c (List.mem_of_mem_drop hc)
theorem fill_run {place place' : Nat → Option (Nat × Nat)} (he : EnvRel B G w n e a.tmps) : ∀ {pl : List (Nat × Operand)} {parts : List (Nat × Nat × Arg)} {cs cs' : List V} {arr : Array Value}, partsC n place pl = some parts → (∀ i p, place i = some p → place' i = some p) →
    fillC e cs parts = some cs' → Rvs B G w cs arr.toList → (∀ c ∈ cs, oneC c) →
    ∃ arr', Instr.fill place' arr (pl.map fun (i, x) => (i, a.eval x)) = some arr' ∧ Rvs B G w cs' arr'.toList ∧ ∀ c ∈ cs', oneC c
  | [], parts, cs, cs', arr, hp, hpl, hf, hv, h1 => by
    simp [partsC] at hp; subst hp
    simp [fillC] at hf; subst hf
    exact ⟨arr, rfl, hv, h1⟩
  | (i, x) :: pl, parts, cs, cs', arr, hp, hpl, hf, hv, h1 => by
    simp only [partsC] at hp
    split at hp <;> first | (cases hp; done) | skip
    rename_i off sz g ps e1 e2 e3
    injection hp with hp; subst hp
    simp only [fillC] at hf
    split at hf <;> first | (cases hf; done) | skip
    rename_i hcond
    obtain ⟨hc1, hc2, hc3⟩ := hcond
    obtain ⟨hu, h2⟩ := cells_rv (argC_rv he e2) hc3
    have hul : (a.eval x).cells.size = sz := by have := hu.1; simp at this; omega
    have hal : arr.size = cs.length := by have := hv.1; simpa using this
    have hfs := fold_set off (a.eval x).cells.toList 0 arr (by simp; omega)
    have hmid : Rvs B G w (splice cs off (cells (g.get e))) (((a.eval x).cells.toList.zipIdx 0).foldl (fun cs (c, j) => cs.setIfInBounds (off + j) c) arr).toList := by
      refine rvs_splice hv hu (by omega) (by simp [hfs.1]) (fun k => ?_)
      have := hfs.2 k
      simpa using this
    obtain ⟨arr', hf', hv', h1'⟩ := fill_run he (pl := pl) e3 hpl hf hmid (splice_one h1 h2)
    refine ⟨arr', ?_, hv', h1'⟩
    simp only [List.map_cons, Instr.fill, hpl i _ e1]
    rw [if_neg (by simp; omega)]
    rw [← Array.foldl_toList, Array.toList_zipIdx]
    exact hf'
theorem run_mapM_fields (P : Program) (w : World) : ∀ (fs : List Field), (∀ f ∈ fs, ∃ s, sizeT P f.type = some s) →
    (fs.mapM (m := Sem) fun f => do pure (f.offset, ← sizeOf f.type)).run P w = .ok (fs.map fun f => (f.offset, (sizeT P f.type).getD 0)) w
  | [], _ => by simp
  | f :: fs, hf => by
    obtain ⟨s, hs⟩ := hf f (by simp)
    have ih := run_mapM_fields P w fs (fun g hg => hf g (by simp [hg]))
    simp [List.mapM_cons, run_sizeT hs, hs] at ih ⊢
    rw [ih]; simp
theorem o_build {t : TypeId} {parts : Array (Nat × Operand)} {i : Ins} (hop : o.op = .build t parts) (hc : insC P n o = some i) (hs : stepI i e h = some (v, h')) (he : EnvRel B G w n e a.tmps) (hr : Rel B G h w) : Outc P B G h w o a v h' := by
  simp only [insC, hop] at hc
  split at hc <;> first | (cases hc; done) | skip
  rename_i zs hz
  obtain ⟨z, hzr, hzz⟩ := zeroT_run hz w
  split at hc <;> first | (cases hc; done) | skip
  · rename_i fs hu
    split at hc
    · cases hc
    rename_i hall
    obtain ⟨ps, hps, rfl⟩ := map_some hc
    simp only [stepI] at hs
    obtain ⟨cs, hcs, h2⟩ := map_some hs
    injection h2 with h1 h2; subst h1; subst h2
    have hsz : ∀ f ∈ fs.toList, ∃ s, sizeT P f.type = some s := by
      intro f hf
      have : (fs.toList.all fun f => (sizeT P f.type).isSome) = true := by
        rw [Bool.not_eq_true'] at hall
        exact Classical.byContradiction fun hne => hall (by simpa using hne)
      exact Option.isSome_iff_exists.1 (List.all_eq_true.1 this f hf)
    have hplaces := run_mapM_fields P w fs.toList hsz
    obtain ⟨arr', hf', hv', h1'⟩ := fill_run (place' := fun i => ((fs.toList.map fun f => (f.offset, (sizeT P f.type).getD 0)).toArray)[i]?) he (pl := parts.toList) hps (by
      intro k p hp
      cases ef : fs[k]? with
      | none => simp [ef] at hp
      | some f =>
        simp only [ef, Option.bind_some] at hp
        obtain ⟨s, hs1, hs2⟩ := map_some hp
        simp [ef, hs1, ← hs2]) hcs (hzz B G w).1 (hzz B G w).2
    refine Outc.same hr (val := .agg arr'.toList.toArray) ?_ (.agg hv'.1 h1' hv'.2)
    have hm : (fs.mapM (m := Sem) fun f => do pure (f.offset, ← sizeOf f.type)).run P w = .ok (fs.toList.map fun f => (f.offset, (sizeT P f.type).getD 0)).toArray w := by
      rw [Array.mapM_eq_mapM_toList]
      simp only [Sem.run_map, hplaces, Result.andThen_ok]
    have hparts : (parts.map fun (i, x) => (i, a.eval x)).toList = parts.toList.map fun (i, x) => (i, a.eval x) := by simp
    simp only [execOp, hop, Instr.build, Sem.run_bind, hzr, Result.andThen_ok, run_underlying hu, hm, hparts]
    rw [hf']
    simp
  · rename_i k el hu
    split at hc <;> first | (cases hc; done) | skip
    rename_i s hsz
    obtain ⟨ps, hps, rfl⟩ := map_some hc
    simp only [stepI] at hs
    obtain ⟨cs, hcs, h2⟩ := map_some hs
    injection h2 with h1 h2; subst h1; subst h2
    obtain ⟨arr', hf', hv', h1'⟩ := fill_run he (pl := parts.toList) hps (fun i p hp => hp) hcs (hzz B G w).1 (hzz B G w).2
    refine Outc.same hr (val := .agg arr'.toList.toArray) ?_ (.agg hv'.1 h1' hv'.2)
    have hparts : (parts.map fun (i, x) => (i, a.eval x)).toList = parts.toList.map fun (i, x) => (i, a.eval x) := by simp
    simp only [execOp, hop, Instr.build, Sem.run_bind, hzr, Result.andThen_ok, run_underlying hu, run_sizeT hsz, hparts]
    rw [hf']
    simp
end
end Go.Vm
end
section
namespace Go.Vm
set_option linter.unusedVariables false
set_option linter.unusedSimpArgs false
section
variable {P : Program} {B : Nat} {G : Gh} {h h' : Heap} {w : World} {n : Nat} {e : Env} {a : Act} {o : Oper} {v : V}
/-- A box whose block is written. -/
theorem row_write {b nn : Nat} {cs xs : List V} {off : Nat} {us : List Value} (hrow : Row B G w b nn cs) (hu : Rvs B G w xs us) (h2 : ∀ c ∈ xs, oneC c) (hle : off + xs.length ≤ cs.length) :
    ∃ w', (storeCells ⟨b, off, none⟩ us).run P w = .ok () w' ∧ Sm w w' ∧ w'.heap.size = w.heap.size ∧ (∀ c, c ≠ b → w'.heap[c]? = w.heap[c]?) ∧
      ∀ G' w'', w''.heap[b]? = w'.heap[b]? → Le B G w G' w'' → Row B G' w'' b nn (splice cs off xs) := by
  obtain ⟨arr, T, fz, h1, hsz, hfz, hlen, hone, hcell⟩ := hrow.out
  have ho : ∀ u ∈ us, u.oneCell' = true := by
    intro u hm
    obtain ⟨k, hk, rfl⟩ := List.mem_iff_getElem.1 hm
    have hk' : k < xs.length := by rw [← hu.1]; exact hk
    exact one_of_rv (hu.2 k _ _ (List.getElem?_eq_getElem hk') (List.getElem?_eq_getElem hk)) (h2 _ (List.getElem_mem hk'))
  obtain ⟨w', hr1, hr2, hr3, hr4, arr', hr5, hr6, hr7⟩ := storeCells_run P (o := off) us 0 arr w h1 (by rw [hsz]; intro k hk; omega) (by rw [hu.1]; omega) ho
  refine ⟨w', hr1, hr2, hr3, hr4, fun G' w'' hb hle' => ⟨arr', T, fz, hb.trans hr5, hr6.trans hsz, hfz, ?_, splice_one hone h2, fun k x hx => ?_⟩⟩
  · rw [show (splice cs off xs).length = cs.length from splice_length cs xs off hle]; exact hlen
  · unfold splice at hx
    rw [splice_get cs xs off hle] at hx
    have h7 := hr7 k
    rw [Nat.add_zero, hu.1] at h7
    split at hx <;> rename_i hk
    · rw [if_pos hk] at h7
      have hkk : k - off < us.length := by rw [hu.1]; omega
      exact ⟨us[k - off], by rw [h7]; exact List.getElem?_eq_getElem hkk, (hu.2 _ x _ hx (List.getElem?_eq_getElem hkk)).mono hle'⟩
    · rw [if_neg hk] at h7
      obtain ⟨z, hz, hrz⟩ := hcell k x hx
      exact ⟨z, by rw [h7]; exact hz, hrz.mono hle'⟩
theorem o_store {t : TypeId} {x y : Operand} {i : Ins} (hop : o.op = .store t x y) (hc : insC P n o = some i) (hs : stepI i e h = some (v, h')) (he : EnvRel B G w n e a.tmps) (hr : Rel B G h w) : Outc P B G h w o a v h' := by
  simp only [insC, hop] at hc
  split at hc <;> first | (cases hc; done) | skip
  rename_i s ga gx e1 e2 e3
  injection hc with hc; subst hc
  have r1 := argC_rv he e2
  have r2 := argC_rv he e3
  simp only [stepI, storeV] at hs
  split at hs <;> first | (cases hs; done) | skip
  rename_i id off ea
  split at hs <;> first | (cases hs; done) | skip
  rename_i cs ho
  split at hs <;> first | (cases hs; done) | skip
  rename_i hcond
  obtain ⟨hc1, hc2, hc3⟩ := hcond
  injection hs with hs
  injection hs with h1 h2; subst h1; subst h2
  obtain ⟨hu, h2⟩ := cells_rv r2 hc3
  rw [ea] at r1
  generalize hx : a.eval x = q at r1
  cases r1 with
  | ptr hb =>
    rename_i b nn
    have hrow := hr.obj id _ ho b nn hb
    obtain ⟨w', hr1, hsm, hr3, hr4, hr5⟩ := row_write (P := P) (off := off) hrow hu h2 (by omega)
    obtain ⟨hrel, hevo⟩ := set_blk (o := .box (splice cs off (cells (gx.get e)))) hr hsm hb (.inl ⟨cs, ho⟩) hr3 hr4 (by
      intro hle b' n' hb'
      have : (b', n') = (b, nn) := Option.some.inj (hb'.symm.trans hb)
      injection this with e1 e2
      subst e1; subst e2
      exact hr5 G w' rfl hle)
    refine ⟨_, w', G, undef, ?_, .inr ⟨rfl, rfl⟩, rv_undef, hrel, hevo⟩
    have hsz : (a.eval y).cells.size = s := by have := hu.1; simp at this; omega
    simp [execOp, hop, Instr.storeAt, hx, Instr.sureAddr, storeVar, run_sizeT e1, hsz, hr1]
/-! ### Maps -/
theorem o_makeMap {t : TypeId} {rs : Option Operand} {i : Ins} (hop : o.op = .makeMap t rs) (hc : insC P n o = some i) (hs : stepI i e h = some (v, h')) (he : EnvRel B G w n e a.tmps) (hr : Rel B G h w) : Outc P B G h w o a v h' := by
  cases rs with
  | some x => simp [insC, hop] at hc
  | none =>
    simp [insC, hop] at hc
    subst hc
    simp [stepI] at hs
    obtain ⟨rfl, rfl⟩ := hs
    obtain ⟨hrel, hevo⟩ := push_blk (o := .map []) (n := 0) hr (w' := { w with heap := w.heap.push (.map #[] 0) }) ⟨rfl, rfl, rfl⟩ rfl (by
      intro hle b m hb
      have : (b, m) = (w.heap.size, 0) := by simpa [Gh.addBlk] using hb.symm
      injection this with e1 e2
      subst e1; subst e2
      exact ⟨#[], 0, push_new rfl, rfl, fun k x q hx => by simp at hx⟩)
    refine ⟨_, _, _, _, ?_, .inl rfl, .map (n := 0) (b := w.heap.size) (by simp [Gh.addBlk]), hrel, hevo⟩
    simp [execOp, hop, Instr.makeMap]
theorem same_bits {c : LK} {k k' : V} {u u' : Value} (hk : eqLeaf c k k' = some true) (h1 : Rv B G w k u) (h2 : Rv B G w k' u') (d : Nat) (hc : c = .i ∨ c = .s) : Instr.sameBits d u' u = true := by
  unfold eqLeaf at hk
  split at hk <;> first | (cases hk; done) | skip
  · rcases hc with hc | hc <;> cases hc
  · split at hk <;> first | (cases hk; done) | skip
    rename_i hkk
    subst hkk
    cases h1; cases h2
    simp at hk; subst hk
    cases d <;> simp [Instr.sameBits, beq_toListBytes]
  · cases h1; cases h2
    simp at hk; subst hk
    cases d <;> simp [Instr.sameBits, beq_toListBytes]
theorem o_mapset {t : TypeId} {m k x : Operand} {i : Ins} (hop : o.op = .mapUpdate t m k x ∨ o.op = .insert t m k x) (hc : insC P n o = some i) (hs : stepI i e h = some (v, h')) (he : EnvRel B G w n e a.tmps) (hr : Rel B G h w) : Outc P B G h w o a v h' := by
  have hc' : (match P.underlying t with
    | some (.map kt _) => match P.underlying kt, argC n m, argC n k, argC n x with
      | some .string, some m, some k, some v => some (Ins.mapset .s m k v)
      | some (.int _), some m, some k, some v => some (Ins.mapset .i m k v)
      | _, _, _, _ => none
    | _ => none) = some i := by rcases hop with hop | hop <;> (simp only [insC, hop] at hc; exact hc)
  clear hc
  split at hc' <;> first | (cases hc'; done) | skip
  rename_i kt el hu
  have hex : (execOp a.eval o).run P w = ((Instr.mapUpdate t (a.eval m) (a.eval k) (a.eval x)).run P w).andThen fun _ w' => .ok .skip w' := by
    rcases hop with hop | hop <;> simp [execOp, hop]
  have main : ∀ {c : LK} {gm gk gx : Arg}, ((c = .i ∧ ∃ kk, P.underlying kt = some (.int kk)) ∨ (c = .s ∧ P.underlying kt = some .string)) → argC n m = some gm → argC n k = some gk → argC n x = some gx →
      i = .mapset c gm gk gx → Outc P B G h w o a v h' := by
    intro c gm gk gx hk e1 e2 e3 hi
    subst hi
    have r1 := argC_rv he e1
    have r2 := argC_rv he e2
    have r3 := argC_rv he e3
    generalize a.eval m = qm at r1 hex
    generalize a.eval k = qk at r2 hex
    generalize a.eval x = qx at r3 hex
    have und : ∃ kind, P.underlying kt = some kind ∧ ((c = .i ∧ ∃ kk, kind = .int kk) ∨ (c = .s ∧ kind = .string)) := by
      rcases hk with ⟨rfl, kk, hu'⟩ | ⟨rfl, hu'⟩
      · exact ⟨_, hu', .inl ⟨rfl, kk, rfl⟩⟩
      · exact ⟨_, hu', .inr ⟨rfl, rfl⟩⟩
    obtain ⟨kind, hkind, hkc⟩ := und
    have ck : ∀ b, (Instr.checkKey b 10000 kt qk).run P w = .ok () w := fun b => checkKey_run (es := []) (i := 0) (r := none) hk r2 b 9999
    simp only [stepI] at hs
    split at hs
    · cases hs
    split at hs <;> first | (cases hs; done) | skip
    rename_i id em
    split at hs <;> first | (cases hs; done) | skip
    rename_i es ho
    obtain ⟨es', hes, h2⟩ := map_some hs
    injection h2 with h1 h2; subst h1; subst h2
    rw [em] at r1
    cases r1 with
    | map hb =>
      rename_i b nn
      obtain ⟨l, clock, hl, hE⟩ := hr.obj id _ ho b nn hb
      have hgo : (getObj b).run P w = .ok (.map l clock) w := by simp [getObj, Sem.run, hl]
      have hblt := (hr.wf.blk id _ hb).2.1
      obtain ⟨r, hf, hes2⟩ := map_some hes
      obtain ⟨r', hr1, hr2⟩ := findNow_run hkc r2 hE hf
      have fin : ∀ (l' : Array MapEntry) (c' : Nat), (Instr.mapUpdate t (.map (some b)) qk qx).run P w = .ok () { w with heap := w.heap.setIfInBounds b (.map l' c') } → (∀ G' w', Le B G w G' w' → Ents B G' w' es' l'.toList) → Outc P B G h w o a (.tup []) (h.set id (.map es')) := by
        intro l' c' hrun hents
        obtain ⟨hrel, hevo⟩ := set_blk (o := .map es') hr (w' := { w with heap := w.heap.setIfInBounds b (.map l' c') }) ⟨rfl, rfl, rfl⟩ hb (.inr ⟨es, ho⟩) (by simp) (fun c hc => by simp [Array.getElem?_setIfInBounds_ne (Ne.symm hc)]) (by
          intro hle b' n' hb'
          have : (b', n') = (b, nn) := Option.some.inj (hb'.symm.trans hb)
          injection this with e1 e2
          subst e1; subst e2
          exact ⟨l', c', by simp at hblt; simp [hblt], hents _ _ hle⟩)
        exact ⟨_, _, G, undef, by rw [hex, hrun]; rfl, .inr ⟨rfl, rfl⟩, rv_undef, hrel, hevo⟩
      have hset : ∀ ob, (setObj b ob).run P w = .ok () { w with heap := w.heap.setIfInBounds b ob } := fun ob => by simp [setObj, Sem.run, hl]
      cases r with
      | none =>
        cases r' with
        | some q => exact hr2.elim
        | none =>
          simp at hes2; subst hes2
          refine fin (l.push { key := qk, val := qx, born := clock }) (clock + 1) ?_ ?_
          · simp [Instr.mapUpdate, run_underlying hu, hgo, ck, Instr.findKey, run_underlying hkind, hr1, hset]
          · intro G' w' hle
            refine ⟨by have := hE.1; simp at this ⊢; exact this, fun j p q hp hq => ?_⟩
            simp only [Array.toList_push] at hq
            by_cases hj : j < es.length
            · rw [List.getElem?_append_left hj] at hp
              rw [List.getElem?_append_left (by rw [hE.1]; exact hj)] at hq
              exact ⟨((hE.2 j p q hp hq).1).mono hle, ((hE.2 j p q hp hq).2).mono hle⟩
            · rw [List.getElem?_append_right (by omega)] at hp
              rw [List.getElem?_append_right (by rw [hE.1]; omega), hE.1] at hq
              have hj0 : j - es.length = 0 := by have := (List.getElem?_eq_some_iff.1 hp).1; simp at this; omega
              rw [hj0] at hp hq
              simp at hp hq
              subst hp; subst hq
              exact ⟨r2.mono hle, r3.mono hle⟩
      | some p =>
        cases r' with
        | none => exact hr2.elim
        | some q =>
          obtain ⟨p1, p2⟩ := p
          obtain ⟨q1, q2⟩ := q
          obtain ⟨hpq, _, _, pe, hpe, _, heq⟩ := hr2
          have hpq' : p1 = q1 := hpq
          subst hpq'
          simp at hes2; subst hes2
          have hjl : p1 < l.size := by
            have := (List.getElem?_eq_some_iff.1 hpe).1
            have h3 := hE.1
            simp at this h3; omega
          have hold : Rv B G w pe.1 (l[p1].key) := by
            have := (List.getElem?_eq_some_iff.1 hpe).1
            exact (hE.2 p1 pe l[p1] (by simpa using hpe) (by simp [hjl])).1
          have hsb := same_bits heq r2 hold 10000 (by rcases hk with ⟨rfl, _⟩ | ⟨rfl, _⟩ <;> simp)
          refine fin (l.modify p1 fun e => { e with key := qk, val := qx }) clock ?_ ?_
          · simp [Instr.mapUpdate, run_underlying hu, hgo, ck, Instr.findKey, run_underlying hkind, hr1, hjl, Instr.keyThatStays, hsb, hset]
          · intro G' w' hle
            refine ⟨by have := hE.1; simp at this ⊢; exact this, fun j pp qq hp hq => ?_⟩
            rw [List.getElem?_set] at hp
            simp only [Array.getElem?_toList, Array.getElem?_modify] at hq
            by_cases hj : p1 = j
            · subst hj
              rw [if_pos rfl] at hp hq
              split at hp <;> first | (cases hp; done) | skip
              injection hp with hp
              subst hp
              simp [hjl] at hq
              subst hq
              exact ⟨r2.mono hle, r3.mono hle⟩
            · rw [if_neg hj] at hp hq
              have hq' : l.toList[j]? = some qq := by simpa using hq
              exact ⟨((hE.2 j pp qq hp hq').1).mono hle, ((hE.2 j pp qq hp hq').2).mono hle⟩
  split at hc' <;> first | (cases hc'; done) | skip
  · rename_i hu' e1 e2 e3
    injection hc' with hc'
    exact main (.inr ⟨rfl, hu'⟩) e1 e2 e3 hc'.symm
  · rename_i hu' e1 e2 e3
    injection hc' with hc'
    exact main (.inl ⟨rfl, _, hu'⟩) e1 e2 e3 hc'.symm
theorem o_clear {c : Call} {i : Ins} (hop : o.op = .call c) (hb : c.callee = .builtin .clear) (hc : insC P n o = some i) (hs : stepI i e h = some (v, h')) (he : EnvRel B G w n e a.tmps) (hr : Rel B G h w) : Outc P B G h w o a v h' := by
  simp only [insC, hop, callC, hb] at hc
  split at hc <;> first | (cases hc; done) | skip
  all_goals (first | contradiction | skip)
  rename_i x t hbb e1 e2
  have ha := toList_one e1
  have ht := toList_one e2
  split at hc <;> first | (cases hc; done) | skip
  rename_i k el hu
  obtain ⟨gx, e3, rfl⟩ := map_some hc
  have r := argC_rv he e3
  obtain ⟨cs, hcs⟩ := run_bi (P := P) (w := w) (a := a) hop hb
  rw [ha, ht] at hcs
  simp only [stepI] at hs
  rw [show (#[x].map a.eval) = #[a.eval x] from by simp] at hcs
  generalize a.eval x = q at r hcs
  split at hs <;> first | (cases hs; done) | skip
  · rename_i ex
    injection hs with hs
    injection hs with h1 h2; subst h1; subst h2
    rw [ex] at r
    cases r
    refine Outc.same hr (val := undef) ?_ rv_undef
    rw [hcs]; simp [builtin, Builtin.clear_, run_underlying hu, undef]
  · rename_i id ex
    split at hs <;> first | (cases hs; done) | skip
    rename_i es ho
    injection hs with hs
    injection hs with h1 h2; subst h1; subst h2
    rw [ex] at r
    cases r with
    | map hb' =>
      rename_i b nn
      obtain ⟨l, clock, hl, hE⟩ := hr.obj id _ ho b nn hb'
      have hgo : (getObj b).run P w = .ok (.map l clock) w := by simp [getObj, Sem.run, hl]
      have hblt := (hr.wf.blk id _ hb').2.1
      have hset : ∀ ob, (setObj b ob).run P w = .ok () { w with heap := w.heap.setIfInBounds b ob } := fun ob => by simp [setObj, Sem.run, hl]
      obtain ⟨hrel, hevo⟩ := set_blk (o := .map []) hr (w' := { w with heap := w.heap.setIfInBounds b (.map #[] clock) }) ⟨rfl, rfl, rfl⟩ hb' (.inr ⟨es, ho⟩) (by simp) (fun c hc => by simp [Array.getElem?_setIfInBounds_ne (Ne.symm hc)]) (by
        intro hle b' n' hb2
        have : (b', n') = (b, nn) := Option.some.inj (hb2.symm.trans hb')
        injection this with e1 e2
        subst e1; subst e2
        exact ⟨#[], clock, by simp at hblt; simp [hblt], rfl, fun k x q hx => by simp at hx⟩)
      refine ⟨_, _, G, undef, ?_, .inl rfl, rv_undef, hrel, hevo⟩
      rw [hcs]; simp [builtin, Builtin.clear_, run_underlying hu, undef, hgo, hset]
end
end Go.Vm
end
section
namespace Go.Vm
set_option linter.unusedVariables false
set_option linter.unusedSimpArgs false
section
variable {P : Program} {B : Nat} {G : Gh} {h h' : Heap} {w : World} {n : Nat} {e : Env} {a : Act} {o : Oper} {v : V}
/-- A new slice, without spare places, of a new row of cells. -/
theorem outc_row {arr : Array Value} {T : TypeId} {sz : Nat} {es : List V} (hr : Rel B G h w) (hx : (execOp a.eval o).run P w = .ok (.value (.slice (some ⟨w.heap.size, 0, none⟩) es.length es.length)) { w with heap := w.heap.push (.cells arr T) })
    (hsz : ∀ x ∈ es, (cells x).length = sz) (hv : Rvs B G w (flat es) arr.toList) (h1 : ∀ c ∈ flat es, oneC c) : Outc P B G h w o a (.sl sz .full es) h := by
  obtain ⟨hrel, hevo⟩ := push_lim (n := arr.size) hr (w' := { w with heap := w.heap.push (.cells arr T) }) ⟨rfl, rfl, rfl⟩ rfl
  have hal : arr.size = (flat es).length := by have := hv.1; simpa using this
  refine ⟨_, _, _, _, hx, .inl rfl, .sl (fun k => arr.toList.getD k undef) hsz (fun _ => rfl) (Nat.le_refl _) (fun k hk => ?_) h1 (fun k x hk => ?_) (fun _ => rfl) (fun id hid => by cases hid), hrel, hevo⟩
  · have hlt : k < arr.size := by omega
    refine ⟨.inr ⟨arr.size, by simp [Gh.addLim], by show 0 + k < _; omega⟩, ?_⟩
    have := push_new (w := w) (w' := { w with heap := w.heap.push (.cells arr T) }) (ob := .cells arr T) rfl
    simp only [at?, World.cell?, this]
    simp [hlt]
  · have hlt : k < arr.toList.length := by have := (List.getElem?_eq_some_iff.1 hk).1; simp; omega
    have := (hv.2 k x arr.toList[k] hk (List.getElem?_eq_getElem hlt)).mono hevo.le
    rw [List.getD_eq_getElem?_getD, List.getElem?_eq_getElem hlt]
    exact this
/-- A new box of cells. -/
theorem outc_rowb {arr : Array Value} {T : TypeId} {es : List V} (hr : Rel B G h w) (hx : (execOp a.eval o).run P w = .ok (.value (.slice (some ⟨w.heap.size, 0, none⟩) es.length es.length)) { w with heap := w.heap.push (.cells arr T) })
    (hsz : ∀ x ∈ es, (cells x).length = 1) (hv : Rvs B G w (flat es) arr.toList) (h1 : ∀ c ∈ flat es, oneC c) : Outc P B G h w o a (.hsl 1 h.length es.length) (h ++ [.box (flat es)]) := by
  have hal : arr.size = (flat es).length := by have := hv.1; simpa using this
  have hfl := flat_length hsz
  obtain ⟨hrel, hevo⟩ := push_blk (o := .box (flat es)) (n := arr.size) hr (w' := { w with heap := w.heap.push (.cells arr T) }) (ob := .cells arr T) ⟨rfl, rfl, rfl⟩ rfl (by
    intro hle b k hb
    have : (b, k) = (w.heap.size, arr.size) := by simpa [Gh.addBlk] using hb.symm
    injection this with e1 e2
    subst e1; subst e2
    refine ⟨arr, T, (0, 0), push_new rfl, rfl, .inl rfl, by omega, h1, fun k x hk => ?_⟩
    have hlt : k < arr.size := by have := (List.getElem?_eq_some_iff.1 hk).1; omega
    exact ⟨arr[k], by simp [hlt], (hv.2 k x arr[k] hk (by simp only [Array.getElem?_toList]; exact Array.getElem?_eq_getElem hlt)).mono hle⟩)
  exact ⟨_, _, _, _, hx, .inl rfl, .hsl (n := arr.size) (b := w.heap.size) (by simp [Gh.addBlk]) (Nat.le_refl _) (by omega), hrel, hevo⟩
def mkParts (s : Nat) : Nat → List Arg → List (Nat × Nat × Arg)
  | _, [] => []
  | i, g :: r => (i * s, s, g) :: mkParts s (i + 1) r
theorem seqParts_mk {s : Nat} : ∀ {pl : List (Nat × Operand)} {i : Nat} {gs : List Arg}, seqParts n i pl = some gs → partsC n (fun k => some (k * s, s)) pl = some (mkParts s i gs)
  | [], i, gs, hs => by simp [seqParts] at hs; subst hs; rfl
  | (j, x) :: pl, i, gs, hs => by
    simp only [seqParts] at hs
    split at hs <;> first | (cases hs; done) | skip
    rename_i hij
    subst hij
    split at hs <;> first | (cases hs; done) | skip
    rename_i g gs' e1 e2
    injection hs with hs; subst hs
    simp only [partsC, e1, seqParts_mk e2, mkParts]
theorem fillC_seq {s : Nat} : ∀ (gs : List Arg) (i : Nat) (done rest : List V), done.length = i * s → rest.length = gs.length * s → (∀ g ∈ gs, (cells (g.get e)).length = s ∧ stor (g.get e) = true) →
    fillC e (done ++ rest) (mkParts s i gs) = some (done ++ flat (gs.map (·.get e)))
  | [], i, done, rest, hd, hr, _ => by
    have : rest = [] := by simpa using hr
    subst this
    simp [mkParts, fillC, flat]
  | g :: gs, i, done, rest, hd, hr, hg => by
    obtain ⟨h1, h2⟩ := hg g (by simp)
    have hrl : rest.length = s + gs.length * s := by rw [hr]; simp [Nat.succ_mul]; omega
    simp only [mkParts, fillC]
    rw [if_pos ⟨h1, by simp; omega, h2⟩]
    have hsp : splice (done ++ rest) (i * s) (cells (g.get e)) = (done ++ cells (g.get e)) ++ rest.drop s := by
      unfold splice
      rw [h1, ← hd, List.take_left', List.drop_append, List.drop_eq_nil_of_le (by omega)]
      · simp
      · rfl
    rw [hsp, fillC_seq gs (i + 1) (done ++ cells (g.get e)) (rest.drop s) (by simp [hd, h1, Nat.succ_mul]) (by simp; omega) (fun x hx => hg x (by simp [hx]))]
    simp [flat]
/-- Zero cells, over and over. -/
theorem zrow {zs : List V} {z : Array Value} {s c : Nat} (hz : Rvs B G w zs z.toList) (hl : zs.length = s) (hs : 0 < s) :
    Rvs B G w ((List.replicate c zs).flatten) ((Array.range (c * s)).map (z[· % z.size]!)).toList := by
  have hzs : z.size = s := by have := hz.1; simp at this; omega
  have hlen : ∀ c, ((List.replicate c zs).flatten).length = c * s := by intro c; simp [List.length_flatten, hl]
  have hget : ∀ c k, k < c * s → ((List.replicate c zs).flatten)[k]? = zs[k % s]? := by
    intro c
    induction c with
    | zero => intro k hk; simp at hk
    | succ c ih =>
      intro k hk
      rw [List.replicate_succ, List.flatten_cons]
      by_cases hks : k < s
      · rw [List.getElem?_append_left (by omega), Nat.mod_eq_of_lt hks]
      · rw [List.getElem?_append_right (by omega), hl, ih (k - s) (by rw [Nat.succ_mul] at hk; omega)]
        congr 1
        rw [Nat.mod_eq_sub_mod (by omega : k ≥ s)]
  refine ⟨by rw [hlen]; simp, fun k x u hx hu => ?_⟩
  have hk : k < c * s := by have := (List.getElem?_eq_some_iff.1 hx).1; rw [hlen] at this; exact this
  rw [hget c k hk] at hx
  have hm : k % s < z.size := by rw [hzs]; exact Nat.mod_lt _ hs
  have hu2 : u = z[k % s]'hm := by
    simp [hk, hzs] at hu
    rw [← hu, getElem!_pos z (k % s) hm]
  subst hu2
  exact hz.2 _ x _ hx (by simp [hm])
theorem o_buildSlice {t : TypeId} {len : Nat} {parts : Array (Nat × Operand)} {i : Ins} (hop : o.op = .buildSlice t len parts) (hc : insC P n o = some i) (hs : stepI i e h = some (v, h')) (he : EnvRel B G w n e a.tmps) (hr : Rel B G h w) : Outc P B G h w o a v h' := by
  simp only [insC, hop] at hc
  split at hc <;> first | (cases hc; done) | skip
  rename_i el hu
  split at hc <;> first | (cases hc; done) | skip
  rename_i s zs gs e1 e2 e3
  split at hc <;> first | (cases hc; done) | skip
  rename_i hcond
  obtain ⟨hs0, hlen, hbig, hzl⟩ := hcond
  have hq : i = .bsl s gs ∨ (s = 1 ∧ i = .bslb gs) := by
    by_cases hh : s = 1 ∧ 8 ≤ len ∧ u8T P el = true
    · rw [if_pos hh] at hc; injection hc with hc; exact .inr ⟨hh.1, hc.symm⟩
    · rw [if_neg hh] at hc; injection hc with hc; exact .inl hc.symm
  clear hc
  have hs2 : (gs.all fun p => decide ((cells (p.get e)).length = s) && stor (p.get e)) = true ∧ ((v = .sl s .full (gs.map (·.get e)) ∧ h' = h) ∨ (s = 1 ∧ v = .hsl 1 h.length gs.length ∧ h' = h ++ [.box (flat (gs.map (·.get e)))])) := by
    rcases hq with rfl | ⟨rfl, rfl⟩ <;> simp only [stepI] at hs <;> split at hs <;> first | (cases hs; done) | skip
    · rename_i hall; injection hs with hs; injection hs with h1 h2; exact ⟨hall, .inl ⟨h1.symm, h2.symm⟩⟩
    · rename_i hall; injection hs with hs; injection hs with h1 h2; exact ⟨hall, .inr ⟨rfl, h1.symm, h2.symm⟩⟩
  obtain ⟨hall, hvv⟩ := hs2
  clear hs hq
  have hg : ∀ g ∈ gs, (cells (g.get e)).length = s ∧ stor (g.get e) = true := by
    intro g hm
    have := List.all_eq_true.1 hall g hm
    simpa using this
  obtain ⟨z, hzr, hzz⟩ := zeroT_run e2 w
  have hz := (hzz B G w).1
  have hz1 := (hzz B G w).2
  have hseq := fillC_seq (e := e) gs 0 [] ((List.replicate len zs).flatten) (by simp) (by simp [List.length_flatten, hzl, hlen]) hg
  simp only [List.nil_append] at hseq
  obtain ⟨arr', hf', hv', h1'⟩ := fill_run he (pl := parts.toList) (place' := fun k => some (k * s, s)) (seqParts_mk (s := s) e3) (fun i p hp => hp) hseq (zrow (c := len) hz hzl hs0) (by
    intro c hc
    obtain ⟨l, hl, hcl⟩ := List.mem_flatten.1 hc
    rw [(List.mem_replicate.1 hl).2] at hcl
    exact hz1 c hcl)
  have hmem : ∀ x ∈ gs.map (·.get e), (cells x).length = s := by
    intro x hx
    obtain ⟨g, hg', rfl⟩ := List.mem_map.1 hx
    exact (hg g hg').1
  have hlen' : (gs.map (·.get e)).length = len := by simpa using hlen
  suffices hexec : (execOp a.eval o).run P w = .ok (.value (.slice (some ⟨w.heap.size, 0, none⟩) (gs.map (·.get e)).length (gs.map (·.get e)).length)) { w with heap := w.heap.push (.cells arr' el) } by
    rcases hvv with ⟨rfl, rfl⟩ | ⟨rfl, rfl, rfl⟩
    · exact outc_row hr (arr := arr') (T := el) hexec hmem hv' h1'
    · have := outc_rowb hr (arr := arr') (T := el) hexec hmem hv' h1'
      rwa [List.length_map] at this
  rw [hlen']
  have hparts : (parts.map fun (i, x) => (i, a.eval x)).toList = parts.toList.map fun (i, x) => (i, a.eval x) := by simp
  simp only [execOp, hop, Instr.buildSlice, Sem.run_bind, run_underlying hu, Result.andThen_ok, run_sizeT e1, hparts]
  rw [if_neg (by omega)]
  by_cases hl0 : len * s = 0
  · have hl00 : len = 0 := by rcases Nat.mul_eq_zero.1 hl0 with h | h; exact h; omega
    subst hl00
    have hg0 : gs = [] := by simpa using hlen
    subst hg0
    simp [flat] at hv'
    have harr : arr' = #[] := by have := hv'.1; simpa using this
    subst harr
    have hp0 : parts.toList = [] := by
      cases hp : parts.toList with
      | nil => rfl
      | cons p r =>
        obtain ⟨j, x⟩ := p
        rw [hp] at e3
        simp only [seqParts] at e3
        split at e3 <;> first | (cases e3; done) | skip
        split at e3 <;> first | (cases e3; done) | skip
    rw [if_pos hl0]
    simp [hp0, Instr.fill, newRow, _root_.Go.Array.range_zero']
  · rw [if_neg hl0]
    simp only [Sem.run_bind, hzr, Result.andThen_ok, Sem.run_pure]
    rw [hf']
    simp [newRow]
/-! ### Bytes of a text, a text of bytes -/
theorem o_toBytes {t u : TypeId} {x : Operand} {g : Arg} (hop : o.op = .convert t u x) (hc : insC P n o = some (.toBytes g)) (hs : stepI (.toBytes g) e h = some (v, h')) (he : EnvRel B G w n e a.tmps) (hr : Rel B G h w) : Outc P B G h w o a v h' := by
  simp only [insC, hop] at hc
  split at hc <;> first | (cases hc; done) | skip
  case h_5 => split at hc <;> first | (cases hc; done) | (split at hc <;> cases hc)
  · split at hc <;> cases hc
  rename_i el gx e1 e2 e3
  split at hc <;> first | (cases hc; done) | skip
  rename_i hel
  injection hc with hc
  injection hc with hc; subst hc
  have r := argC_rv he e3
  simp only [stepI] at hs
  split at hs <;> first | (cases hs; done) | skip
  rename_i s es
  injection hs with hs
  injection hs with h1 h2; subst h1; subst h2
  rw [es] at r
  generalize hx : a.eval x = q at r
  cases r
  -- what is drawn
  obtain ⟨cap, hcap, hch⟩ : ∃ cap, s.length ≤ cap ∧ (choose (.appendCap s.length 0 el)).run P w = .ok cap { w with drawn := w.drawn + 1 } := by
    refine ⟨s.length + w.tape w.drawn (.appendCap s.length 0 el) % (2 ^ 63 - s.length), by omega, ?_⟩
    simp [Question.forced, Question.cut]
  have hsz : (⟨s.toArray⟩ : ByteArray).size = s.length := by simp [ByteArray.size]
  let arr : Array Value := (s.map fun b => Value.int .u8 b.toNat).toArray ++ Array.replicate (cap - s.length) (.int .u8 0)
  have harr : arr.size = cap := by simp [arr]; omega
  let w1 : World := { w with drawn := w.drawn + 1, heap := w.heap.push (.cells arr el (cap, cap + 1)) }
  have hrun : (execOp a.eval o).run P w = .ok (.value (.slice (some ⟨w.heap.size, 0, none⟩) s.length cap)) w1 := by
    have hel2 : (Array.map (fun (b : UInt8) => Value.int IntKind.u8 b.toNat) s.toArray ++ Array.replicate (cap - s.length) (Value.int .u8 0)) = arr := by simp [arr]
    simp only [execOp, hop, Sem.run_bind, hx, convert, run_underlying e1, run_underlying e2, run_underlying hel, Result.andThen_ok, Conv.stringToBytes, hsz, hch, newRow, markStringish, run_newObj, hel2]
    have hshape : World.shape? { w with drawn := w.drawn + 1, heap := w.heap.push (.cells arr el) } w.heap.size = some (el, cap) := by
      simp [World.shape?, harr]
    simp only [hshape, Sem.run_pure, run_shape, Result.andThen_ok, run_freeze, Sem.run_bind]
    congr 1
    simp only [World.freeze, w1]
    simp
    apply Array.ext
    · simp
    · intro i h1 h2
      rw [Array.getElem_modify, Array.getElem_push, Array.getElem_push]
      by_cases hi : i < w.heap.size
      · rw [if_neg (by omega), dif_pos hi, dif_pos hi]
      · rw [if_pos (by simp at h2; omega), dif_neg hi, dif_neg hi]
        simp
  have hd : Rel B G h { w with drawn := w.drawn + 1 } ∧ Evo B G h w G h { w with drawn := w.drawn + 1 } := hr.heap ⟨rfl, rfl, rfl⟩ rfl
  obtain ⟨hrel, hevo⟩ := push_blk (o := .box (s.map ofByte)) (n := cap) hd.1 (w' := w1) (ob := .cells arr el (cap, cap + 1)) ⟨rfl, rfl, rfl⟩ rfl (by
    intro hle b m hb
    have : (b, m) = (w.heap.size, cap) := by simpa [Gh.addBlk] using hb.symm
    injection this with e1 e2
    subst e1; subst e2
    refine ⟨arr, el, (m, m + 1), push_new (w := { w with drawn := w.drawn + 1 }) rfl, harr, by simp only; omega, by simpa using hcap, fun c hc => ?_, fun k x hk => ?_⟩
    · obtain ⟨b, _, rfl⟩ := List.mem_map.1 hc
      trivial
    · rw [List.getElem?_map] at hk
      obtain ⟨b, hb, rfl⟩ := map_some hk
      have hlt := (List.getElem?_eq_some_iff.1 hb).1
      refine ⟨.int .u8 b.toNat, ?_, .int _ _⟩
      simp only [arr]
      rw [Array.getElem?_append_left (by simpa using hlt)]
      simp [hb])
  exact ⟨_, w1, _, _, hrun, .inl rfl, .hsl (n := cap) (b := w.heap.size) (by simp [Gh.addBlk]) hcap (by omega), hrel, hd.2.trans hevo⟩
/-- Bytes that are told as bytes: their block is marked. -/
theorem o_mark {t u : TypeId} {x : Operand} {g : Arg} (hop : o.op = .convert t u x) (hc : insC P n o = some (.mark g)) (hs : stepI (.mark g) e h = some (v, h')) (he : EnvRel B G w n e a.tmps) (hr : Rel B G h w) : Outc P B G h w o a v h' := by
  simp only [insC, hop] at hc
  split at hc <;> first | (cases hc; done) | skip
  · split at hc <;> cases hc
  · split at hc <;> cases hc
  rename_i e0 el gx e1 e2 e3
  split at hc <;> first | (cases hc; done) | skip
  rename_i hel
  split at hc <;> first | (cases hc; done) | skip
  rename_i htu
  injection hc with hc
  injection hc with hc; subst hc
  have r := argC_rv he e3
  simp only [stepI] at hs
  split at hs <;> first | (cases hs; done) | skip
  rename_i sz id len es
  split at hs <;> first | (cases hs; done) | skip
  rename_i cs ho
  injection hs with hs
  injection hs with h1 h2; subst h1; subst h2
  rw [es] at r
  generalize hx : a.eval x = q at r
  cases r with
  | hsl hb hl hn =>
  rename_i b nn cap
  have hrow := hr.obj id _ ho b nn hb
  obtain ⟨arr, T, fz, a1, a2, a3, a4, a5, a6⟩ := hrow.out
  have hshape : World.shape? w b = some (T, nn) := by simp [World.shape?, a1, a2]
  have hrun : (execOp a.eval o).run P w = .ok (.value (.slice (some ⟨b, 0, none⟩) len cap)) (w.freeze ⟨b, nn, none⟩ 1) := by
    simp only [execOp, hop, Sem.run_bind, hx, convert, run_underlying e1, run_underlying e2, run_underlying hel, Result.andThen_ok, htu, markStringish, Sem.run_pure, run_shape, hshape, run_freeze]
  have hset : h.set id (.box cs) = h := by
    apply List.ext_getElem?
    intro i
    rw [List.getElem?_set]
    split
    · rename_i hi; subst hi; rw [if_pos (List.getElem?_eq_some_iff.1 ho).1, ho]
    · rfl
  have hblt : b < w.heap.size := by
    rcases Nat.lt_or_ge b w.heap.size with h1 | h1
    · exact h1
    · rw [Array.getElem?_eq_none h1] at a1; cases a1
  have hheap : ∀ c, (w.freeze ⟨b, nn, none⟩ 1).heap[c]? = if c = b then some (.cells arr T (if fz.1 == fz.2 then (nn, nn + 1) else (min fz.1 nn, max fz.2 (nn + 1)))) else w.heap[c]? := by
    intro c
    simp only [World.freeze]
    rw [if_neg (by omega)]
    simp only [Array.getElem?_modify]
    by_cases hcb : c = b
    · subst hcb
      rw [if_pos rfl, if_pos rfl, a1]
      rfl
    · rw [if_neg (fun hh => hcb hh.symm), if_neg hcb]
  have hsize : (w.freeze ⟨b, nn, none⟩ 1).heap.size = w.heap.size := by
    simp only [World.freeze]
    rw [if_neg (by omega)]
    simp
  obtain ⟨hrel, hevo⟩ := set_blk (w' := w.freeze ⟨b, nn, none⟩ 1) (o := .box cs) hr ⟨rfl, rfl, rfl⟩ hb (.inl ⟨cs, ho⟩) hsize (fun c hc => by rw [hheap, if_neg hc]) (fun hle b' n' hb' => by
    have : (b', n') = (b, nn) := Option.some.inj (hb'.symm.trans hb)
    injection this with e1 e2
    subst e1; subst e2
    refine ⟨arr, T, _, by rw [hheap, if_pos rfl], a2, ?_, a4, a5, fun k x hk => ?_⟩
    · by_cases hf : fz.1 = fz.2
      · rw [if_pos (by simpa using hf)]; exact .inr (Nat.le_refl _)
      · rw [if_neg (by simpa using hf)]; right; simp only; omega
    · obtain ⟨z, hz, hrz⟩ := a6 k x hk
      exact ⟨z, hz, hrz.mono hle⟩)
  rw [hset] at hrel hevo
  exact ⟨_, _, _, _, hrun, .inl rfl, .hsl (n := nn) (b := b) hb hl hn, hrel, hevo⟩
/-! ### Made slices -/
theorem o_makeSlice {t : TypeId} {l c : Operand} {i : Ins} (hop : o.op = .makeSlice t l c) (hc : insC P n o = some i) (hs : stepI i e h = some (v, h')) (he : EnvRel B G w n e a.tmps) (hr : Rel B G h w) : Outc P B G h w o a v h' := by
  simp only [insC, hop] at hc
  split at hc <;> first | (cases hc; done) | skip
  rename_i el hu
  split at hc <;> first | (cases hc; done) | skip
  rename_i s bt zs gl gc e1 e2 e3 e4 e5
  split at hc <;> first | (cases hc; done) | skip
  rename_i hcond
  obtain ⟨hs0, hzl, hb0⟩ := hcond
  injection hc with hc; subst hc
  have r1 := argC_rv he e4
  have r2 := argC_rv he e5
  simp only [stepI] at hs
  split at hs <;> first | (cases hs; done) | skip
  rename_i m cc el' ec'
  split at hs <;> first | (cases hs; done) | skip
  rename_i hcond2
  obtain ⟨h0, hmc, hroom⟩ := hcond2
  injection hs with hs
  injection hs with h1 h2; subst h1; subst h2
  rw [el'] at r1; rw [ec'] at r2
  generalize hx : a.eval l = q1 at r1
  generalize hy : a.eval c = q2 at r2
  cases r1; cases r2
  have hbt : ∃ inf, P.info? el = some inf ∧ inf.bytes = bt := by
    unfold bytesT at e2
    obtain ⟨inf, h1, h2⟩ := map_some e2
    exact ⟨inf, h1, h2⟩
  obtain ⟨inf, hinf, hbt⟩ := hbt
  simp only [room, decide_eq_true_eq] at hroom
  have hcb : cc.toNat ≤ cc.toNat * bt := Nat.le_mul_of_pos_right _ hb0
  have hcc : cc ≤ 140737488355328 := by omega
  have hbc : ((bt : Int) * cc) ≤ 140737488355328 := by
    have : ((cc.toNat * bt : Nat) : Int) ≤ 140737488355328 := Int.ofNat_le.2 hroom
    rw [Int.natCast_mul, Int.toNat_of_nonneg (by omega), Int.mul_comm] at this
    exact this
  have wr : ∀ x : Int, 0 ≤ x → x ≤ 140737488355328 → IntKind.i64.wrap x = x := by
    intro x h1 h2
    simp [IntKind.wrap, IntKind.bits, IntKind.signed]; omega
  have wm := wr m h0 (by omega)
  have wc := wr cc (by omega) hcc
  obtain ⟨z, hzr, hzz⟩ := zeroT_run e3 w
  have hz := (hzz B G w).1
  have hz1 := (hzz B G w).2
  have hrow := zrow (c := cc.toNat) hz hzl hs0
  let arr : Array Value := (Array.range (cc.toNat * s)).map (z.cells[· % z.cells.size]!)
  have harr : arr.size = cc.toNat * s := by simp [arr]
  have h1' : ∀ c ∈ (List.replicate cc.toNat zs).flatten, oneC c := by
    intro c hc
    obtain ⟨l, hl, hcl⟩ := List.mem_flatten.1 hc
    rw [(List.mem_replicate.1 hl).2] at hcl
    exact hz1 c hcl
  obtain ⟨hrel, hevo⟩ := push_blk (o := .box ((List.replicate cc.toNat zs).flatten)) (n := arr.size) hr (w' := { w with heap := w.heap.push (.cells arr el) }) ⟨rfl, rfl, rfl⟩ rfl (by
    intro hle b k hb
    have : (b, k) = (w.heap.size, arr.size) := by simpa [Gh.addBlk] using hb.symm
    injection this with e1 e2
    subst e1; subst e2
    have hl := hrow.1
    refine ⟨arr, el, (0, 0), push_new rfl, rfl, .inl rfl, by simp only [Array.length_toList] at hl; rw [← hl]; exact Nat.le_refl _, h1', fun k x hk => ?_⟩
    have hlt : k < arr.size := by
      have := (List.getElem?_eq_some_iff.1 hk).1
      simp only [Array.length_toList] at hl
      have h3 : arr.size = ((List.replicate cc.toNat zs).flatten).length := hl
      omega
    exact ⟨arr[k], by simp [hlt], (hrow.2 k x arr[k] hk (by simp only [Array.getElem?_toList]; exact Array.getElem?_eq_getElem hlt)).mono hle⟩)
  refine ⟨_, { w with heap := w.heap.push (.cells arr el) }, _, .slice (some ⟨w.heap.size, 0, none⟩) m.toNat cc.toNat, ?_, .inl rfl, .hsl (n := arr.size) (b := w.heap.size) (by simp [Gh.addBlk]) (by omega) (by rw [harr]; exact Nat.le_refl _), hrel, hevo⟩
  have t1 : ¬ (((decide (cc < 0) || decide ((bt : Int) * cc > 2 ^ 48)) || decide (m < 0) || decide (m > cc)) = true) := by
    simp; omega
  simp only [execOp, hop, Instr.makeSlice, Sem.run_bind, hx, hy, run_underlying hu, Result.andThen_ok, asInt, asIntOf, Sem.run_pure, run_info hinf, hbt, wm, wc]
  rw [if_neg t1]
  by_cases hn : cc.toNat * s = 0
  · have harr0 : arr = #[] := by apply Array.eq_empty_of_size_eq_zero; rw [harr]; exact hn
    simp [run_sizeT e1, hn, newRow, harr0, _root_.Go.Array.range_zero']
  · simp [run_sizeT e1, hn, hzr, newRow, arr]
end
end Go.Vm
end
