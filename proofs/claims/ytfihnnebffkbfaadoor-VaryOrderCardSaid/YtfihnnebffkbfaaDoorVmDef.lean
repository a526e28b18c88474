/- A small machine of our own (values without memory, boxes by number), into which functions of the program are compiled; its soundness for the model is proved in the texts that follow. -/
import Derived.Orders
import Derived.Below
namespace Go.Vm
set_option linter.unusedVariables false

/-- Whose a slice is: nobody's to append to; one without spare places; the tip of an own row. -/
inductive Own where
  | no
  | full
  | tip (id : Nat)

inductive V where
  | bool (b : Bool)
  | int (k : IntKind) (n : Int)
  | str (s : List UInt8)
  | nilp
  | ptr (id off : Nat)
  | iptr (cs : List V)
  | nsl
  | sl (sz : Nat) (own : Own) (es : List V)
  | hsl (sz : Nat) (id len : Nat)
  | nmap
  | map (id : Nat)
  | nfn
  | fn (f : FuncId) (caps : List V)
  | agg (cs : List V)
  | tup (vs : List V)

instance : Inhabited V := ⟨.tup []⟩

inductive O where
  | box (cs : List V)
  | tip (n : Nat)
  | dead
  | map (es : List (V × V))

abbrev Env := Nat → V
abbrev Heap := List O

def upd (e : Env) (d : Nat) (v : V) : Env := fun t => if t = d then v else e t

def cells : V → List V
  | .agg cs => cs
  | v => [v]

/-- What may stand in cells. -/
def stor : V → Bool
  | .tup _ => false
  | _ => true

def flat (es : List V) : List V := es.flatMap cells

inductive Arg where
  | t (n : Nat)
  | c (v : V)

def Arg.get (e : Env) : Arg → V
  | .t n => e n
  | .c v => v

/-- The kinds of plain cells. -/
inductive LK where
  | b
  | i
  | s

inductive EqK where
  | bool
  | nil (c : Nat)
  | agg (ks : List LK)

inductive Ins where
  | mv (a : Arg)
  | mvs (a : Arg)
  | pick (c a b : Arg)
  | boxz (cs : List V)
  | box (a : Arg)
  | build (zero : List V) (parts : List (Nat × Nat × Arg))
  | bsl (sz : Nat) (parts : List Arg)
  | load (agg : Bool) (sz : Nat) (a : Arg)
  | store (sz : Nat) (a x : Arg)
  | nilck (a : Arg)
  | bin (op : BinOp) (x y : Arg)
  | eq (k : EqK) (neg : Bool) (x y : Arg)
  | un (op : UnOp) (x : Arg)
  | toInt (k : IntKind) (x : Arg)
  | toStr (x : Arg)
  | toBytes (x : Arg)
  | mark (x : Arg)
  | bslb (parts : List Arg)
  | mkfn (f : FuncId) (caps : List Arg)
  | mkmap
  | lookup (c : LK) (zero : V) (ok : Bool) (m k : Arg)
  | mapset (c : LK) (m k v : Arg)
  | mksl (sz bytes : Nat) (zero : List V) (len cap : Arg)
  | slstr (x : Arg) (lo hi : Option Arg)
  | slsl (sz : Nat) (x : Arg) (lo hi mx : Option Arg)
  | faddr (off : Nat) (x : Arg)
  | fld (off sz : Nat) (agg : Bool) (x : Arg)
  | ixaSl (sz : Nat) (x i : Arg)
  | ixaArr (n sz : Nat) (x i : Arg)
  | ixArr (n sz : Nat) (agg : Bool) (x i : Arg)
  | ixStr (x i : Arg)
  | ext (i : Nat) (x : Arg)
  | len (c : Nat) (x : Arg)
  | lenArr (n : Nat)
  | app (sz bytes : Nat) (mu : Bool) (x y : Arg)
  | copy (sz : Nat) (d s : Arg)
  | mn (xs : List Arg)
  | mx (xs : List Arg)
  | clear (m : Arg)
  | call (f : FuncId) (xs : List Arg)
  | callv (g : Arg) (xs : List Arg)

structure OpC where
  dst : Option Nat
  guard : Option (Nat × Bool)
  ins : Ins

inductive C where
  | skip
  | region (l : List OpC)
  | dregion (l t : List OpC)
  | mregion (l m t : List OpC) (fl : List (Nat × Bool × Nat × Arg))
  | seq (a b : C)
  | cond (c : Arg) (a b : C)
  | block (id : Nat) (c : C)
  | loop (c : C)
  | exit (id : Nat)
  | ret

inductive Res where
  | tmp (t : Nat)
  | cell (t : Nat) (agg : Bool) (sz : Nat)

structure FnC where
  ntmps : Nat
  results : List Res
  body : C

/-! ### What an instruction does -/

def splice (cs : List V) (off : Nat) (xs : List V) : List V := cs.take off ++ xs ++ cs.drop (off + xs.length)

def fillC (e : Env) : List V → List (Nat × Nat × Arg) → Option (List V)
  | cs, [] => some cs
  | cs, (off, sz, x) :: r => if (cells (x.get e)).length = sz ∧ off + sz ≤ cs.length ∧ stor (x.get e) = true then fillC e (splice cs off (cells (x.get e))) r else none

def bitsI (op : BinOp) (k : IntKind) (x y : Int) : Int :=
  match op with
  | .and => k.wrap (BitVec.ofInt k.bits x &&& BitVec.ofInt k.bits y).toNat
  | .or => k.wrap (BitVec.ofInt k.bits x ||| BitVec.ofInt k.bits y).toNat
  | .xor => k.wrap (BitVec.ofInt k.bits x ^^^ BitVec.ofInt k.bits y).toNat
  | _ => k.wrap (BitVec.ofInt k.bits x &&& ~~~BitVec.ofInt k.bits y).toNat

def binI (op : BinOp) (k : IntKind) (x y : Int) : Option V :=
  match op with
  | .add => some (.int k (k.wrap (x + y)))
  | .sub => some (.int k (k.wrap (x - y)))
  | .mul => some (.int k (k.wrap (x * y)))
  | .quo => if y = 0 then none else some (.int k (k.wrap (x.tdiv y)))
  | .rem => if y = 0 then none else some (.int k (x.tmod y))
  | .and | .or | .xor | .andNot => some (.int k (bitsI op k x y))
  | .eql => some (.bool (decide (x = y)))
  | .neq => some (.bool (!decide (x = y)))
  | .lss => some (.bool (decide (x < y)))
  | .leq => some (.bool (decide (x ≤ y)))
  | .gtr => some (.bool (decide (x > y)))
  | .geq => some (.bool (decide (x ≥ y)))
  | .shl | .shr => none

def shI (op : BinOp) (k : IntKind) (x y : Int) : Option V :=
  if y < 0 then none else
  match op with
  | .shl => some (.int k (k.wrap (x * 2 ^ (min y.toNat k.bits))))
  | .shr => some (.int k (x.fdiv (2 ^ (min y.toNat k.bits))))
  | _ => none

def binS (op : BinOp) (x y : List UInt8) : Option V :=
  match op with
  | .add => if x.length + y.length ≤ 9223372036854775807 then some (.str (x ++ y)) else none
  | .eql => some (.bool (x == y))
  | .neq => some (.bool (!(x == y)))
  | .lss => some (.bool (Go.Op.bytesLess x y))
  | .leq => some (.bool (Go.Op.bytesLess x y || x == y))
  | .gtr => some (.bool (!(Go.Op.bytesLess x y || x == y)))
  | .geq => some (.bool (!Go.Op.bytesLess x y))
  | _ => none

def binV (op : BinOp) : V → V → Option V
  | .int k x, .int k' y =>
    match op with
    | .shl => shI .shl k x y
    | .shr => shI .shr k x y
    | op => if k = k' then binI op k x y else none
  | .str x, .str y => binS op x y
  | _, _ => none

/-- Two values of one plain cell each: are they alike? -/
def eqLeaf : LK → V → V → Option Bool
  | .b, .bool a, .bool b => some (a == b)
  | .i, .int k a, .int k' b => if k = k' then some (decide (a = b)) else none
  | .s, .str a, .str b => some (a == b)
  | _, _, _ => none

def eqLeaves : List LK → List V → List V → Option Bool
  | [], [], [] => some true
  | k :: ks, a :: as, b :: bs => (eqLeaf k a b).bind fun r => (eqLeaves ks as bs).bind fun s => some (r && s)
  | _, _, _ => none

/-- Compared with nil: slices (0), maps (1), functions (2), pointers (3). -/
def eqNil : Nat → V → V → Option Bool
  | 0, .nsl, .nsl => some true
  | 0, .nsl, .sl _ _ _ => some false
  | 0, .nsl, .hsl _ _ _ => some false
  | 0, .sl _ _ _, .nsl => some false
  | 0, .hsl _ _ _, .nsl => some false
  | 1, .nmap, .nmap => some true
  | 1, .nmap, .map _ => some false
  | 1, .map _, .nmap => some false
  | 2, .nfn, .nfn => some true
  | 2, .nfn, .fn _ _ => some false
  | 2, .fn _ _, .nfn => some false
  | 3, .nilp, .nilp => some true
  | 3, .nilp, .ptr _ _ => some false
  | 3, .ptr _ _, .nilp => some false
  | 3, .nilp, .iptr _ => some false
  | 3, .iptr _, .nilp => some false
  | _, _, _ => none

def eqV (k : EqK) : V → V → Option Bool
  | x, y =>
    match k with
    | .bool => match x, y with
      | .bool a, .bool b => some (a == b)
      | _, _ => none
    | .nil c => eqNil c x y
    | .agg ks => match x, y with
      | .agg a, .agg b => eqLeaves ks a b
      | _, _ => none

def unV (op : UnOp) : V → Option V
  | .int k n => match op with
    | .neg => some (.int k (k.wrap (0 - n)))
    | .xor => some (.int k (bitsI .xor k (if k.signed then -1 else k.max) n))
    | _ => none
  | .bool b => match op with
    | .not => some (.bool !b)
    | _ => none
  | _ => none

def ofByte (b : UInt8) : V := .int .u8 b.toNat

/-- The bytes in cells. -/
def toByte : V → Option UInt8
  | .int .u8 n => some (UInt8.ofNat n.toNat)
  | _ => none

def toBytesL : List V → Option (List UInt8)
  | [] => some []
  | v :: r => (toByte v).bind fun b => (toBytesL r).bind fun bs => some (b :: bs)

def bound (e : Env) (d : Nat) : Option Arg → Option Nat
  | none => some d
  | some a => match a.get e with
    | .int _ n => if 0 ≤ n then some n.toNat else none
    | _ => none

/-- Which entry of a map a key is. -/
def findE (c : LK) (k : V) : List (V × V) → Nat → Option (Option (Nat × V))
  | [], _ => some none
  | e :: es, i => (eqLeaf c k e.1).bind fun b => if b then some (some (i, e.2)) else findE c k es (i + 1)

def mnV : List V → Option V
  | [] => none
  | [.int k x] => some (.int k x)
  | .int k x :: .int _ y :: r => mnV (.int k (if y < x then y else x) :: r)
  | _ => none
termination_by l => l.length

def mxV : List V → Option V
  | [] => none
  | [.int k x] => some (.int k x)
  | .int k x :: .int _ y :: r => mxV (.int k (if y > x then y else x) :: r)
  | _ => none
termination_by l => l.length

/-- The elements of a slice (or a string) that is appended or copied. -/
def srcElems (h : Heap) (sz : Nat) : V → Option (List V)
  | .nsl => some []
  | .sl s _ es => if s = sz then some es else none
  | .str l => if sz = 1 then some (l.map ofByte) else none
  | .hsl s id len => if s = sz ∧ sz = 1 then match h[id]? with
      | some (.box cs) => if len ≤ cs.length then some (cs.take len) else none
      | _ => none
    else none
  | _ => none

def room (n bytes : Nat) : Bool := n * bytes ≤ 140737488355328

def isTip (h : Heap) (id n : Nat) : Bool := match h[id]? with
  | some (.tip m) => m == n
  | _ => false

/-- A new row of elements. -/
def newRowV (h : Heap) (sz : Nat) (mu : Bool) (es : List V) : V × Heap :=
  if mu then (.hsl sz h.length es.length, h ++ [.box (flat es)]) else (.sl sz (.tip h.length) es, h ++ [.tip (flat es).length])

/-- append. -/
def appV (h : Heap) (sz bytes : Nat) (mu : Bool) (x y : V) : Option (V × Heap) :=
  (srcElems h sz y).bind fun new =>
  match x with
  | .nsl => if new.isEmpty then some (.nsl, h) else if room new.length bytes then some (newRowV h sz mu new) else none
  | .sl s own es =>
    if s = sz then
      match own with
      | .no => none
      | .full => if new.isEmpty then some (.sl sz .full es, h) else if room (es.length + new.length) bytes then some (newRowV h sz mu (es ++ new)) else none
      | .tip id => if room (es.length + new.length) bytes && isTip h id (flat es).length then
          some (.sl sz (.tip id) (es ++ new), h.set id (.tip (flat (es ++ new)).length)) else none
    else none
  | .hsl s id len => if s = sz ∧ sz = 1 ∧ room (len + new.length) bytes = true then match h[id]? with
      | some (.box cs) => if len ≤ cs.length then some (.hsl sz h.length (len + new.length), h.set id .dead ++ [.box (cs.take len ++ flat new)]) else none
      | _ => none
    else none
  | _ => none

def part (cs : List V) (off sz : Nat) (agg : Bool) : Option V :=
  if off + sz ≤ cs.length then if agg then some (.agg ((cs.drop off).take sz)) else if sz = 1 then cs[off]? else none else none

def loadV (h : Heap) (agg : Bool) (sz : Nat) : V → Option V
  | .ptr id off => match h[id]? with
    | some (.box cs) => part cs off sz agg
    | _ => none
  | .iptr cs => part cs 0 sz agg
  | _ => none

def storeV (h : Heap) (sz : Nat) (a x : V) : Option (V × Heap) :=
  match a with
  | .ptr id off => match h[id]? with
    | some (.box cs) => if (cells x).length = sz ∧ off + sz ≤ cs.length ∧ stor x = true then some (.tup [], h.set id (.box (splice cs off (cells x)))) else none
    | _ => none
  | _ => none

def mapsetE (c : LK) (k v : V) (es : List (V × V)) : Option (List (V × V)) :=
  (findE c k es 0).map fun
    | some (i, _) => es.set i (k, v)
    | none => es ++ [(k, v)]

def slslV (s : Nat) (x : V) (l : Nat) (hi mx : Option Nat) : Option V :=
  match x with
  | .nsl => match hi, mx with
    | none, none => if l = 0 then some .nsl else none
    | some 0, none => if l = 0 then some .nsl else none
    | some 0, some 0 => if l = 0 then some .nsl else none
    | _, _ => none
  | .sl sz own es => if sz ≠ s then none else match hi, mx with
    | none, none => if l ≤ es.length then some (.sl sz (if l = 0 then own else .no) (es.drop l)) else none
    | some r, none => if l ≤ r ∧ r ≤ es.length then some (.sl sz .no ((es.take r).drop l)) else none
    | some r, some m => if l ≤ r ∧ r ≤ m ∧ m ≤ es.length then some (.sl sz (if r = m then .full else .no) ((es.take r).drop l)) else none
    | none, some _ => none
  | .hsl sz id len => if sz ≠ s then none else match hi, mx with
    | none, none => if l = 0 then some (.hsl sz id len) else none
    | some r, none => if l = 0 ∧ r ≤ len then some (.hsl sz id r) else none
    | some r, some m => if l = 0 ∧ r ≤ m ∧ m ≤ len then some (.hsl sz id r) else none
    | _, _ => none
  | _ => none

/-- An optional bound: nothing, or a whole number that is not below 0. -/
def boundO (e : Env) : Option Arg → Option (Option Nat)
  | none => some none
  | some a => match a.get e with
    | .int _ n => if 0 ≤ n then some (some n.toNat) else none
    | _ => none

/-- An instruction that calls nothing: its value, and the heap behind it. -/
def stepI (i : Ins) (e : Env) (h : Heap) : Option (V × Heap) :=
  match i with
  | .mv a => some (a.get e, h)
  | .mvs a => match a.get e with
    | .str s => some (.str s, h)
    | _ => none
  | .pick c a b => match c.get e with
    | .bool t => some (if t then a.get e else b.get e, h)
    | _ => none
  | .boxz cs => some (.ptr h.length 0, h ++ [.box cs])
  | .box a => if stor (a.get e) then some (.ptr h.length 0, h ++ [.box (cells (a.get e))]) else none
  | .build zero parts => (fillC e zero parts).map fun cs => (.agg cs, h)
  | .bsl sz parts => if (parts.all fun p => decide ((cells (p.get e)).length = sz) && stor (p.get e)) then some (.sl sz .full (parts.map (·.get e)), h) else none
  | .load agg sz a => (loadV h agg sz (a.get e)).map fun v => (v, h)
  | .store sz a x => storeV h sz (a.get e) (x.get e)
  | .nilck a => match a.get e with
    | .ptr id off => some (.ptr id off, h)
    | .iptr cs => some (.iptr cs, h)
    | .fn f caps => some (.fn f caps, h)
    | _ => none
  | .bin op x y => (binV op (x.get e) (y.get e)).map fun v => (v, h)
  | .eq k neg x y => (eqV k (x.get e) (y.get e)).map fun b => (.bool (if neg then !b else b), h)
  | .un op x => (unV op (x.get e)).map fun v => (v, h)
  | .toInt k x => match x.get e with
    | .int _ n => some (.int k (k.wrap n), h)
    | _ => none
  | .toStr x => match x.get e with
    | .str _ => none
    | y => (srcElems h 1 y).bind fun es => (toBytesL es).map fun bs => (.str bs, h)
  | .toBytes x => match x.get e with
    | .str s => some (.hsl 1 h.length s.length, h ++ [.box (s.map ofByte)])
    | _ => none
  | .mark x => match x.get e with
    | .hsl sz id len => match h[id]? with
      | some (.box _) => some (.hsl sz id len, h)
      | _ => none
    | _ => none
  | .bslb parts => if (parts.all fun p => decide ((cells (p.get e)).length = 1) && stor (p.get e)) then some (.hsl 1 h.length parts.length, h ++ [.box (flat (parts.map (·.get e)))]) else none
  | .mkfn f caps => some (.fn f (caps.map (·.get e)), h)
  | .mkmap => some (.map h.length, h ++ [.map []])
  | .lookup c zero ok m k => match m.get e with
    | .nmap => some (if ok then .tup [zero, .bool false] else zero, h)
    | .map id => match h[id]? with
      | some (.map es) => (findE c (k.get e) es 0).map fun
        | some (_, v) => (if ok then .tup [v, .bool true] else v, h)
        | none => (if ok then .tup [zero, .bool false] else zero, h)
      | _ => none
    | _ => none
  | .mapset c m k v => if !stor (v.get e) then none else match m.get e with
    | .map id => match h[id]? with
      | some (.map es) => (mapsetE c (k.get e) (v.get e) es).map fun es' => (.tup [], h.set id (.map es'))
      | _ => none
    | _ => none
  | .mksl sz bytes zero len cap => match len.get e, cap.get e with
    | .int .i64 n, .int .i64 c => if 0 ≤ n ∧ n ≤ c ∧ room c.toNat bytes = true then
        some (.hsl sz h.length n.toNat, h ++ [.box ((List.replicate c.toNat zero).flatten)]) else none
    | _, _ => none
  | .slstr x lo hi => match x.get e with
    | .str s => (boundO e lo).bind fun l => (boundO e hi).bind fun r =>
      let l := l.getD 0
      let r := r.getD s.length
      if l ≤ r ∧ r ≤ s.length then some (.str ((s.take r).drop l), h) else none
    | _ => none
  | .slsl sz x lo hi mx => (boundO e lo).bind fun l => (boundO e hi).bind fun r => (boundO e mx).bind fun m =>
      (slslV sz (x.get e) (l.getD 0) r m).map fun v => (v, h)
  | .faddr off x => match x.get e with
    | .ptr id o => some (.ptr id (o + off), h)
    | .iptr cs => some (.iptr (cs.drop off), h)
    | _ => none
  | .fld off sz agg x => match x.get e with
    | .agg cs => (part cs off sz agg).map fun v => (v, h)
    | _ => none
  | .ixaSl sz x i => match i.get e with
    | .int _ n => if n < 0 then none else match x.get e with
      | .sl s _ es => if s = sz then (es[n.toNat]?).map fun v => (.iptr (cells v), h) else none
      | .hsl s id len => if s = sz ∧ n.toNat < len then some (.ptr id (n.toNat * sz), h) else none
      | _ => none
    | _ => none
  | .ixaArr n sz x i => match i.get e with
    | .int _ j => if 0 ≤ j ∧ j < n then match x.get e with
      | .ptr id o => some (.ptr id (o + j.toNat * sz), h)
      | .iptr cs => some (.iptr (cs.drop (j.toNat * sz)), h)
      | _ => none
      else none
    | _ => none
  | .ixArr n sz agg x i => match i.get e with
    | .int _ j => if 0 ≤ j ∧ j < n then match x.get e with
      | .agg cs => (part cs (j.toNat * sz) sz agg).map fun v => (v, h)
      | _ => none
      else none
    | _ => none
  | .ixStr x i => match x.get e, i.get e with
    | .str s, .int _ n => if n < 0 then none else (s[n.toNat]?).map fun b => (ofByte b, h)
    | _, _ => none
  | .ext i x => match x.get e with
    | .tup vs => (vs[i]?).map fun v => (v, h)
    | _ => none
  | .len c x => match c, x.get e with
    | 0, .str s => some (.int .i64 s.length, h)
    | 1, .nsl => some (.int .i64 0, h)
    | 1, .sl _ _ es => some (.int .i64 es.length, h)
    | 1, .hsl _ _ n => some (.int .i64 n, h)
    | 2, .nmap => some (.int .i64 0, h)
    | 2, .map id => match h[id]? with
      | some (.map es) => some (.int .i64 es.length, h)
      | _ => none
    | _, _ => none
  | .lenArr n => some (.int .i64 n, h)
  | .app sz bytes mu x y => appV h sz bytes mu (x.get e) (y.get e)
  | .copy sz d s => match d.get e with
    | .hsl k id len => if k = sz then match h[id]? with
      | some (.box cs) => (srcElems h sz (s.get e)).bind fun es =>
        let n := min es.length len
        if (flat (es.take n)).length ≤ cs.length then some (.int .i64 n, h.set id (.box (splice cs 0 (flat (es.take n))))) else none
      | _ => none
      else none
    | _ => none
  | .mn xs => (mnV (xs.map (·.get e))).map fun v => (v, h)
  | .mx xs => (mxV (xs.map (·.get e))).map fun v => (v, h)
  | .clear m => match m.get e with
    | .nmap => some (.tup [], h)
    | .map id => match h[id]? with
      | some (.map _) => some (.tup [], h.set id (.map []))
      | _ => none
    | _ => none
  | .call _ _ => none
  | .callv _ _ => none

/-- The call that an instruction is. -/
def callI (i : Ins) (e : Env) : Option (FuncId × List V) :=
  match i with
  | .call f xs => some (f, xs.map (·.get e))
  | .callv g xs => match g.get e with
    | .fn f caps => some (f, xs.map (·.get e) ++ caps)
    | _ => none
  | _ => none

def OpC.wanted (o : OpC) (e : Env) : Bool :=
  match o.guard with
  | none => true
  | some (t, b) => match e t with
    | .bool c => c == b
    | _ => false

def put (e : Env) (d : Option Nat) (v : V) : Env :=
  match d with
  | none => e
  | some d => upd e d v

inductive X where
  | norm
  | exit (id : Nat)
  | ret

/-- An exit, out of a block. -/
def X.out (id : Nat) : X → X
  | .exit i => if i = id then .norm else .exit i
  | x => x

/-- What was there is as it was. -/
def Ext (h h' : Heap) : Prop := ∀ i, i < h.length → h'[i]? = h[i]?

def enterE (args : List V) : Env := fun t => args.getD t (.tup [])

def resV (h : Heap) (e : Env) : Res → Option V
  | .tmp t => some (e t)
  | .cell t agg sz => loadV h agg sz (e t)

def resultsV (h : Heap) (e : Env) : List Res → Option V
  | [r] => resV h e r
  | rs => (rs.mapM (resV h e)).map .tup

/-- Loads that may be run late read what they read. -/
def flC : List (Nat × Bool × Nat × Arg) → Env → Heap → Prop
  | [], _, _ => True
  | (d, g, s, a) :: r, e, h => loadV h g s (a.get e) = some (e d) ∧ flC r e h

/-- Instructions that leave the boxes as they are. -/
def quiet : Ins → Bool
  | .mv _ | .ext _ _ | .nilck _ | .faddr _ _ | .load _ _ _ | .fld _ _ _ _ | .bin _ _ _ => true
  | _ => false

inductive Task where
  | mops (fl : List (Nat × Bool × Nat × Arg)) (l : List OpC) (e : Env) (h : Heap) (e' : Env) (h' : Heap)
  | ops (l : List OpC) (e : Env) (h : Heap) (e' : Env) (h' : Heap)
  | dops (l : List OpC) (e : Env) (h : Heap) (e' : Env) (h' : Heap)
  | code (c : C) (e : Env) (h : Heap) (x : X) (e' : Env) (h' : Heap)
  | call (f : FuncId) (args : List V) (h : Heap) (v : V) (h' : Heap)

/-- Said of a function of the library: it sorts the texts of a box. -/
def sortTag : List V := [.agg [.agg []]]
/-- The texts of a box. -/
def strsV (ss : List (List UInt8)) : List V := ss.map .str
/-- Texts, sorted. -/
def sortS (ss : List (List UInt8)) : List (List UInt8) := ss.mergeSort fun x y => decide (x ≤ y)
/-- The machine's runs. F: the compiled functions; L: functions of the library, by what they answer. -/
inductive Ev (F : FuncId → Option FnC) (L : FuncId → List V → V → Prop) : Task → Prop
  | opsNil (e : Env) (h : Heap) : Ev F L (.ops [] e h e h)
  | opsSkip {o : OpC} {l : List OpC} {e : Env} {h : Heap} {e' : Env} {h' : Heap} (hw : o.wanted e = false) (hn : Ev F L (.ops l (put e o.dst (.tup [])) h e' h')) : Ev F L (.ops (o :: l) e h e' h')
  | opsIns {o : OpC} {l : List OpC} {e : Env} {h : Heap} {v : V} {h1 : Heap} {e' : Env} {h' : Heap} (hw : o.wanted e = true) (hs : stepI o.ins e h = some (v, h1))
      (hn : Ev F L (.ops l (put e o.dst v) h1 e' h')) : Ev F L (.ops (o :: l) e h e' h')
  | opsCall {o : OpC} {l : List OpC} {e : Env} {h : Heap} {f : FuncId} {args : List V} {v : V} {h1 : Heap} {e' : Env} {h' : Heap} (hw : o.wanted e = true) (hs : callI o.ins e = some (f, args))
      (hc : Ev F L (.call f args h v h1)) (hn : Ev F L (.ops l (put e o.dst v) h1 e' h')) : Ev F L (.ops (o :: l) e h e' h')
  | dopsNil (e : Env) (h : Heap) : Ev F L (.dops [] e h e h)
  | dopsSkip {o : OpC} {l : List OpC} {e : Env} {h : Heap} {e' : Env} {h' : Heap} (hw : o.wanted e = false) (hn : Ev F L (.dops l (put e o.dst (.tup [])) h e' h')) : Ev F L (.dops (o :: l) e h e' h')
  | dopsIns {o : OpC} {l : List OpC} {e : Env} {h : Heap} {v : V} {h1 : Heap} {e' : Env} {h' : Heap} (hw : o.wanted e = true) (hs : stepI o.ins e h = some (v, h1)) (hx : Ext h h1)
      (hn : Ev F L (.dops l (put e o.dst v) h1 e' h')) : Ev F L (.dops (o :: l) e h e' h')
  | dopsCall {o : OpC} {l : List OpC} {e : Env} {h : Heap} {f : FuncId} {args : List V} {v : V} {h1 : Heap} {e' : Env} {h' : Heap} (hw : o.wanted e = true) (hs : callI o.ins e = some (f, args)) (hx : Ext h h1)
      (hc : Ev F L (.call f args h v h1)) (hn : Ev F L (.dops l (put e o.dst v) h1 e' h')) : Ev F L (.dops (o :: l) e h e' h')
  | mopsNil (fl : List (Nat × Bool × Nat × Arg)) (e : Env) (h : Heap) : Ev F L (.mops fl [] e h e h)
  | mopsIns {fl : List (Nat × Bool × Nat × Arg)} {o : OpC} {l : List OpC} {e : Env} {h : Heap} {v : V} {h1 : Heap} {e' : Env} {h' : Heap} (hw : o.wanted e = true) (hs : stepI o.ins e h = some (v, h1)) (hx : quiet o.ins = true ∨ flC fl (put e o.dst v) h1)
      (hn : Ev F L (.mops fl l (put e o.dst v) h1 e' h')) : Ev F L (.mops fl (o :: l) e h e' h')
  | mopsCall {fl : List (Nat × Bool × Nat × Arg)} {o : OpC} {l : List OpC} {e : Env} {h : Heap} {f : FuncId} {args : List V} {v : V} {h1 : Heap} {e' : Env} {h' : Heap} (hw : o.wanted e = true) (hs : callI o.ins e = some (f, args)) (hx : flC fl (put e o.dst v) h1)
      (hc : Ev F L (.call f args h v h1)) (hn : Ev F L (.mops fl l (put e o.dst v) h1 e' h')) : Ev F L (.mops fl (o :: l) e h e' h')
  | mregion {fl : List (Nat × Bool × Nat × Arg)} {l m t : List OpC} {e : Env} {h : Heap} {e1 : Env} {h1 : Heap} {e2 : Env} {h2 : Heap} {e' : Env} {h' : Heap} (hn : Ev F L (.dops l e h e1 h1)) (hm : Ev F L (.mops fl m e1 h1 e2 h2)) (ht : Ev F L (.ops t e2 h2 e' h')) : Ev F L (.code (.mregion l m t fl) e h .norm e' h')
  | skip (e : Env) (h : Heap) : Ev F L (.code .skip e h .norm e h)
  | region {l : List OpC} {e : Env} {h : Heap} {e' : Env} {h' : Heap} (hn : Ev F L (.ops l e h e' h')) : Ev F L (.code (.region l) e h .norm e' h')
  | dregion {l t : List OpC} {e : Env} {h : Heap} {e1 : Env} {h1 : Heap} {e' : Env} {h' : Heap} (hn : Ev F L (.dops l e h e1 h1)) (ht : Ev F L (.ops t e1 h1 e' h')) : Ev F L (.code (.dregion l t) e h .norm e' h')
  | seqN {a b : C} {e : Env} {h : Heap} {e1 : Env} {h1 : Heap} {x : X} {e' : Env} {h' : Heap} (ha : Ev F L (.code a e h .norm e1 h1)) (hb : Ev F L (.code b e1 h1 x e' h')) : Ev F L (.code (.seq a b) e h x e' h')
  | seqX {a b : C} {e : Env} {h : Heap} {x : X} {e' : Env} {h' : Heap} (ha : Ev F L (.code a e h x e' h')) (hx : x ≠ .norm) : Ev F L (.code (.seq a b) e h x e' h')
  | cond {g : Arg} {a b : C} {e : Env} {h : Heap} {t : Bool} {x : X} {e' : Env} {h' : Heap} (hg : g.get e = .bool t) (hn : Ev F L (.code (if t then a else b) e h x e' h')) : Ev F L (.code (.cond g a b) e h x e' h')
  | block {id : Nat} {c : C} {e : Env} {h : Heap} {x : X} {e' : Env} {h' : Heap} (hn : Ev F L (.code c e h x e' h')) : Ev F L (.code (.block id c) e h (x.out id) e' h')
  | loopN {c : C} {e : Env} {h : Heap} {e1 : Env} {h1 : Heap} {x : X} {e' : Env} {h' : Heap} (hb : Ev F L (.code c e h .norm e1 h1)) (hn : Ev F L (.code (.loop c) e1 h1 x e' h')) : Ev F L (.code (.loop c) e h x e' h')
  | loopX {c : C} {e : Env} {h : Heap} {x : X} {e' : Env} {h' : Heap} (hb : Ev F L (.code c e h x e' h')) (hx : x ≠ .norm) : Ev F L (.code (.loop c) e h x e' h')
  | exit (id : Nat) (e : Env) (h : Heap) : Ev F L (.code (.exit id) e h (.exit id) e h)
  | ret (e : Env) (h : Heap) : Ev F L (.code .ret e h .ret e h)
  | call {f : FuncId} {fn : FnC} {args : List V} {h : Heap} {x : X} {e' : Env} {h' : Heap} {v : V} (hf : F f = some fn) (ha : args.length ≤ fn.ntmps)
      (hb : Ev F L (.code fn.body (enterE args) h x e' h')) (hx : x = .norm ∨ x = .ret) (hr : resultsV h' e' fn.results = some v) : Ev F L (.call f args h v h')
  | lib {f : FuncId} {args : List V} {h : Heap} {v : V} (hl : L f args v) : Ev F L (.call f args h v h)
  | libS {f : FuncId} {id : Nat} {ss : List (List UInt8)} {h : Heap} (hl : L f sortTag (.tup [])) (hh : h[id]? = some (.box (strsV ss))) (hn : ss.length < 4611686018427387904) : Ev F L (.call f [.hsl 1 id ss.length] h (.tup []) (h.set id (.box (strsV (sortS ss)))))

end Go.Vm
