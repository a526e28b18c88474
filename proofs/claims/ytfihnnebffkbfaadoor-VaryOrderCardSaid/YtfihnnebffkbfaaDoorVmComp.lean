/- The compiler: operations of the model into instructions of the small machine (types looked up once, the order of a region checked). -/
import Derived.Test.YtfihnnebffkbfaaDoorVmDef
import Derived.Orders
namespace Go.Vm
set_option linter.unusedVariables false

/-- A constant without memory behind it. -/
def ofScalar : Value → Option V
  | .bool b => some (.bool b)
  | .int k n => some (.int k n)
  | .string s => some (.str s.data.toList)
  | .pointer none => some .nilp
  | .slice none 0 0 => some .nsl
  | .map none => some .nmap
  | .nilFunc => some .nfn
  | _ => none

def ofScalars : List Value → Option (List V)
  | [] => some []
  | v :: r => match ofScalar v, ofScalars r with
    | some x, some xs => some (x :: xs)
    | _, _ => none

def ofConst : Value → Option V
  | .agg cs => (ofScalars cs.toList).map .agg
  | .tuple vs => if vs.size = 0 then some (.tup []) else none
  | v => ofScalar v

def argC (n : Nat) : Operand → Option Arg
  | .tmp t => if t < n then some (.t t) else none
  | .const v => (ofConst v).map .c
  | .func f => some (.c (.fn f []))
  | .global _ => none

def argsC (n : Nat) : List Operand → Option (List Arg)
  | [] => some []
  | x :: r => match argC n x, argsC n r with
    | some a, some as => some (a :: as)
    | _, _ => none

def argO (n : Nat) : Option Operand → Option (Option Arg)
  | none => some none
  | some x => (argC n x).map some

def aggT (P : Program) (t : TypeId) : Option Bool :=
  match P.underlying t with
  | some (.struct _) | some (.array _ _) => some true
  | some _ => some false
  | none => none

def sizeT (P : Program) (t : TypeId) : Option Nat := (P.info? t).map (·.size)
def bytesT (P : Program) (t : TypeId) : Option Nat := (P.info? t).map (·.bytes)
def zeroT (P : Program) (t : TypeId) : Option (List V) := match P.info? t with
  | some i => match i.zero with
    | some z => ofScalars z.cells.toList
    | none => none
  | none => none

def partsC (n : Nat) (place : Nat → Option (Nat × Nat)) : List (Nat × Operand) → Option (List (Nat × Nat × Arg))
  | [] => some []
  | (i, x) :: r => match place i, argC n x, partsC n place r with
    | some (off, sz), some a, some ps => some ((off, sz, a) :: ps)
    | _, _, _ => none

def seqParts (n : Nat) : Nat → List (Nat × Operand) → Option (List Arg)
  | _, [] => some []
  | i, (j, x) :: r => if i = j then match argC n x, seqParts n (i + 1) r with
      | some a, some as => some (a :: as)
      | _, _ => none
    else none

/-- The kinds of a struct's cells, where it is made of plain values alone (and is no stand-in's). -/
def plainFs (P : Program) (g : TypeId → Option (List LK)) : Nat → List Field → Option (List LK)
  | _, [] => some []
  | acc, f :: r => if f.name ≠ "_" ∧ f.offset = acc then match g f.type with
      | some ks => if sizeT P f.type = some ks.length then (plainFs P g (acc + ks.length) r).map (ks ++ ·) else none
      | none => none
    else none

def plainK (P : Program) : Nat → TypeId → Option (List LK)
  | 0, _ => none
  | d + 1, t => match P.underlying t with
    | some .bool => some [.b]
    | some (.int _) => some [.i]
    | some .string => some [.s]
    | some (.struct fs) => if P.stoodInHeld t then none else plainFs P (plainK P d) 0 fs.toList
    | _ => none

def isFn (P : Program) (f : FuncId) : Bool := match P.funcs[f]? with
  | some fn => fn.body.isSome && fn.name != "runtime.NumGoroutine"
  | none => false

def isU8 : TypeDesc → Bool
  | .int .u8 => true
  | _ => false

/-- Whose rows may be changed: those of functions with so many places (vary.Names, whose names are sorted). -/
def muN (n : Nat) : Bool := n == 43
def u8T (P : Program) (e : TypeId) : Bool := match P.underlying e with
  | some d => isU8 d
  | none => false

def callC (P : Program) (n : Nat) (c : Call) : Option Ins :=
  match c.callee with
  | .value (.func f) => if isFn P f then (argsC n c.args.toList).map (.call f) else none
  | .value (.tmp t) => if t < n then (argsC n c.args.toList).map (.callv (.t t)) else none
  | .value _ => none
  | .invoke _ _ => none
  | .builtin b =>
    match b, c.args.toList, c.argTypes.toList with
    | .len, [x], [t] => match P.underlying t with
      | some .string => (argC n x).map (.len 0)
      | some (.slice _) => (argC n x).map (.len 1)
      | some (.map _ _) => (argC n x).map (.len 2)
      | some (.array k _) => some (.lenArr k)
      | some (.pointer e) => match P.underlying e with
        | some (.array k _) => some (.lenArr k)
        | _ => none
      | _ => none
    | .append, [x, y], [t, u] => match P.underlying t with
      | some (.slice e) => match P.underlying u, P.underlying e, sizeT P e, bytesT P e, zeroT P e, argC n x, argC n y with
        | some (.int _), _, _, _, _, _, _ => none
        | some _, some d, some sz, some b, some z, some a, some a' => if sz = 0 ∨ b = 0 ∨ z.length ≠ sz then none else some (.app sz b (isU8 d || muN n) a a')
        | _, _, _, _, _, _, _ => none
      | _ => none
    | .copy, [x, y], [t, _] => match P.underlying t with
      | some (.slice e) => match sizeT P e, argC n x, argC n y with
        | some sz, some a, some a' => if sz = 0 then none else some (.copy sz a a')
        | _, _, _ => none
      | _ => none
    | .min, xs, _ => (argsC n xs).map .mn
    | .max, xs, _ => (argsC n xs).map .mx
    | .clear, [x], [t] => match P.underlying t with
      | some (.map _ _) => (argC n x).map .clear
      | _ => none
    | _, _, _ => none

def eqKind (P : Program) (t : TypeId) : Option EqK :=
  match P.underlying t with
  | some .bool => some .bool
  | some (.slice _) => some (.nil 0)
  | some (.map _ _) => some (.nil 1)
  | some (.func _ _ _) => some (.nil 2)
  | some (.pointer _) => some (.nil 3)
  | some (.struct _) => if P.eqGuardType P.depth t then none else (plainK P 8 t).map .agg
  | _ => none

/-- An operation without a call. n: how many temporaries there are. -/
def insC (P : Program) (n : Nat) (o : Oper) : Option Ins :=
  match o.op with
  | .move x | .assign x => (argC n x).map .mv
  | .pick c a b => match argC n c, argC n a, argC n b with
    | some c, some a, some b => some (.pick c a b)
    | _, _, _ => none
  | .alloc t => (zeroT P t).map .boxz
  | .box t x => (argC n x).map .box
  | .build t parts => match zeroT P t with
    | some z => match P.underlying t with
      | some (.struct fs) => if !(fs.toList.all fun f => (sizeT P f.type).isSome) then none else (partsC n (fun i => (fs[i]?).bind fun f => (sizeT P f.type).map fun s => (f.offset, s)) parts.toList).map (.build z)
      | some (.array _ e) => match sizeT P e with
        | some s => (partsC n (fun i => some (i * s, s)) parts.toList).map (.build z)
        | none => none
      | _ => none
    | none => none
  | .buildSlice t len parts => match P.underlying t with
    | some (.slice e) => match sizeT P e, zeroT P e, seqParts n 0 parts.toList with
      | some s, some z, some as => if 0 < s ∧ as.length = len ∧ len * s ≤ 2 ^ 24 ∧ z.length = s then (if s = 1 ∧ 8 ≤ len ∧ u8T P e = true then some (.bslb as) else some (.bsl s as)) else none
      | _, _, _ => none
    | _ => none
  | .load t a => match aggT P t, sizeT P t, argC n a with
    | some g, some s, some a => some (.load g s a)
    | _, _, _ => none
  | .store t a x => match sizeT P t, argC n a, argC n x with
    | some s, some a, some x => some (.store s a x)
    | _, _, _ => none
  | .nilCheck x => (argC n x).map .nilck
  | .binOp op t x y _ => match argC n x, argC n y with
    | some a, some b => match P.underlying t with
      | some (.int _) | some .string => some (.bin op a b)
      | _ => match op, eqKind P t with
        | .eql, some k => some (.eq k false a b)
        | .neq, some k => some (.eq k true a b)
        | _, _ => none
    | _, _ => none
  | .unOp op _ x => (argC n x).map (.un op)
  | .convert src dst x => match P.underlying src, P.underlying dst, argC n x with
    | some (.int _), some (.int k), some a => some (.toInt k a)
    | some .string, some .string, some a => some (.mvs a)
    | some (.slice e), some .string, some a => match P.underlying e with
      | some (.int .u8) => some (.toStr a)
      | _ => none
    | some .string, some (.slice e), some a => match P.underlying e with
      | some (.int .u8) => some (.toBytes a)
      | _ => none
    | some (.slice _), some (.slice e), some a => match P.underlying e with
      | some (.int .u8) => if src == dst then some (.mark a) else none
      | _ => none
    | _, _, _ => none
  | .makeFunc (.func f) first caps => if first.size = 0 then (argsC n caps.toList).map (.mkfn f) else none
  | .makeMap _ none => some .mkmap
  | .makeSlice t l c => match P.underlying t with
    | some (.slice e) => match sizeT P e, bytesT P e, zeroT P e, argC n l, argC n c with
      | some s, some b, some z, some l, some c => if 0 < s ∧ z.length = s ∧ 0 < b then some (.mksl s b z l c) else none
      | _, _, _, _, _ => none
    | _ => none
  | .slice t x lo hi mx => match argC n x, argO n lo, argO n hi, argO n mx with
    | some a, some lo, some hi, some mx => match P.underlying t with
      | some .string => match mx with
        | none => some (.slstr a lo hi)
        | some _ => none
      | some (.slice e) => match sizeT P e with
        | some s => if 0 < s then some (.slsl s a lo hi mx) else none
        | none => none
      | _ => none
    | _, _, _, _ => none
  | .fieldAddr t x f => match P.underlying t with
    | some (.struct fs) => match fs[f]? with
      | some fd => match sizeT P fd.type, argC n x with
        | some s, some a => if s = 0 then none else some (.faddr fd.offset a)
        | _, _ => none
      | none => none
    | _ => none
  | .field t x f => match P.underlying t with
    | some (.struct fs) => match fs[f]? with
      | some fd => match aggT P fd.type, sizeT P fd.type, argC n x with
        | some g, some s, some a => some (.fld fd.offset s g a)
        | _, _, _ => none
      | none => none
    | _ => none
  | .indexAddr t x i => match argC n x, argC n i with
    | some a, some j => match P.underlying t with
      | some (.slice e) => match sizeT P e with
        | some s => if 0 < s then some (.ixaSl s a j) else none
        | none => none
      | some (.array k e) => match sizeT P e with
        | some s => if 0 < s then some (.ixaArr k s a j) else none
        | none => none
      | _ => none
    | _, _ => none
  | .index t x i => match argC n x, argC n i with
    | some a, some j => match P.underlying t with
      | some .string => some (.ixStr a j)
      | some (.array k e) => match aggT P e, sizeT P e with
        | some g, some s => some (.ixArr k s g a j)
        | _, _ => none
      | _ => none
    | _, _ => none
  | .lookup t m k ok => match P.underlying t with
    | some (.map kt e) => match P.underlying kt, (P.info? e).bind (·.zero), argC n m, argC n k with
      | some .string, some z, some m, some k => (ofConst z).map fun z => .lookup .s z ok m k
      | some (.int _), some z, some m, some k => (ofConst z).map fun z => .lookup .i z ok m k
      | _, _, _, _ => none
    | _ => none
  | .mapUpdate t m k v | .insert t m k v => match P.underlying t with
    | some (.map kt _) => match P.underlying kt, argC n m, argC n k, argC n v with
      | some .string, some m, some k, some v => some (.mapset .s m k v)
      | some (.int _), some m, some k, some v => some (.mapset .i m k v)
      | _, _, _, _ => none
    | _ => none
  | .extract x i => (argC n x).map (.ext i)
  | .call c => callC P n c
  | _ => none

def guardC (ops : Array Oper) (n : Nat) : Option (Nat × Bool) → Option (Option (Nat × Bool))
  | none => some none
  | some (j, b) => match (ops[j]?).bind (·.dst) with
    | some t => if t < n then some (some (t, b)) else none
    | none => none

def dstOk (n : Nat) : Option Tmp → Bool
  | none => true
  | some d => d < n

def opC (P : Program) (ops : Array Oper) (n : Nat) (o : Oper) : Option OpC :=
  match guardC ops n o.guard, insC P n o with
  | some g, some i => if dstOk n o.dst then some { dst := o.dst, guard := g, ins := i } else none
  | _, _ => none

def opsC (P : Program) (ops : Array Oper) (n : Nat) : List Oper → Option (List OpC)
  | [] => some []
  | o :: r => match opC P ops n o, opsC P ops n r with
    | some a, some as => some (a :: as)
    | _, _ => none

/-- What an instruction looks at. -/
def Ins.args : Ins → List Arg
  | .mv a | .mvs a | .box a | .load _ _ a | .nilck a | .un _ a | .toInt _ a | .toStr a | .toBytes a | .mark a | .faddr _ a | .fld _ _ _ a | .ext _ a | .len _ a | .clear a => [a]
  | .pick a b c | .mapset _ a b c => [a, b, c]
  | .boxz _ | .mkmap | .lenArr _ => []
  | .build _ ps => ps.map (·.2.2)
  | .bsl _ ps => ps
  | .bslb ps => ps
  | .store _ a b | .bin _ a b | .eq _ _ a b | .lookup _ _ _ a b | .mksl _ _ _ a b | .ixaSl _ a b | .ixaArr _ _ a b | .ixArr _ _ _ a b | .ixStr a b | .app _ _ _ a b | .copy _ a b => [a, b]
  | .mkfn _ cs => cs
  | .slstr x l h => [x] ++ l.toList ++ h.toList
  | .slsl _ x l h m => [x] ++ l.toList ++ h.toList ++ m.toList
  | .mn xs | .mx xs | .call _ xs => xs
  | .callv g xs => g :: xs

def OpC.looks (o : OpC) (d : Nat) : Bool :=
  (o.ins.args.any fun | .t t => t == d | _ => false) || (match o.guard with | some (t, _) => t == d | none => false)

def looksO (ops : Array Oper) (o : Oper) (d : Nat) : Bool := (o.looksAt ops).contains d

/-- May the operations of a region be run in the text's order, whichever is drawn? -/
def waits (o : Oper) (i : Nat) : Bool := o.after.any fun e => Region.binds .any e && e.on == i

def drawOk (ops : Array Oper) (l : List OpC) : Bool :=
  (List.range l.length).all fun j => match ops[j]?, l[j]? with
    | some oj, some cj => (match oj.op with | .select _ _ => false | _ => true) &&
      (oj.after.all fun e => !Region.binds .any e || e.on < j) &&
      (List.range j).all fun i => match ops[i]?, l[i]? with
        | some oi, some ci => (match oi.dst with | some d => oj.dst != some d | none => true) &&
          (waits oj i || ((match oi.dst with | some d => !(looksO ops oj d) && !(cj.looks d) | none => true) && (match oj.dst with | some d => !(looksO ops oi d) && !(ci.looks d) | none => true)))
        | _, _ => false
    | _, _ => false

/-- What must have been run ahead of an operation, as bits: what it waits for, and what that waits for. -/
def maskOf (ms : List Nat) (o : Oper) : Nat :=
  o.after.toList.foldl (fun m e => if Region.binds .any e then m ||| (1 <<< e.on) ||| ms.getD e.on 0 else m) 0

def masks : List Oper → List Nat → List Nat
  | [], ms => ms
  | o :: r, ms => masks r (ms ++ [maskOf ms o])

/-- From which operation on each one waits for all before it. -/
def cutN (ms : List Nat) : Nat → Nat
  | 0 => 0
  | j + 1 => if ms.getD j 0 = 2 ^ j - 1 then cutN ms j else j + 1

/-- Does it write to what was there? -/
def isW : Ins → Bool
  | .store _ _ _ | .app _ _ _ _ _ | .copy _ _ _ | .mapset _ _ _ _ | .clear _ => true
  | _ => false

/-- May it be run late? -/
def lateI : Ins → Bool
  | .mv _ | .ext _ _ | .bin _ _ _ | .load _ _ _ => true
  | _ => false

def lateO : OpC → Bool
  | ⟨some _, none, i⟩ => lateI i
  | _ => false

/-- A region whose writers (from c1 on) wait for all ahead of them but for some that may be run late (fp). -/
def mOk (ms : List Nat) (l : List OpC) (c1 : Nat) (fp : List Nat) : Bool :=
  (fp.all fun i => decide (i < c1) && (match l[i]? with | some o => lateO o | none => false)) &&
  ((List.range l.length).all fun j => decide (j < c1) || ((match l[j]? with | some o => o.guard.isNone | none => false) && (List.range j).all fun i => (ms.getD j 0).testBit i || fp.contains i)) &&
  (fp.all fun i => (List.range l.length).all fun j => decide (j < i) || (match l[i]?, l[j]? with
    | some oi, some oj => (match oj.dst with | some d => !(oi.looks d) | none => true)
    | _, _ => false))

def latesOf (ms : List Nat) (c1 c : Nat) : List Nat := (List.range c1).filter fun i => (List.range c).any fun j => decide (c1 ≤ j) && !(ms.getD j 0).testBit i

def midC (ms : List Nat) (l : List OpC) : Option (Nat × List Nat) :=
  let c1 := l.findIdx fun o => isW o.ins
  let fp := latesOf ms c1 l.length
  if c1 < l.length ∧ mOk ms l c1 fp = true then some (c1, fp) else none

/-- The loads among what may be run late. -/
def flO : OpC → Option (Nat × Bool × Nat × Arg)
  | ⟨some d, none, .load g s a⟩ => some (d, g, s, a)
  | _ => none
def flI (l : List OpC) (fp : List Nat) : List (Nat × Bool × Nat × Arg) := fp.filterMap fun i => (l[i]?).bind flO

def codeC (P : Program) (n : Nat) : Code → Option C
  | .skip => some .skip
  | .label _ => some .skip
  | .region _ ops draw => match opsC P ops n ops.toList with
    | some l => if draw then (let c := cutN (masks ops.toList []) ops.size; if drawOk ops (l.take c) then (match midC (masks ops.toList []) (l.take c) with | some (c1, fp) => some (.mregion ((l.take c).take c1) ((l.take c).drop c1) (l.drop c) (flI (l.take c) fp)) | none => some (.dregion (l.take c) (l.drop c))) else none) else some (.region l)
    | none => none
  | .seq a b => match codeC P n a, codeC P n b with
    | some a, some b => some (.seq a b)
    | _, _ => none
  | .cond c a b => match argC n c, codeC P n a, codeC P n b with
    | some c, some a, some b => some (.cond c a b)
    | _, _, _ => none
  | .block id c => (codeC P n c).map (.block id)
  | .loop c => (codeC P n c).map .loop
  | .exit id => some (.exit id)
  | .ret => some .ret
  | _ => none

def resC (P : Program) (n : Nat) : ResultVar → Option Res
  | .tmp t => if t < n then some (.tmp t) else none
  | .cell t ty => match aggT P ty, sizeT P ty with
    | some g, some s => if t < n then some (.cell t g s) else none
    | _, _ => none

def ressC (P : Program) (n : Nat) : List ResultVar → Option (List Res)
  | [] => some []
  | x :: r => match resC P n x, ressC P n r with
    | some a, some as => some (a :: as)
    | _, _ => none

/-- A function, compiled. -/
def compF (P : Program) (f : FuncId) : Option FnC :=
  match P.funcs[f]? with
  | none => none
  | some fn => if fn.name == "runtime.NumGoroutine" then none else match fn.body with
    | none => none
    | some c => match ressC P fn.ntmps fn.results.toList, codeC P fn.ntmps c with
      | some rs, some b => some { ntmps := fn.ntmps, results := rs, body := b }
      | _, _ => none

end Go.Vm
