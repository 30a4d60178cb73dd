/- The abstract machine: a deterministic interpreter over the model's own code. Blocks are numbered in the order of the text; an append that may move makes a new block. -/
import Derived.WalkKit
import Derived.Orders
namespace Go.Am

/-- What a block of the abstract heap holds. 'own': the call made it (else it came in, and is only read); 'gr': it may be longer than is known; 'sz': cells an element. -/
inductive AObj where
 | row (own gr : Bool) (sz : Nat) (cells : List Value)
 | amap (es : List (Value × Value))
 | iter (s : ByteArray) (pos : Nat)
 | dead

/-- A heap as a tree, read by the bits of a block's number. -/
inductive Tr where
 | leaf
 | node (l : Tr) (v : Option AObj) (r : Tr)

def Tr.get : Tr → Nat → Option AObj
 | .leaf, _ => none
 | .node l v r, b => if b = 0 then v else if b % 2 = 1 then l.get (b / 2) else r.get (b / 2 - 1)

def Tr.mk : Nat → Nat → AObj → Tr
 | 0, _, o => .node .leaf (some o) .leaf
 | f + 1, b, o => if b = 0 then .node .leaf (some o) .leaf else if b % 2 = 1 then .node (Tr.mk f (b / 2) o) none .leaf else .node .leaf none (Tr.mk f (b / 2 - 1) o)

def Tr.set : Tr → Nat → AObj → Tr
 | .leaf, b, o => Tr.mk b b o
 | .node l v r, b, o => if b = 0 then .node l (some o) r else if b % 2 = 1 then .node (l.set (b / 2) o) v r else .node l v (r.set (b / 2 - 1) o)

structure AHeap where
 n : Nat
 t : Tr

def AHeap.get (H : AHeap) (b : Nat) : Option AObj := H.t.get b
def AHeap.set (H : AHeap) (b : Nat) (o : AObj) : AHeap := { H with t := H.t.set b o }
def AHeap.push (H : AHeap) (o : AObj) : AHeap := { n := H.n + 1, t := H.t.set H.n o }
def AHeap.empty : AHeap := { n := 0, t := .leaf }

/-- A value in which no address lies, of one cell. -/
def flat1 : Value → Bool
 | .bool _ | .int _ _ | .float _ _ | .complex _ _ _ | .string _ | .pointer none | .slice none 0 0 | .map none | .nilFunc | .nilIface => true
 | _ => false
def constOk : Value → Bool
 | .agg cs => cs.toList.all flat1
 | v => flat1 v

def oneCell : Value → Bool
 | .agg _ | .tuple _ => false
 | _ => true

def ev (tm : List Value) : Operand → Option Value
 | .tmp t => some (tm.getD t undef)
 | .const v => if constOk v then some v else none
 | .func f => some (.func (.func f) #[] #[])
 | .global _ => none

def evL (tm : List Value) : List Operand → Option (List Value)
 | [] => some []
 | x :: xs => match ev tm x, evL tm xs with
  | some v, some vs => some (v :: vs)
  | _, _ => none

def evP (tm : List Value) : List (Nat × Operand) → Option (List (Nat × Value))
 | [] => some []
 | x :: xs => match ev tm x.2, evP tm xs with
  | some v, some vs => some ((x.1, v) :: vs)
  | _, _ => none

/-- n cells from a place on. -/
def cut (l : List Value) (o n : Nat) : Option (List Value) :=
 if o + n ≤ l.length then some ((l.drop o).take n) else none

/-- cells put at a place. -/
def lay (l : List Value) (o : Nat) (vs : List Value) : Option (List Value) :=
 if o + vs.length ≤ l.length then some (l.take o ++ vs ++ l.drop (o + vs.length)) else none

def isAggD : TypeDesc → Bool
 | .struct _ | .array _ _ => true
 | _ => false

def aLoad (P : Program) (H : AHeap) (t : TypeId) (a : Value) : Option Value :=
 match a with
 | .pointer (some ⟨b, o, none⟩) =>
  match H.get b, P.underlying t with
  | some (.row _ _ _ cells), some d =>
   if isAggD d then
    match P.info? t with
    | some i => (cut cells o i.size).map fun l => .agg l.toArray
    | none => none
   else cells[o]?
  | _, _ => none
 | _ => none

def aStore (P : Program) (wm : Nat) (H : AHeap) (t : TypeId) (a v : Value) : Option AHeap :=
 match a, P.info? t with
 | .pointer (some ⟨b, o, none⟩), some i =>
  if wm ≤ b && v.cells.size == i.size && v.cells.toList.all oneCell then
   match H.get b with
   | some (.row true gr sz cells) => (lay cells o v.cells.toList).map fun l => H.set b (.row true gr sz l)
   | _ => none
  else none
 | _, _ => none

/-- a new variable. -/
def aBox (H : AHeap) (v : Value) : Option (Value × AHeap) :=
 if v.cells.toList.all oneCell then some (.pointer (some ⟨H.n, 0, none⟩), H.push (.row true false v.cells.size v.cells.toList)) else none

def zeroOf (P : Program) (t : TypeId) : Option Value := (P.info? t).bind (·.zero)
def sizeOf' (P : Program) (t : TypeId) : Option Nat := (P.info? t).map (·.size)

def sizesOf (P : Program) : List Field → Option (List (Nat × Nat))
 | [] => some []
 | f :: fs => match sizeOf' P f.type, sizesOf P fs with
  | some s, some l => some ((f.offset, s) :: l)
  | _, _ => none

def aBuild (P : Program) (t : TypeId) (parts : List (Nat × Value)) : Option Value :=
 match zeroOf P t, P.underlying t with
 | some z, some (.struct fields) =>
  if constOk z then
   match sizesOf P fields.toList with
   | some places => (Instr.fill (places[·]?) z.cells parts).map .agg
   | none => none
  else none
 | some z, some (.array _ elem) =>
  if constOk z then
   match sizeOf' P elem with
   | some size => (Instr.fill (fun i => some (i * size, size)) z.cells parts).map .agg
   | none => none
  else none
 | _, _ => none

def zeros (z : Value) (n : Nat) : Array Value := (Array.range n).map (z.cells[· % z.cells.size]!)

def aBuildSlice (P : Program) (H : AHeap) (t : TypeId) (len : Nat) (parts : List (Nat × Value)) : Option (Value × AHeap) :=
 match P.underlying t with
 | some (.slice elem) =>
  match sizeOf' P elem, zeroOf P elem with
  | some size, some z =>
   if len * size ≤ 2 ^ 24 && constOk z && z.cells.size == size && 0 < size then
    match Instr.fill (fun i => some (i * size, size)) (zeros z (len * size)) parts with
    | some cells => if cells.toList.all oneCell then some (.slice (some ⟨H.n, 0, none⟩) len len, H.push (.row true false size cells.toList)) else none
    | none => none
   else none
  | _, _ => none
 | _ => none

def aMakeSlice (P : Program) (H : AHeap) (t : TypeId) (l c : Value) : Option (Value × AHeap) :=
 match P.underlying t, l, c with
 | some (.slice elem), .int .i64 l, .int .i64 c =>
  match P.info? elem with
  | some i =>
   match i.zero with
   | some z =>
    if constOk z && z.cells.size == i.size && 0 < i.size then
     if 0 ≤ l ∧ l ≤ c ∧ i.bytes * c ≤ 2 ^ 48 ∧ c ≤ 2 ^ 62 then
      some (.slice (some ⟨H.n, 0, none⟩) l.toNat c.toNat, H.push (.row true false i.size (zeros z (c.toNat * i.size)).toList))
     else none
    else none
   | none => none
  | none => none
 | _, _, _ => none

def bnd (y : Nat) : Option Value → Option (Option Nat)
 | none => some none
 | some (.int _ i) => if 0 ≤ i ∧ i ≤ y then some (some i.toNat) else none
 | some _ => none

def aSlice (P : Program) (H : AHeap) (t : TypeId) (x : Value) (lo hi mx : Option Value) : Option Value :=
 match P.underlying t, x with
 | some .string, .string s =>
  match mx with
  | some _ => none
  | none =>
   match bnd s.size hi with
   | some h => match bnd (h.getD s.size) lo with
    | some l => some (.string (s.extract (l.getD 0) (h.getD s.size)))
    | none => none
   | none => none
 | some (.slice elem), .slice a len cap =>
  match sizeOf' P elem with
  | none => none
  | some size =>
   match bnd cap mx with
   | none => none
   | some m =>
    if m.isSome && hi.isNone then none else
    match bnd (m.getD cap) hi with
    | none => none
    | some h =>
     match bnd (h.getD len) lo with
     | none => none
     | some l =>
      match a with
      | none => some (.slice none ((h.getD len) - l.getD 0) ((m.getD cap) - l.getD 0))
      | some ⟨b, o, none⟩ =>
       match H.get b with
       | some (.row _ _ sz _) => if sz = size then some (.slice (some ⟨b, o + l.getD 0 * size, none⟩) ((h.getD len) - l.getD 0) ((m.getD cap) - l.getD 0)) else none
       | _ => none
      | _ => none
 | _, _ => none

def aFieldAddr (P : Program) (t : TypeId) (x : Value) (i : Nat) : Option Value :=
 match P.underlying t, x with
 | some (.struct fields), .pointer (some ⟨b, o, none⟩) =>
  match fields[i]? with
  | some f => match sizeOf' P f.type with
   | some s => if s = 0 then none else some (.pointer (some ⟨b, o + f.offset, none⟩))
   | none => none
  | none => none
 | _, _ => none

def aPart (P : Program) (t : TypeId) (cs : List Value) (off : Nat) : Option Value :=
 match P.underlying t with
 | some d =>
  if isAggD d then
   match sizeOf' P t with
   | some s => (cut cs off s).map fun l => .agg l.toArray
   | none => none
  else cs[off]?
 | none => none

def aField (P : Program) (t : TypeId) (x : Value) (i : Nat) : Option Value :=
 match P.underlying t, x with
 | some (.struct fields), .agg cs =>
  match fields[i]? with
  | some f => aPart P f.type cs.toList f.offset
  | none => none
 | _, _ => none

def aIndexAddr (P : Program) (t : TypeId) (x i : Value) : Option Value :=
 match P.underlying t, x, i with
 | some (.slice elem), .slice (some ⟨b, o, none⟩) len _, .int _ i =>
  match sizeOf' P elem with
  | some size => if 0 ≤ i ∧ i < len then some (.pointer (some ⟨b, o + i.toNat * size, none⟩)) else none
  | none => none
 | some (.array len elem), .pointer (some ⟨b, o, none⟩), .int _ i =>
  match sizeOf' P elem with
  | some size => if 0 ≤ i ∧ i < len then some (.pointer (some ⟨b, o + i.toNat * size, none⟩)) else none
  | none => none
 | _, _, _ => none

def aIndex (P : Program) (t : TypeId) (x i : Value) : Option Value :=
 match P.underlying t, x, i with
 | some (.array len elem), .agg cs, .int _ i =>
  match sizeOf' P elem with
  | some size => if 0 ≤ i ∧ i < len then aPart P elem cs.toList (i.toNat * size) else none
  | none => none
 | some .string, .string s, .int _ i =>
  if 0 ≤ i then
   match s[i.toNat]? with
   | some b => some (.int .u8 b.toNat)
   | none => none
  else none
 | _, _, _ => none

def aInt (op : BinOp) (k : IntKind) (x y : Int) : Option Value :=
 match op with
 | .add => some (.int k (k.wrap (x + y)))
 | .sub => some (.int k (k.wrap (x - y)))
 | .mul => some (.int k (k.wrap (x * y)))
 | .quo => if y = 0 then none else some (.int k (k.wrap (x.tdiv y)))
 | .rem => if y = 0 then none else some (.int k (x.tmod y))
 | .and => some (.int k (k.wrap (BitVec.ofInt k.bits x &&& BitVec.ofInt k.bits y).toNat))
 | .or => some (.int k (k.wrap (BitVec.ofInt k.bits x ||| BitVec.ofInt k.bits y).toNat))
 | .xor => some (.int k (k.wrap (BitVec.ofInt k.bits x ^^^ BitVec.ofInt k.bits y).toNat))
 | .andNot => some (.int k (k.wrap (BitVec.ofInt k.bits x &&& ~~~BitVec.ofInt k.bits y).toNat))
 | .eql => some (.bool (x == y))
 | .neq => some (.bool (x != y))
 | .lss => some (.bool (x < y))
 | .leq => some (.bool (x ≤ y))
 | .gtr => some (.bool (x > y))
 | .geq => some (.bool (x ≥ y))
 | _ => none

def aShift (op : BinOp) (k : IntKind) (x y : Int) : Option Value :=
 if y < 0 then none else
 match op with
 | .shl => some (.int k (k.wrap (x * 2 ^ (min y.toNat k.bits))))
 | .shr => some (.int k (x.fdiv (2 ^ (min y.toNat k.bits))))
 | _ => none

def fArith (op : BinOp) (k : FloatKind) (x y : Nat) : Option Nat :=
 match op with
 | .add => k.format.add x y
 | .sub => k.format.sub x y
 | .mul => k.format.mul x y
 | .quo => k.format.div x y
 | _ => none

def cMul (k : FloatKind) (a b c d : Nat) : Option (Nat × Nat) :=
 match fArith .mul k a c, fArith .mul k b d, fArith .mul k a d, fArith .mul k b c with
 | some p, some q, some r, some s =>
  match fArith .sub k p q, fArith .add k r s with
  | some x, some y => some (x, y)
  | _, _ => none
 | _, _, _, _ => none

def aStr (op : BinOp) (x y : ByteArray) : Option Value :=
 match op with
 | .add => if x.size + y.size ≤ 2 ^ 62 then some (.string (x ++ y)) else none
 | .eql => some (.bool (x.toList == y.toList))
 | .neq => some (.bool !(x.toList == y.toList))
 | _ => none

def eq1 : TypeDesc → Value → Value → Option Bool
 | .bool, .bool a, .bool b => some (a == b)
 | .int _, .int k a, .int k' b => if k = k' then some (a == b) else none
 | .string, .string a, .string b => some (a == b)
 | _, _, _ => none

def eqF (P : Program) (xs ys : List Value) : List Field → Option Bool
 | [] => some true
 | f :: fs =>
  if f.name ≠ "_" then
   match P.underlying f.type, xs[f.offset]?, ys[f.offset]? with
   | some d, some x, some y =>
    match eq1 d x y with
    | some true => eqF P xs ys fs
    | some false => some false
    | none => none
   | _, _, _ => none
  else none

def aEq (P : Program) (t : TypeId) (x y : Value) : Option Bool :=
 match P.underlying t, x, y with
 | some .bool, .bool a, .bool b => some (a == b)
 | some (.slice _), .slice a _ _, .slice none _ _ => some a.isNone
 | some (.func _ _ _), .nilFunc, .nilFunc => some true
 | some (.func _ _ _), .func _ _ _, .nilFunc => some false
 | some (.struct fields), .agg xs, .agg ys =>
  if P.eqGuardType P.depth t || P.stoodInHeld t then none else eqF P xs.toList ys.toList fields.toList
 | _, _, _ => none

def aBin (P : Program) (op : BinOp) (t : TypeId) (x y : Value) : Option Value :=
 match x, y with
 | .int k a, .int k' b =>
  match op with
  | .shl | .shr => aShift op k a b
  | _ => if k = k' then aInt op k a b else none
 | .complex .f64 a b, .complex .f64 c d =>
  match op with
  | .mul => (cMul .f64 a b c d).map fun r => .complex .f64 r.1 r.2
  | _ => none
 | .string a, .string b => aStr op a b
 | _, _ =>
  match op with
  | .eql => (aEq P t x y).map .bool
  | .neq => (aEq P t x y).map fun b => .bool !b
  | _ => none

def aUn (op : UnOp) (x : Value) : Option Value :=
 match op, x with
 | .neg, .int k n => some (.int k (k.wrap (0 - n)))
 | .not, .bool b => some (.bool !b)
 | .neg, .float k b => some (.float k (Op.negFloat k b))
 | _, _ => none

def bytesOf : List Value → Option (List UInt8)
 | [] => some []
 | .int .u8 n :: r => (bytesOf r).map (UInt8.ofNat n.toNat :: ·)
 | _ :: _ => none

def aConv (P : Program) (H : AHeap) (src dst : TypeId) (x : Value) : Option (Value × AHeap) :=
 match P.underlying src, P.underlying dst, x with
 | some (.int _), some (.int k), .int _ n => some (.int k (k.wrap n), H)
 | some (.int _), some (.float k), .int _ n => some (.float k (k.nearest n), H)
 | some (.float _), some (.int k), .float s b =>
  match (s.decode b).toInt .zero with
  | some n => if k.min ≤ n ∧ n ≤ k.max then some (.int k n, H) else none
  | none => none
 | some (.int _), some .string, .int _ n => some (.string (Utf8.encode n), H)
 | some .string, some .string, .string s => some (.string s, H)
 | some (.slice e), some .string, .slice a len _ =>
  match P.underlying e, a with
  | some (.int .u8), none => some (.string .empty, H)
  | some (.int .u8), some ⟨b, o, none⟩ =>
   match H.get b with
   | some (.row _ _ _ cells) => ((cut cells o len).bind bytesOf).map fun l => (.string ⟨l.toArray⟩, H)
   | _ => none
  | _, _ => none
 | some .string, some (.slice e), .string s =>
  match P.underlying e with
  | some (.int .u8) => if s.size ≤ 4611686018427387904 then some (.slice (some ⟨H.n, 0, none⟩) s.size s.size, H.push (.row true true 1 (s.data.toList.map fun b => .int .u8 b.toNat))) else none
  | _ => none
 | _, _, _ => none

/-- the cells of what is appended or copied: n elements of 'size' cells. -/
def aCells (H : AHeap) (size : Nat) (x : Value) : Option (Nat × List Value) :=
 match x with
 | .slice none _ _ => some (0, [])
 | .slice (some ⟨b, o, none⟩) n _ =>
  match H.get b with
  | some (.row _ _ _ cells) => (cut cells o (n * size)).map fun l => (n, l)
  | _ => none
 | .string s => if size = 1 then some (s.size, s.data.toList.map fun b => .int .u8 b.toNat) else none
 | _ => none

def roomy (need bytes : Nat) : Bool := decide (need * bytes ≤ 140737488355328) && decide (0 < bytes)

def aAppend (P : Program) (wm : Nat) (H : AHeap) (st xt : TypeId) (s x : Value) : Option (Value × AHeap) :=
 match P.underlying st, P.underlying xt with
 | some (.slice elem), some xd =>
  match P.info? elem with
  | none => none
  | some i =>
   match (match xd with | .slice _ | .string => aCells H i.size x | _ => none), i.zero with
   | some (n, new), some z =>
    if constOk z && z.cells.size == i.size && 0 < i.size then
     if n = 0 then
      match s with
      | .slice _ _ _ => some (s, H)
      | _ => none
     else
      match s with
      | .slice none _ _ =>
       if roomy n i.bytes then some (.slice (some ⟨H.n, 0, none⟩) n n, H.push (.row true true i.size new)) else none
      | .slice (some ⟨b, o, none⟩) len cap =>
       match H.get b with
       | some (.row own gr sz cells) =>
        if sz ≠ i.size then none
        else if len + n ≤ cap then
         if own && decide (wm ≤ b) then (lay cells (o + len * i.size) new).map fun l => (.slice (some ⟨b, o, none⟩) (len + n) cap, H.set b (.row true gr sz l))
         else none
        else
         match cut cells o (len * i.size) with
         | none => none
         | some old =>
          if !roomy (len + n) i.bytes then none
          else if !gr || decide (o + cap * i.size < cells.length) then
           some (.slice (some ⟨H.n, 0, none⟩) (len + n) (len + n), H.push (.row true true i.size (old ++ new)))
          else if own && decide (wm ≤ b) then
           some (.slice (some ⟨H.n, 0, none⟩) (len + n) (len + n), (H.set b .dead).push (.row true true i.size (old ++ new)))
          else none
       | _ => none
      | _ => none
    else none
   | _, _ => none
 | _, _ => none

/-- as many zeros, put behind nothing. -/
def aAppendZ (P : Program) (H : AHeap) (st : TypeId) (s x : Value) : Option (Value × AHeap) :=
 match P.underlying st, s, x with
 | some (.slice elem), .slice none _ _, .int .i64 n =>
  match P.info? elem with
  | some i =>
   match i.zero with
   | some z =>
    if constOk z && z.cells.size == i.size && decide (0 < i.size) && decide (0 < n) && roomy n.toNat i.bytes then
     some (.slice (some ⟨H.n, 0, none⟩) n.toNat n.toNat, H.push (.row true true i.size (zeros z (n.toNat * i.size)).toList))
    else none
   | none => none
  | none => none
 | _, _, _ => none

def isIntD : Option TypeDesc → Bool
 | some (.int _) => true
 | _ => false

def aCopy (P : Program) (wm : Nat) (H : AHeap) (dt : TypeId) (dst src : Value) : Option (Value × AHeap) :=
 match P.underlying dt, dst with
 | some (.slice elem), .slice a len _ =>
  match sizeOf' P elem with
  | none => none
  | some size =>
   match aCells H size src with
   | none => none
   | some (n, l) =>
    match a with
    | none => some (goInt 0, H)
    | some ⟨b, o, none⟩ =>
     if wm ≤ b then
      match H.get b with
      | some (.row true gr sz cells) =>
       if sz = size then (lay cells o (l.take (Nat.min n len * size))).map fun r => (goInt (Nat.min n len), H.set b (.row true gr sz r))
       else none
      | _ => none
     else none
    | _ => none
 | _, _ => none

def aClear (P : Program) (wm : Nat) (H : AHeap) (t : TypeId) (x : Value) : Option (Value × AHeap) :=
 match P.underlying t, x with
 | some (.slice _), .slice none _ _ => some (.tuple #[], H)
 | some (.slice _), .slice _ 0 _ => some (.tuple #[], H)
 | some (.slice elem), .slice (some ⟨b, o, none⟩) n _ =>
  match P.info? elem with
  | some i =>
   match i.zero with
   | some z =>
    if constOk z && z.cells.size == i.size && decide (wm ≤ b) then
     match H.get b with
     | some (.row true gr sz cells) => if sz = i.size then (lay cells o (zeros z (n * i.size)).toList).map fun r => (.tuple #[], H.set b (.row true gr sz r)) else none
     | _ => none
    else none
   | none => none
  | none => none
 | _, _ => none

def minI : List Value → Option Value
 | [.int k a, .int k' b] => if k = k' then some (.int k (if b < a then b else a)) else none
 | _ => none
def maxI : List Value → Option Value
 | [.int k a, .int k' b] => if k = k' then some (.int k (if a < b then b else a)) else none
 | _ => none

def aLen (P : Program) (t : TypeId) (x : Value) : Option Value :=
 match P.underlying t, x with
 | some .string, .string s => some (goInt s.size)
 | some (.slice _), .slice _ n _ => some (goInt n)
 | some (.array n _), _ => some (goInt n)
 | _, _ => none

def aCap (P : Program) (H : AHeap) (t : TypeId) (x : Value) : Option Value :=
 match P.underlying t, x with
 | some (.slice _), .slice none _ c => some (goInt c)
 | some (.slice _), .slice (some ⟨b, o, none⟩) _ c =>
  match H.get b with
  | some (.row _ gr sz cells) => if !gr || decide (o + c * sz < cells.length) then some (goInt c) else none
  | _ => none
 | _, _ => none

def aBuiltin (P : Program) (wm : Nat) (H : AHeap) (b : Builtin) (ts : List TypeId) (args : List Value) : Option (Value × AHeap) :=
 match b, ts, args with
 | .len, t :: _, x :: _ => (aLen P t x).map (·, H)
 | .append, [st, xt], [s, x] => if isIntD (P.underlying xt) then aAppendZ P H st s x else aAppend P wm H st xt s x
 | .copy, dt :: _, [d, s] => aCopy P wm H dt d s
 | .clear, t :: _, [x] => aClear P wm H t x
 | .min, _, l => (minI l).map (·, H)
 | .max, _, l => (maxI l).map (·, H)
 | .real, _, [.complex k re _] => some (.float k re, H)
 | .imag, _, [.complex k _ im] => some (.float k im, H)
 | .complex, _, [.float k a, .float k' b] => if k = k' then some (.complex k a b, H) else none
 | .cap, t :: _, [x] => (aCap P H t x).map (·, H)
 | _, _, _ => none

def findS (k : ByteArray) : List (Value × Value) → Option (Option Value)
 | [] => some none
 | (.string s, v) :: r => if k == s then some (some v) else findS k r
 | _ :: _ => none

def aLookup (P : Program) (H : AHeap) (t : TypeId) (x k : Value) (ok : Bool) : Option Value :=
 match P.underlying t, x, k with
 | some (.map kt et), .map (some r), .string s =>
  match P.underlying kt, H.get r, zeroOf P et with
  | some .string, some (.amap es), some z =>
   if constOk z then
    match findS s es with
    | some (some v) => some (if ok then .tuple #[v, .bool true] else v)
    | some none => some (if ok then .tuple #[z, .bool false] else z)
    | none => none
   else none
  | _, _, _ => none
 | _, _, _ => none

def aInsert (P : Program) (wm : Nat) (H : AHeap) (t : TypeId) (x k v : Value) : Option AHeap :=
 match P.underlying t, x, k with
 | some (.map kt _), .map (some r), .string s =>
  match P.underlying kt, H.get r with
  | some .string, some (.amap es) =>
   if wm ≤ r then
    match findS s es with
    | some none => some (H.set r (.amap (es ++ [(k, v)])))
    | _ => none
   else none
  | _, _ => none
 | _, _, _ => none

def aNext (wm : Nat) (H : AHeap) (it : Value) : Option (Value × AHeap) :=
 match it with
 | .pointer (some ⟨r, 0, none⟩) =>
  match H.get r with
  | some (.iter s pos) =>
   if pos < s.size then
    if wm ≤ r then
     let d := Utf8.decode s pos
     some (.tuple #[.bool true, goInt pos, .int .i32 d.1], H.set r (.iter s (pos + d.2)))
    else none
   else some (.tuple #[.bool false], H)
  | _ => none
 | _ => none

/-- One operation that calls no function of Go's. -/
def aOp (P : Program) (wm : Nat) (tm : List Value) (H : AHeap) (op : Op) : Option (Value × AHeap) :=
 match op with
 | .move x | .assign x => (ev tm x).map (·, H)
 | .pick c a b => match ev tm c with
  | some (.bool t) => (if t then ev tm a else ev tm b).map (·, H)
  | _ => none
 | .alloc t => (zeroOf P t).bind fun z => if constOk z then aBox H z else none
 | .box _ x => (ev tm x).bind (aBox H)
 | .build t ps => (evP tm ps.toList).bind fun l => (aBuild P t l).map (·, H)
 | .buildSlice t n ps => (evP tm ps.toList).bind fun l => aBuildSlice P H t n l
 | .load t x => (ev tm x).bind fun a => (aLoad P H t a).map (·, H)
 | .store t x y => match ev tm x, ev tm y with
  | some a, some v => (aStore P wm H t a v).map (undef, ·)
  | _, _ => none
 | .nilCheck x => match ev tm x with
  | some (.pointer (some a)) => some (.pointer (some a), H)
  | some (.func (.func f) fs cs) => some (.func (.func f) fs cs, H)
  | _ => none
 | .binOp op t x y _ => match ev tm x, ev tm y with
  | some a, some b => (aBin P op t a b).map (·, H)
  | _, _ => none
 | .unOp op _ x => (ev tm x).bind fun a => (aUn op a).map (·, H)
 | .convert s d x => (ev tm x).bind (aConv P H s d)
 | .makeFunc fn first cs => if first.isEmpty then (evL tm cs.toList).map fun l => (.func fn #[] l.toArray, H) else none
 | .makeMap _ none => some (.map (some H.n), H.push (.amap []))
 | .makeSlice t l c => match ev tm l, ev tm c with
  | some a, some b => aMakeSlice P H t a b
  | _, _ => none
 | .slice t x lo hi mx => match ev tm x, evL tm lo.toList, evL tm hi.toList, evL tm mx.toList with
  | some a, some l, some h, some m => (aSlice P H t a l.head? h.head? m.head?).map (·, H)
  | _, _, _, _ => none
 | .fieldAddr t x i => (ev tm x).bind fun a => (aFieldAddr P t a i).map (·, H)
 | .field t x i => (ev tm x).bind fun a => (aField P t a i).map (·, H)
 | .indexAddr t x i => match ev tm x, ev tm i with
  | some a, some b => (aIndexAddr P t a b).map (·, H)
  | _, _ => none
 | .index t x i => match ev tm x, ev tm i with
  | some a, some b => (aIndex P t a b).map (·, H)
  | _, _ => none
 | .lookup t x k ok => match ev tm x, ev tm k with
  | some a, some b => (aLookup P H t a b ok).map (·, H)
  | _, _ => none
 | .insert t m k v => match ev tm m, ev tm k, ev tm v with
  | some a, some b, some c => if oneCell c then (aInsert P wm H t a b c).map (undef, ·) else none
  | _, _, _ => none
 | .range t x => match P.underlying t, ev tm x with
  | some .string, some (.string s) => some (.pointer (some ⟨H.n, 0, none⟩), H.push (.iter s 0))
  | _, _ => none
 | .next it true => (ev tm it).bind (aNext wm H)
 | .extract x i => match ev tm x with
  | some (.tuple vs) => vs.toList[i]?.map (·, H)
  | _ => none
 | .call { callee := .builtin b, args, argTypes } => (evL tm args.toList).bind fun l => aBuiltin P wm H b argTypes.toList l
 | _ => none

/-- A call of a function of Go's: which, and with what. -/
def aCallee (tm : List Value) (op : Op) : Option (FuncId × List Value) :=
 match op with
 | .call { callee := .value f, args, .. } =>
  match ev tm f, evL tm args.toList with
  | some (.func (.func g) first cs), some l => if first.isEmpty then some (g, l ++ cs.toList) else none
  | _, _ => none
 | _ => none

def isLit : Op → Bool
 | .buildSlice .. => true
 | _ => false
/-- An append onto a literal of the same statement: it makes a new block for certain. -/
def litBase (ops : Array Oper) : Op → Bool
 | .call { callee := .builtin .append, args, .. } =>
  match args.toList with
  | Operand.tmp t :: _ => ops.toList.any fun x => x.dst == some t && isLit x.op
  | _ => false
 | _ => false

def isCall : Op → Bool
 | .call { callee := .value _, .. } => true
 | _ => false

def putV (tm : List Value) (dst : Option Tmp) (v : Value) : List Value :=
 match dst with
 | some d => tm.set d v
 | none => tm

def gotB (ops : Array Oper) (tm : List Value) (j : Nat) : Option Bool :=
 match ((ops[j]?).bind (·.dst)).bind (tm[·]?) with
 | some (.bool b) => some b
 | _ => none

def resOf (P : Program) (tm : List Value) (H : AHeap) : ResultVar → Option Value
 | .tmp t => some (tm.getD t undef)
 | .cell a t => aLoad P H t (tm.getD a undef)

def ress (P : Program) (tm : List Value) (H : AHeap) : List ResultVar → Option (List Value)
 | [] => some []
 | r :: rs => match resOf P tm H r, ress P tm H rs with
  | some v, some vs => some (v :: vs)
  | _, _ => none

def pack : List Value → Value
 | [v] => v
 | l => .tuple l.toArray

inductive AEx where
 | normal
 | exit (id : Nat)
 | ret

abbrev CallF := Nat → FuncId → List Value → AHeap → Option (Value × AHeap)

def aOps (P : Program) (cf : CallF) (wm : Nat) (draw : Bool) (ops : Array Oper) : List Oper → List Value → AHeap → Option (List Value × AHeap)
 | [], tm, H => some (tm, H)
 | o :: rest, tm, H =>
  if Region.wanted o (gotB ops tm) then
   if isCall o.op then
    match aCallee tm o.op with
    | none => none
    | some (f, args) =>
     match cf (if draw then H.n else wm) f args H with
     | none => none
     | some (v, H') => aOps P cf wm draw ops rest (putV tm o.dst v) H'
   else
    match aOp P (if draw && litBase ops o.op then H.n else wm) tm H o.op with
    | none => none
    | some (v, H') => aOps P cf wm draw ops rest (putV tm o.dst v) H'
  else aOps P cf wm draw ops rest (putV tm o.dst undef) H

abbrev CodeR := Option (AEx × List Value × AHeap)

/-- At most n rounds. -/
def iterL (f : List Value → AHeap → CodeR) : Nat → List Value → AHeap → CodeR
 | 0, _, _ => none
 | n + 1, tm, H =>
  match f tm H with
  | some (.normal, tm', H') => iterL f n tm' H'
  | r => r

def aCode (P : Program) (F : Nat) (cf : CallF) (wm : Nat) : Code → List Value → AHeap → CodeR
 | .skip, tm, H => some (.normal, tm, H)
 | .region _ ops draw, tm, H =>
  match aOps P cf wm draw ops ops.toList tm H with
  | some (tm', H') => some (.normal, tm', H')
  | none => none
 | .seq a b, tm, H =>
  match aCode P F cf wm a tm H with
  | some (.normal, tm', H') => aCode P F cf wm b tm' H'
  | r => r
 | .cond c a b, tm, H =>
  match ev tm c with
  | some (.bool t) => if t then aCode P F cf wm a tm H else aCode P F cf wm b tm H
  | _ => none
 | .block id body, tm, H =>
  match aCode P F cf wm body tm H with
  | some (.exit id', tm', H') => if id' = id then some (.normal, tm', H') else some (.exit id', tm', H')
  | r => r
 | .loop body, tm, H => iterL (fun tm H => aCode P F cf wm body tm H) F tm H
 | .exit id, tm, H => some (.exit id, tm, H)
 | .label _, tm, H => some (.normal, tm, H)
 | .ret, tm, H => some (.ret, tm, H)
 | _, _, _ => none

def aCall (P : Program) (F : Nat) : Nat → CallF
 | 0 => fun _ _ _ _ => none
 | d + 1 => fun wm f args H =>
  match P.funcs[f]? with
  | none => none
  | some fn =>
   match fn.body with
   | none => none
   | some c =>
    match aCode P F (aCall P F d) wm c (args ++ List.replicate (fn.ntmps - args.length) undef) H with
    | some (.exit _, _, _) => none
    | some (_, tm, H') =>
     match ress P tm H' fn.results.toList with
     | some vs => some (pack vs, H')
     | none => none
    | none => none
end Go.Am
