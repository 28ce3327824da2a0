/-
  The abstract machine: heap, values, operations and code as plain functions; nothing is proved here.
  Conditions: none (definitions).
-/
import Derived.Orders
import Derived.Scope
import Derived.WalkKit
namespace Go.Abs

/-- A block: its cells. -/
abbrev Blk := List Value

/-- A tree of blocks, by number. -/
inductive Tr where
  | nil
  | node (l : Tr) (v : Option Blk) (r : Tr)

def Tr.get : Tr → Nat → Option Blk
  | .nil, _ => none
  | .node l v r, n => if n = 0 then v else if n % 2 = 1 then l.get (n / 2) else r.get (n / 2 - 1)

def Tr.setF : Nat → Tr → Nat → Option Blk → Tr
  | 0, t, _, _ => t
  | f + 1, .nil, n, x =>
    if n = 0 then .node .nil x .nil else if n % 2 = 1 then .node (Tr.setF f .nil (n / 2) x) none .nil else .node .nil none (Tr.setF f .nil (n / 2 - 1) x)
  | f + 1, .node l v r, n, x =>
    if n = 0 then .node l x r else if n % 2 = 1 then .node (Tr.setF f l (n / 2) x) v r else .node l v (Tr.setF f r (n / 2 - 1) x)

def Tr.set (t : Tr) (n : Nat) (x : Option Blk) : Tr := Tr.setF (n + 1) t n x

/-- Blocks below n0 are those of the world in which the run began, as far as 'old' shows them; nobody writes there. -/
structure Heap where
  n0 : Nat
  old : Nat → Option (List Value)
  new : Tr
  cnt : Nat

def Heap.next (h : Heap) : Nat := h.n0 + h.cnt
def Heap.get (h : Heap) (b : Nat) : Option Blk := if b < h.n0 then h.old b else if b < h.n0 + h.cnt then h.new.get (b - h.n0) else none
def Heap.put (h : Heap) (b : Nat) (x : Option Blk) : Heap := { h with new := h.new.set (b - h.n0) x }
def Heap.set (h : Heap) (b : Nat) (x : Blk) : Heap := h.put b (some x)
def Heap.kill (h : Heap) (b : Nat) : Heap := h.put b none
def Heap.alloc (h : Heap) (x : Blk) : Heap := { h with new := h.new.set h.cnt (some x), cnt := h.cnt + 1 }

abbrev Out := Option (Value × Heap)

/-- Values of one cell that lead to no memory. -/
def flat : Value → Bool
  | .bool _ | .int _ _ | .float _ _ | .complex _ _ _ | .string _ | .pointer none | .slice none _ _ | .map none | .chan none | .nilFunc | .nilIface => true
  | .func (.func _) f c => f.isEmpty && c.isEmpty
  | _ => false

def flatAll (l : List Value) : Bool := l.all flat

/-- Values that lead to no memory. -/
def ground : Value → Bool
  | .agg cs => flatAll cs.toList
  | v => flat v

def aggT (P : Program) (t : TypeId) : Option Bool :=
  match P.underlying t with
  | some (.struct _) | some (.array _ _) => some true
  | some _ => some false
  | none => none
def sizeT (P : Program) (t : TypeId) : Option Nat := (P.info? t).map (·.size)
def bytesT (P : Program) (t : TypeId) : Option Nat := (P.info? t).map (·.bytes)
def zeroT (P : Program) (t : TypeId) : Option Value := (P.info? t).bind (·.zero)
def elemT (P : Program) (t : TypeId) : Option TypeId :=
  match P.underlying t with
  | some (.slice e) => some e
  | _ => none

def splice (l : List Value) (off : Nat) (xs : List Value) : List Value := l.take off ++ xs ++ l.drop (off + xs.length)

/-- The address in a pointer. -/
def addrOf : Value → Option (Nat × Nat)
  | .pointer (some ⟨b, off, none⟩) => some (b, off)
  | _ => none

def ptr (b off : Nat) : Value := .pointer (some ⟨b, off, none⟩)

def ld1 (v : Value) (h : Heap) : Out :=
  match v with
  | .pointer (some ⟨b, off, none⟩) =>
    match h.get b with
    | some k => match k[off]? with
      | some c => some (c, h)
      | none => none
    | none => none
  | _ => none

def ldN (n : Nat) (v : Value) (h : Heap) : Out :=
  match v with
  | .pointer (some ⟨b, off, none⟩) =>
    match h.get b with
    | some k => if off + n ≤ k.length then some (.agg ((k.drop off).take n).toArray, h) else none
    | none => none
  | _ => none

def ld (P : Program) (t : TypeId) (v : Value) (h : Heap) : Out :=
  match aggT P t, sizeT P t with
  | some true, some n => ldN n v h
  | some false, some _ => ld1 v h
  | _, _ => none

def oneCells (l : List Value) : Bool := l.all Value.oneCell'

/-- Cells are written behind one another. -/
def stL (b off : Nat) (xs : List Value) (h : Heap) : Option Heap :=
  match h.get b with
  | some k => if h.n0 ≤ b && (off + xs.length ≤ k.length) && oneCells xs then some (h.set b (splice k off xs)) else none
  | none => none

def stN (n : Nat) (v x : Value) (h : Heap) : Out :=
  match v with
  | .pointer (some ⟨b, off, none⟩) =>
    if x.cells.size = n then (stL b off x.cells.toList h).map fun h' => (undef, h') else none
  | _ => none

def st (P : Program) (t : TypeId) (v x : Value) (h : Heap) : Out :=
  match sizeT P t with
  | some n => stN n v x h
  | none => none

def newRow (cells : List Value) (h : Heap) : Value × Heap := (ptr h.next 0, h.alloc cells)

def box (v : Value) (h : Heap) : Out := if oneCells v.cells.toList then some (newRow v.cells.toList h) else none

def zero (P : Program) (t : TypeId) (h : Heap) : Out :=
  match zeroT P t with
  | some z => if flatAll z.cells.toList then some (newRow z.cells.toList h) else none
  | none => none

/-- Parts laid into a row of cells: place, size, value. -/
def fillL : List Value → List (Nat × Nat × Value) → Option (List Value)
  | cells, [] => some cells
  | cells, (off, n, v) :: rest =>
    if v.cells.size = n && (off + n ≤ cells.length) then fillL (splice cells off v.cells.toList) rest else none

def fieldPlaces (P : Program) (fs : Array Field) (parts : List (Nat × Value)) : Option (List (Nat × Nat × Value)) :=
  parts.mapM fun x =>
    match fs[x.1]? with
    | some f => (sizeT P f.type).map fun n => (f.offset, n, x.2)
    | none => none

def allSizes (P : Program) (fs : Array Field) : Bool := fs.toList.all fun f => (sizeT P f.type).isSome

def buildA (P : Program) (t : TypeId) (parts : List (Nat × Value)) : Option Value :=
  match zeroT P t, P.underlying t with
  | some z, some (.struct fs) =>
    if flatAll z.cells.toList && allSizes P fs then
      match fieldPlaces P fs parts with
      | some ps => (fillL z.cells.toList ps).map fun cs => .agg cs.toArray
      | none => none
    else none
  | some z, some (.array _ e) =>
    match sizeT P e with
    | some n => if flatAll z.cells.toList then (fillL z.cells.toList (parts.map fun x => (x.1 * n, n, x.2))).map fun cs => .agg cs.toArray else none
    | none => none
  | _, _ => none

def zeros (z : List Value) (n : Nat) : List Value := (List.range n).flatMap fun _ => z

def buildSliceA (P : Program) (t : TypeId) (len : Nat) (parts : List (Nat × Value)) (h : Heap) : Out :=
  match elemT P t with
  | some e => match sizeT P e, zeroT P e with
    | some n, some z =>
      if flatAll z.cells.toList && z.cells.size = n && 0 < n && len * n ≤ 16777216 && oneCells (parts.flatMap fun x => x.2.cells.toList) then
        match fillL (zeros z.cells.toList len) (parts.map fun x => (x.1 * n, n, x.2)) with
        | some cs => some (.slice (some ⟨h.next, 0, none⟩) len len, h.alloc cs)
        | none => none
      else none
    | _, _ => none
  | none => none

def nilCheckA : Value → Option Value
  | .pointer (some a) => some (.pointer (some a))
  | .func (.func f) x c => some (.func (.func f) x c)
  | _ => none

def bitsA (op : BinOp) (k : IntKind) (x y : Int) : Option Value :=
  let a := BitVec.ofInt k.bits x
  let b := BitVec.ofInt k.bits y
  match op with
  | .and => some (.int k (k.wrap (a &&& b).toNat))
  | .or => some (.int k (k.wrap (a ||| b).toNat))
  | .xor => some (.int k (k.wrap (a ^^^ b).toNat))
  | .andNot => some (.int k (k.wrap (a &&& ~~~b).toNat))
  | _ => none

def binI (op : BinOp) (k k' : IntKind) (a b : Int) : Option Value :=
  match op with
  | .shl => if b < 0 then none else some (.int k (k.wrap (a * 2 ^ (min b.toNat k.bits))))
  | .shr => if b < 0 then none else some (.int k (a.fdiv (2 ^ (min b.toNat k.bits))))
  | op => if k ≠ k' then none else
    match op with
    | .add => some (.int k (k.wrap (a + b)))
    | .sub => some (.int k (k.wrap (a - b)))
    | .mul => some (.int k (k.wrap (a * b)))
    | .quo => if b = 0 then none else some (.int k (k.wrap (a.tdiv b)))
    | .rem => if b = 0 then none else some (.int k (a.tmod b))
    | .eql => some (.bool (a == b))
    | .neq => some (.bool (a != b))
    | .lss => some (.bool (a < b))
    | .leq => some (.bool (a ≤ b))
    | .gtr => some (.bool (a > b))
    | .geq => some (.bool (a ≥ b))
    | op => bitsA op k a b

/-- A program of the model that looks at nothing and changes nothing. -/
def pureRun {α : Type} (P : Program) : Sem α → Option α
  | .pure a => some a
  | .program k => pureRun P (k P)
  | _ => none

def binA (P : Program) (op : BinOp) (t : TypeId) (x y : Value) : Option Value :=
  match x, y with
  | .int k a, .int k' b => binI op k k' a b
  | .pointer a, .pointer b =>
    match P.underlying t, a, b, op with
    | some (.pointer _), none, b, .eql => some (.bool b.isNone)
    | some (.pointer _), none, b, .neq => some (.bool !b.isNone)
    | some (.pointer _), some _, none, .eql => some (.bool false)
    | some (.pointer _), some _, none, .neq => some (.bool true)
    | _, _, _, _ => none
  | .slice a _ _, .slice b _ _ =>
    match P.underlying t, a, b, op with
    | some (.slice _), none, b, .eql => some (.bool b.isNone)
    | some (.slice _), none, b, .neq => some (.bool !b.isNone)
    | some (.slice _), some _, none, .eql => some (.bool false)
    | some (.slice _), some _, none, .neq => some (.bool true)
    | _, _, _, _ => none
  | x, y => if ground x && ground y then
      match pureRun P (binOp op t x y) with
      | some r => if flat r then some r else none
      | none => none
    else none

/-- The guard in front of an equality: of use for interfaces alone. -/
def eqOk (P : Program) (op : BinOp) (t : TypeId) (x y : Value) : Bool :=
  match op, x, y with
  | .eql, .agg _, .agg _ | .neq, .agg _, .agg _ => !(P.eqGuardType P.depth t)
  | .eql, .nilIface, .nilIface | .neq, .nilIface, .nilIface => false
  | _, _, _ => true

def bin (P : Program) (op : BinOp) (t : TypeId) (x y : Value) : Option Value := if eqOk P op t x y then binA P op t x y else none

def unA (op : UnOp) (x : Value) : Option Value :=
  match op, x with
  | .neg, .int k n => some (.int k (k.wrap (0 - n)))
  | .xor, .int k n => bitsA .xor k (if k.signed then -1 else k.max) n
  | .not, .bool b => some (.bool !b)
  | _, _ => none

/-- The cells of a slice, or the bytes of a string; n of them from the first. -/
def firstA (size n : Nat) (x : Value) (h : Heap) : Option (List Value) :=
  match x with
  | .slice none _ _ => if n = 0 then some [] else none
  | .slice (some ⟨b, off, _⟩) _ _ =>
    if n * size = 0 then some [] else
    match h.get b with
    | some k => if off + n * size ≤ k.length then some ((k.drop off).take (n * size)) else none
    | none => none
  | .string s => some ((s.extract 0 n).data.toList.map fun b => .int .u8 b.toNat)
  | _ => none

def lenA : Value → Option Nat
  | .slice _ n _ => some n
  | .string s => some s.size
  | _ => none

def asByte : Value → Option UInt8
  | .int .u8 n => some (UInt8.ofNat n.toNat)
  | _ => none

def convA (P : Program) (src dst : TypeId) (x : Value) (h : Heap) : Out :=
  match P.underlying src, P.underlying dst, x with
  | some _, some (.int k), .int _ n => some (.int k (k.wrap n), h)
  | some _, some .string, .string s => some (.string s, h)
  | some _, some (.slice e), .string s =>
    match P.underlying e with
    | some (.int .u8) => if s.size ≤ 140737488355328 then some (.slice (some ⟨h.next, 0, some 1⟩) s.size s.size, h.alloc (s.data.toList.map fun b => .int .u8 b.toNat)) else none
    | _ => none
  | some (.slice _), some (.slice e), .slice (some a) n c =>
    match P.underlying e with
    | some (.int .u8) => if src = dst && h.n0 ≤ a.block && (h.get a.block).isSome then some (.slice (some a) n c, h) else none
    | _ => none
  | some (.slice e), some .string, .slice a n c =>
    match P.underlying e with
    | some (.int .u8) =>
      match firstA 1 n (.slice a n c) h with
      | some l => match l.mapM asByte with
        | some bs => some (.string ⟨bs.toArray⟩, h)
        | none => none
      | none => none
    | _ => none
  | _, _, _ => none

def makeA (P : Program) (t : TypeId) (len cap : Value) (h : Heap) : Out :=
  match elemT P t, len, cap with
  | some e, .int .i64 l, .int .i64 c =>
    match sizeT P e, bytesT P e, zeroT P e with
    | some n, some by_, some z =>
      if 0 ≤ l && l ≤ c && c ≤ 9223372036854775807 && by_ * c ≤ 281474976710656 && flatAll z.cells.toList && z.cells.size = n && 0 < n then
        some (.slice (some ⟨h.next, 0, none⟩) l.toNat c.toNat, h.alloc (zeros z.cells.toList c.toNat))
      else none
    | _, _, _ => none
  | _, _, _ => none

/-- An optional bound of a slice expression. -/
def boundA (d : Nat) (y : Nat) : Option Value → Option Nat
  | none => some d
  | some (.int _ i) => if 0 ≤ i ∧ i ≤ y then some i.toNat else none
  | some _ => none

def boundsA (len cap : Nat) (lo hi mx : Option Value) : Option (Nat × Nat × Nat) :=
  match boundA cap cap mx with
  | some m =>
    match hi, mx with
    | none, some _ => none
    | _, _ =>
      match boundA len m hi with
      | some h => match boundA 0 h lo with
        | some l => some (l, h, m)
        | none => none
      | none => none
  | none => none

def sliceArr (n size : Nat) (x : Value) (lo hi mx : Option Value) : Option Value :=
  match x with
  | .pointer (some ⟨b, off, none⟩) =>
    match boundsA n n lo hi mx with
    | some (l, h, m) => some (.slice (some ⟨b, if m = l then off else off + l * size, none⟩) (h - l) (m - l))
    | none => none
  | _ => none

def sliceSl (size : Nat) (x : Value) (lo hi mx : Option Value) : Option Value :=
  match x with
  | .slice none len cap =>
    match boundsA len cap lo hi mx with
    | some (l, h, m) => some (.slice none (h - l) (m - l))
    | none => none
  | .slice (some ⟨b, off, none⟩) len cap =>
    match boundsA len cap lo hi mx with
    | some (l, h, m) => some (.slice (some ⟨b, if m = l then off else off + l * size, none⟩) (h - l) (m - l))
    | none => none
  | .slice (some ⟨b, off, some s⟩) len cap =>
    match mx with
    | some _ => none
    | none => match boundsA len cap lo hi none with
      | some (l, h, m) => if s = size then some (.slice (some ⟨b, off + l * size, some s⟩) (h - l) (m - l)) else none
      | none => none
  | .string s =>
    match mx with
    | some _ => none
    | none => match boundsA s.size s.size lo hi none with
      | some (l, h, _) => some (.string (s.extract l h))
      | none => none
  | _ => none

def sliceA (P : Program) (t : TypeId) (x : Value) (lo hi mx : Option Value) : Option Value :=
  match P.underlying t with
  | some (.array n e) => (sizeT P e).bind fun z => sliceArr n z x lo hi mx
  | some (.pointer arr) => match P.underlying arr with
    | some (.array n e) => (sizeT P e).bind fun z => sliceArr n z x lo hi mx
    | _ => none
  | some (.slice e) => match x with
    | .string _ => none
    | x => (sizeT P e).bind fun z => sliceSl z x lo hi mx
  | some .string => match x with
    | .string s => sliceSl 1 (.string s) lo hi mx
    | _ => none
  | _ => none

def addP (v : Value) (n : Nat) : Option Value :=
  match v with
  | .pointer (some ⟨b, off, none⟩) => some (ptr b (off + n))
  | _ => none

def fieldAtA (P : Program) (t : TypeId) (x : Value) (i : Nat) : Option Value :=
  match P.underlying t with
  | some (.struct fs) => match fs[i]? with
    | some f => match sizeT P f.type with
      | some n => if n = 0 then none else addP x f.offset
      | none => none
    | none => none
  | _ => none

def idxA (n size : Nat) (v ix : Value) : Option Value :=
  match ix with
  | .int _ i => if 0 ≤ i ∧ i < n then addP v (i.toNat * size) else none
  | _ => none

def idxS (size : Nat) (v ix : Value) : Option Value :=
  match v, ix with
  | .slice (some ⟨b, off, _⟩) len _, .int _ i => if 0 ≤ i ∧ i < len then some (ptr b (off + i.toNat * size)) else none
  | _, _ => none

def indexAtA (P : Program) (t : TypeId) (x ix : Value) : Option Value :=
  match P.underlying t with
  | some (.array n e) => (sizeT P e).bind fun z => idxA n z x ix
  | some (.slice e) => (sizeT P e).bind fun z => idxS z x ix
  | _ => none

def partA (P : Program) (t : TypeId) (cs : Array Value) (off : Nat) : Option Value :=
  match aggT P t, sizeT P t with
  | some true, some n => some (.agg (cs.extract off (off + n)))
  | some false, some _ => cs[off]?
  | _, _ => none

def fieldA (P : Program) (t : TypeId) (x : Value) (i : Nat) : Option Value :=
  match P.underlying t, x with
  | some (.struct fs), .agg cs => match fs[i]? with
    | some f => partA P f.type cs f.offset
    | none => none
  | _, _ => none

def indexA (P : Program) (t : TypeId) (x ix : Value) : Option Value :=
  match P.underlying t, x, ix with
  | some (.array n e), .agg cs, .int _ i => if 0 ≤ i ∧ i < n then (sizeT P e).bind fun z => partA P e cs (i.toNat * z) else none
  | some .string, .string s, .int _ i => if 0 ≤ i then (s[i.toNat]?).map fun b => .int .u8 b.toNat else none
  | _, _, _ => none

def extractA (t : Value) (i : Nat) : Option Value :=
  match t with
  | .tuple vs => vs[i]?
  | _ => none

/-- append: in place where the room is known; else into a new block: the old one of a slice with hidden capacity is gone then. -/
def appendA (size by_ : Nat) (s x : Value) (h : Heap) : Out :=
  match s, lenA x with
  | .slice base len cap, some m =>
    match firstA size m x h with
    | none => none
    | some news =>
      if !(oneCells news) || !((len + m) * by_ ≤ 140737488355328) || !(len + m ≤ 4611686018427387904) || news.length ≠ m * size then none else
      if len + m ≤ cap then
        if m = 0 then some (s, h) else
        match base with
        | some ⟨b, off, _⟩ => (stL b (off + len * size) news h).map fun h' => (.slice base (len + m) cap, h')
        | none => none
      else
        match base with
        | none => if len = 0 then some (.slice (some ⟨h.next, 0, some size⟩) (len + m) (len + m), h.alloc news) else none
        | some ⟨b, off, sp⟩ =>
          match firstA size len s h with
          | none => none
          | some olds =>
            if olds.length ≠ len * size then none else
            match sp with
            | none => some (.slice (some ⟨h.next, 0, some size⟩) (len + m) (len + m), h.alloc (olds ++ news))
            | some z => if z = size && h.n0 ≤ b && (h.get b).isSome then some (.slice (some ⟨h.next, 0, some size⟩) (len + m) (len + m), (h.kill b).alloc (olds ++ news)) else none
  | _, _ => none

def copyA (size : Nat) (d s : Value) (h : Heap) : Out :=
  match d, lenA s with
  | .slice base dLen _, some m =>
    let n := min m dLen
    match firstA size n s h with
    | none => none
    | some news =>
      if n = 0 then some (.int .i64 n, h) else
      match base with
      | none => none
      | some ⟨b, off, _⟩ => (stL b off news h).map fun h' => (.int .i64 n, h')
  | _, _ => none

def clearA (P : Program) (e : TypeId) (size : Nat) (d : Value) (h : Heap) : Out :=
  match d with
  | .slice none _ _ => some (undef, h)
  | .slice (some ⟨b, off, _⟩) n _ =>
    if n = 0 then some (undef, h) else
    match zeroT P e with
    | some z => if flatAll z.cells.toList && z.cells.size = size && 0 < size then (stL b off (zeros z.cells.toList n) h).map fun h' => (undef, h') else none
    | none => none
  | _ => none

def lenOfT (P : Program) (t : TypeId) (x : Value) : Option Value :=
  match P.underlying t, x with
  | some .string, .string s => some (.int .i64 s.size)
  | some (.array n _), _ => some (.int .i64 n)
  | some (.pointer arr), _ => match P.underlying arr with
    | some (.array n _) => some (.int .i64 n)
    | _ => none
  | some (.slice _), .slice _ n _ => some (.int .i64 n)
  | _, _ => none

def minmax (mx : Bool) : Value → List Value → Option Value
  | v, [] => some v
  | .int k x, .int k' y :: rest => if k = k' then minmax mx (.int k (if (if mx then y > x else y < x) then y else x)) rest else none
  | _, _ => none

def isIntT : TypeDesc → Bool
  | .int _ => true
  | _ => false

def builtinA (P : Program) (b : Builtin) (ts : List TypeId) (args : List Value) (h : Heap) : Out :=
  match b, args, ts with
  | .append, [s, x], [t, tx] =>
    match elemT P t with
    | some e => match sizeT P e, bytesT P e, zeroT P e, P.underlying tx with
      | some n, some by_, some z, some d =>
        if isIntT d || !(z.cells.size = n) || n = 0 then none else appendA n by_ s x h
      | _, _, _, _ => none
    | none => none
  | .copy, [d, s], [t, _] => match elemT P t with
    | some e => (sizeT P e).bind fun n => copyA n d s h
    | none => none
  | .clear, [d], [t] => match elemT P t with
    | some e => (sizeT P e).bind fun n => clearA P e n d h
    | none => none
  | .len, [x], [t] => (lenOfT P t x).map fun v => (v, h)
  | .max, v :: u :: r, _ => (minmax true v (u :: r)).map fun v => (v, h)
  | .min, v :: u :: r, _ => (minmax false v (u :: r)).map fun v => (v, h)
  | _, _, _ => none

abbrev CallF := FuncId → List Value → Heap → Out

def callA (P : Program) (C : CallF) (f : Value) (args : List Value) (h : Heap) : Out :=
  match f with
  | .func (.func i) first captured => C i (first.toList ++ args ++ captured.toList) h
  | _ => none

/-- One operation. -/
def opA (P : Program) (C : CallF) (o : Oper) (ρ : Operand → Value) (h : Heap) : Out :=
  let pu (v : Option Value) : Out := v.map fun v => (v, h)
  match o.op with
  | .move x | .assign x => some (ρ x, h)
  | .pick c a b => match ρ c with
    | .bool t => some (if t then ρ a else ρ b, h)
    | _ => none
  | .alloc t => zero P t h
  | .box _ x => box (ρ x) h
  | .build t parts => pu (buildA P t (parts.toList.map fun (i, x) => (i, ρ x)))
  | .buildSlice t len parts => buildSliceA P t len (parts.toList.map fun (i, x) => (i, ρ x)) h
  | .load t x => ld P t (ρ x) h
  | .store t x v => st P t (ρ x) (ρ v) h
  | .nilCheck x => pu (nilCheckA (ρ x))
  | .binOp op t x y _ => pu (bin P op t (ρ x) (ρ y))
  | .unOp op _ x => pu (unA op (ρ x))
  | .convert s d x => convA P s d (ρ x) h
  | .makeSlice t l c => makeA P t (ρ l) (ρ c) h
  | .slice t x lo hi mx => pu (sliceA P t (ρ x) (lo.map ρ) (hi.map ρ) (mx.map ρ))
  | .fieldAddr t x i => pu (fieldAtA P t (ρ x) i)
  | .field t x i => pu (fieldA P t (ρ x) i)
  | .indexAddr t x i => pu (indexAtA P t (ρ x) (ρ i))
  | .index t x i => pu (indexA P t (ρ x) (ρ i))
  | .extract t i => pu (extractA (ρ t) i)
  | .call c =>
    let args := c.args.toList.map ρ
    match c.callee with
    | .builtin b => builtinA P b c.argTypes.toList args h
    | .value f => callA P C (ρ f) args h
    | .invoke _ _ => none
  | _ => none

abbrev Env := List Value

def ev (e : Env) : Operand → Value
  | .tmp t => e.getD t undef
  | .const v => v
  | .global g => ptr g 0
  | .func f => .func (.func f) #[] #[]

def putD (e : Env) (d : Option Tmp) (v : Value) : Env :=
  match d with
  | some t => e.set t v
  | none => e

def yieldA (ops : Array Oper) (e : Env) (j : Nat) : Option Bool :=
  match ((ops[j]?).bind (·.dst)).bind (e[·]?) with
  | some (.bool b) => some b
  | _ => none

def wantA (ops : Array Oper) (o : Oper) (e : Env) : Bool :=
  match o.guard with
  | none => true
  | some (j, want) => yieldA ops e j == some want

def stepA (P : Program) (C : CallF) (ops : Array Oper) (o : Oper) (e : Env) (h : Heap) : Option (Env × Heap) :=
  if wantA ops o e then
    match opA P C o (ev e) h with
    | some (v, h') => some (putD e o.dst v, h')
    | none => none
  else some (putD e o.dst undef, h)

def opsA (P : Program) (C : CallF) (ops : Array Oper) : List Oper → Env → Heap → Option (Env × Heap)
  | [], e, h => some (e, h)
  | o :: rest, e, h => match stepA P C ops o e h with
    | some (e', h') => opsA P C ops rest e' h'
    | none => none

/-- Does an operation look at memory (read), make some (alloc), change it or call (eff), or nothing of these? -/
inductive Kd where
  | pure | read | alloc | eff
  deriving DecidableEq

def kindOf (P : Program) (o : Oper) : Kd :=
  match o.op with
  | .move _ | .assign _ | .pick .. | .build .. | .nilCheck _ | .binOp .. | .unOp .. | .slice .. | .fieldAddr .. | .field .. | .indexAddr .. | .index .. | .extract .. => .pure
  | .load .. => .read
  | .alloc _ | .box .. | .buildSlice .. | .makeSlice .. => .alloc
  | .convert _ d _ => match P.underlying d with
    | some (.int _) => .read
    | some .string => .read
    | _ => .eff
  | .call c => match c.callee with
    | .builtin .len | .builtin .max | .builtin .min => .read
    | _ => .eff
  | _ => .eff

def opTmps (o : Oper) : List Tmp := o.op.operands.toList.filterMap fun | .tmp t => some t | _ => none
def guardTmp (ops : Array Oper) (o : Oper) : List Tmp :=
  match o.guard with
  | some (j, _) => ((ops[j]?).bind (·.dst)).toList
  | none => []
/-- All temporaries that an operation names. -/
def namesA (ops : Array Oper) (o : Oper) : List Tmp := o.dst.toList ++ opTmps o ++ guardTmp ops o

def befM (ops : Array Oper) : Array Nat := Region.before ops
def befB (m : Array Nat) (i j : Nat) : Bool := (m.getD i 0).testBit j

/-- The text's order, but that what makes memory stands as late as can be. -/
def lateGo (P : Program) (m : Array Nat) : List (Nat × Oper) → List (Nat × Oper) → List (Nat × Oper)
  | [], pend => pend
  | x :: rest, pend =>
    if kindOf P x.2 = .alloc then lateGo P m rest (pend ++ [x])
    else pend.filter (fun a => befB m x.1 a.1) ++ x :: lateGo P m rest (pend.filter fun a => !befB m x.1 a.1)
def late (P : Program) (ops : Array Oper) : List (Nat × Oper) := lateGo P (befM ops) (ops.toList.zipIdx.map fun x => (x.2, x.1)) []

def clash (P : Program) (ops : Array Oper) (x y : Nat × Oper) : Bool :=
  (match y.2.dst with | some t => (namesA ops x.2).contains t | none => false) ||
  (match x.2.dst with | some t => (namesA ops y.2).contains t | none => false) ||
  (kindOf P x.2 == .eff && kindOf P y.2 == .eff) ||
  -- x stands ahead of y: what makes memory must not stand ahead of a reader or of an effect that do not hang on it
  (kindOf P x.2 == .alloc && (kindOf P y.2 == .eff || kindOf P y.2 == .read))

def pairsOk (r : (Nat × Oper) → (Nat × Oper) → Bool) : List (Nat × Oper) → Bool
  | [] => true
  | x :: rest => rest.all (r x) && pairsOk r rest

/-- What must be so of a region's text, so that one order stands for every order. l: the operations in that order, with their places in the text. -/
def statOk (P : Program) (ops : Array Oper) (l : List (Nat × Oper)) : Bool :=
  let m := befM ops
  l.length == ops.size &&
  l.all (fun x => (ops[x.1]?).isSome && (match x.2.guard with | some (j, _) => befB m x.1 j | none => true)) &&
  (ops.toList.zipIdx.all fun x => x.1.after.all fun e => !Region.binds .any e || e.on < x.2) &&
  -- y behind x: not the same, x does not hang on y, and where they clash y hangs on x
  pairsOk (fun x y => x.1 != y.1 && !befB m x.1 y.1 && (befB m y.1 x.1 || !clash P ops x y)) l

/-- One operation of a run in the text's order: what stood before it, its value, and whether it ran. -/
structure Tr1 where
  e : Env
  h : Heap
  v : Value
  ran : Bool

def traceA (P : Program) (C : CallF) (ops : Array Oper) : List (Nat × Oper) → Env → Heap → Option (List Tr1 × Env × Heap)
  | [], e, h => some ([], e, h)
  | (_, o) :: rest, e, h =>
    if wantA ops o e then
      match opA P C o (ev e) h with
      | some (v, h') => match traceA P C ops rest (putD e o.dst v) h' with
        | some (l, r) => some (⟨e, h, v, true⟩ :: l, r)
        | none => none
      | none => none
    else
      match traceA P C ops rest (putD e o.dst undef) h with
      | some (l, r) => some (⟨e, h, undef, false⟩ :: l, r)
      | none => none

mutual
def veq : Value → Value → Bool
  | .bool a, .bool b => a == b
  | .int k a, .int j b => k == j && a == b
  | .string a, .string b => a.data == b.data
  | .pointer a, .pointer b => a == b
  | .slice a l c, .slice b m d => a == b && l == m && c == d
  | .map a, .map b => a == b
  | .chan a, .chan b => a == b
  | .nilFunc, .nilFunc => true
  | .nilIface, .nilIface => true
  | .float k a, .float j b => k == j && a == b
  | .complex k a b, .complex j c d => k == j && a == c && b == d
  | .agg ⟨a⟩, .agg ⟨b⟩ => veqL a b
  | .tuple ⟨a⟩, .tuple ⟨b⟩ => veqL a b
  | .func f ⟨a⟩ ⟨b⟩, .func g ⟨c⟩ ⟨d⟩ => f == g && veqL a c && veqL b d
  | .iface t a, .iface u b => t == u && veq a b
  | _, _ => false
def veqL : List Value → List Value → Bool
  | [], [] => true
  | a :: x, b :: y => veq a b && veqL x y
  | _, _ => false
end

def same (r : Out) (v : Value) : Bool :=
  match r with
  | some (x, _) => veq x v
  | none => false

/-- What an operation that reads finds is the same wherever the order lets it stand. -/
def dynOk (P : Program) (C : CallF) (ops : Array Oper) (l : List (Nat × Oper)) (tr : List Tr1) (hEnd : Heap) : Bool :=
  let m := befM ops
  let hs := tr.map (·.h) ++ [hEnd]
  let lt := (l.zip tr).zipIdx
  let ys := l.zipIdx.filter fun y => kindOf P y.1.2 == .eff
  lt.all fun x => !(kindOf P x.1.1.2 == .read && x.1.2.ran) ||
    ys.all fun y => befB m x.1.1.1 y.1.1 || befB m y.1.1 x.1.1.1 ||
      match hs[if y.2 < x.2 then y.2 else y.2 + 1]? with
      | some h => same (opA P C x.1.1.2 (ev x.1.2.e) h) x.1.2.v
      | none => false

def regionA (P : Program) (C : CallF) (ops : Array Oper) (draw : Bool) (e : Env) (h : Heap) : Option (Env × Heap) :=
  if draw then
    if statOk P ops (late P ops) then
      match traceA P C ops (late P ops) e h with
      | some (tr, e', h') => if dynOk P C ops (late P ops) tr h' then some (e', h') else none
      | none => none
    else none
  else opsA P C ops ops.toList e h

inductive Ex where
  | normal | ret | exit (id : Nat)
  deriving DecidableEq

def iter (step : Env → Heap → Option (Ex × Env × Heap)) : Nat → Env → Heap → Option (Ex × Env × Heap)
  | 0, _, _ => none
  | n + 1, e, h => match step e h with
    | some (.normal, e', h') => iter step n e' h'
    | r => r

/-- More rounds than any loop of a terminating call goes. -/
def rounds : Nat := 18446744073709551616

/-- A piece of code. -/
def codeA (P : Program) (C : CallF) : Code → Env → Heap → Option (Ex × Env × Heap)
  | .skip, e, h => some (.normal, e, h)
  | .region _ ops draw, e, h => match regionA P C ops draw e h with
    | some (e', h') => some (.normal, e', h')
    | none => none
  | .seq a b, e, h => match codeA P C a e h with
    | some (.normal, e', h') => codeA P C b e' h'
    | r => r
  | .cond c a b, e, h => match ev e c with
    | .bool true => codeA P C a e h
    | .bool false => codeA P C b e h
    | _ => none
  | .block id b, e, h => match codeA P C b e h with
    | some (.exit i, e', h') => some (if i = id then .normal else .exit i, e', h')
    | r => r
  | .loop b, e, h => iter (codeA P C b) rounds e h
  | .exit i, e, h => some (.exit i, e, h)
  | .scope b, e, h => codeA P C b e h
  | .label _, e, h => some (.normal, e, h)
  | .ret, e, h => some (.ret, e, h)
  | .goto _, _, _ => none
  | .rangeFunc .., _, _ => none
  | .refuse _, _, _ => none

def resultA (P : Program) (r : ResultVar) (e : Env) (h : Heap) : Option Value :=
  match r with
  | .tmp t => some (e.getD t undef)
  | .cell a t => (ld P t (e.getD a undef) h).map (·.1)

def resultsA (P : Program) (rs : List ResultVar) (e : Env) (h : Heap) : Out :=
  match rs with
  | [r] => (resultA P r e h).map fun v => (v, h)
  | rs => (rs.mapM fun r => resultA P r e h).map fun vs => (.tuple vs.toArray, h)

def bodyA (P : Program) (C : CallF) (fn : Func) (args : List Value) (h : Heap) : Out :=
  match fn.body with
  | none => none
  | some c => match codeA P C c (args ++ List.replicate (fn.ntmps - args.length) undef) h with
    | some (.normal, e, h') | some (.ret, e, h') => resultsA P fn.results.toList e h'
    | _ => none

/-- Calls by fuel; a function with a summary is called by it. -/
def callN (P : Program) (X : FuncId → Option (List Value → Heap → Out)) : Nat → CallF
  | 0, f, args, h => match X f with
    | some s => s args h
    | none => none
  | k + 1, f, args, h => match X f with
    | some s => s args h
    | none => match P.funcs[f]? with
      | some fn => bodyA P (callN P X k) fn args h
      | none => none

end Go.Abs
