/-
  The abstract machine: heap, values, operations and code as plain functions; nothing is proved here.
  Conditions: none (definitions).
  The abstract machine: the tree of blocks and the heap as maps; how abstract values and heaps stand to the model's.
  Conditions: none (definitions and lemmas).
  The abstract machine: reading, writing and making memory, as the model does it.
  Conditions: none (lemmas).
  The abstract machine: each operation but calls and builtins, as the model does it.
  Conditions: none (lemmas).
  The abstract machine: operations on values, rows of cells, as the model does them.
  Conditions: none (lemmas).
  The abstract machine: slices, addresses and parts of values, as the model has them.
  Conditions: none (lemmas).
  The abstract machine: append, copy, clear, len, max and min, as the model does them.
  Conditions: none (lemmas).
  The abstract machine: values that lead to given blocks alone.
  Conditions: none (definitions and lemmas).
  The abstract machine: every operation, as the model does it.
  Conditions: the calls' summaries are sound (CSound).
-/
import Derived.Orders
import Derived.Scope
import Derived.WalkKit
namespace Go.Abs

/-- A block: its cells. -/
abbrev Blk := List Value

/-- A tree of blocks, by number. -/
inductive Tr where
  | nil
  | node (l : Tr) (v : Option Blk) (r : Tr)

def Tr.get : Tr → Nat → Option Blk
  | .nil, _ => none
  | .node l v r, n => if n = 0 then v else if n % 2 = 1 then l.get (n / 2) else r.get (n / 2 - 1)

def Tr.setF : Nat → Tr → Nat → Option Blk → Tr
  | 0, t, _, _ => t
  | f + 1, .nil, n, x =>
    if n = 0 then .node .nil x .nil else if n % 2 = 1 then .node (Tr.setF f .nil (n / 2) x) none .nil else .node .nil none (Tr.setF f .nil (n / 2 - 1) x)
  | f + 1, .node l v r, n, x =>
    if n = 0 then .node l x r else if n % 2 = 1 then .node (Tr.setF f l (n / 2) x) v r else .node l v (Tr.setF f r (n / 2 - 1) x)

def Tr.set (t : Tr) (n : Nat) (x : Option Blk) : Tr := Tr.setF (n + 1) t n x

/-- Blocks below n0 are those of the world in which the run began, as far as 'old' shows them; nobody writes there. -/
structure Heap where
  n0 : Nat
  old : Nat → Option (List Value)
  new : Tr
  cnt : Nat

def Heap.next (h : Heap) : Nat := h.n0 + h.cnt
def Heap.get (h : Heap) (b : Nat) : Option Blk := if b < h.n0 then h.old b else if b < h.n0 + h.cnt then h.new.get (b - h.n0) else none
def Heap.put (h : Heap) (b : Nat) (x : Option Blk) : Heap := { h with new := h.new.set (b - h.n0) x }
def Heap.set (h : Heap) (b : Nat) (x : Blk) : Heap := h.put b (some x)
def Heap.kill (h : Heap) (b : Nat) : Heap := h.put b none
def Heap.alloc (h : Heap) (x : Blk) : Heap := { h with new := h.new.set h.cnt (some x), cnt := h.cnt + 1 }

abbrev Out := Option (Value × Heap)

/-- Values of one cell that lead to no memory. -/
def flat : Value → Bool
  | .bool _ | .int _ _ | .float _ _ | .complex _ _ _ | .string _ | .pointer none | .slice none _ _ | .map none | .chan none | .nilFunc | .nilIface => true
  | .func (.func _) f c => f.isEmpty && c.isEmpty
  | _ => false

def flatAll (l : List Value) : Bool := l.all flat

/-- Values that lead to no memory. -/
def ground : Value → Bool
  | .agg cs => flatAll cs.toList
  | v => flat v

def aggT (P : Program) (t : TypeId) : Option Bool :=
  match P.underlying t with
  | some (.struct _) | some (.array _ _) => some true
  | some _ => some false
  | none => none
def sizeT (P : Program) (t : TypeId) : Option Nat := (P.info? t).map (·.size)
def bytesT (P : Program) (t : TypeId) : Option Nat := (P.info? t).map (·.bytes)
def zeroT (P : Program) (t : TypeId) : Option Value := (P.info? t).bind (·.zero)
def elemT (P : Program) (t : TypeId) : Option TypeId :=
  match P.underlying t with
  | some (.slice e) => some e
  | _ => none

def splice (l : List Value) (off : Nat) (xs : List Value) : List Value := l.take off ++ xs ++ l.drop (off + xs.length)

def ptr (b off : Nat) : Value := .pointer (some ⟨b, off, none⟩)

/-- A cell of old memory that nobody has told anything of. -/
def isHole : Value → Bool
  | .chan (some _) => true
  | _ => false
def noHoles (l : List Value) : Bool := l.all fun v => !(isHole v)

def ld1 (v : Value) (h : Heap) : Out :=
  match v with
  | .pointer (some ⟨b, off, none⟩) =>
    match h.get b with
    | some k => match k[off]? with
      | some c => if isHole c = false then some (c, h) else none
      | none => none
    | none => none
  | _ => none

def ldN (n : Nat) (v : Value) (h : Heap) : Out :=
  match v with
  | .pointer (some ⟨b, off, none⟩) =>
    match h.get b with
    | some k => if off + n ≤ k.length ∧ noHoles ((k.drop off).take n) = true then some (.agg ((k.drop off).take n).toArray, h) else none
    | none => none
  | _ => none

def ld (P : Program) (t : TypeId) (v : Value) (h : Heap) : Out :=
  match aggT P t, sizeT P t with
  | some true, some n => ldN n v h
  | some false, some _ => ld1 v h
  | _, _ => none

def oneCells (l : List Value) : Bool := l.all Value.oneCell'

/-- Cells are written behind one another. -/
def stL (b off : Nat) (xs : List Value) (h : Heap) : Option Heap :=
  match h.get b with
  | some k => if h.n0 ≤ b && (off + xs.length ≤ k.length) && oneCells xs then some (h.set b (splice k off xs)) else none
  | none => none

def stN (n : Nat) (v x : Value) (h : Heap) : Out :=
  match v with
  | .pointer (some ⟨b, off, none⟩) =>
    if x.cells.size = n then (stL b off x.cells.toList h).map fun h' => (undef, h') else none
  | _ => none

def st (P : Program) (t : TypeId) (v x : Value) (h : Heap) : Out :=
  match sizeT P t with
  | some n => stN n v x h
  | none => none

def newRow (cells : List Value) (h : Heap) : Value × Heap := (ptr h.next 0, h.alloc cells)

def box (v : Value) (h : Heap) : Out := if oneCells v.cells.toList then some (newRow v.cells.toList h) else none

def zero (P : Program) (t : TypeId) (h : Heap) : Out :=
  match zeroT P t with
  | some z => if flatAll z.cells.toList then some (newRow z.cells.toList h) else none
  | none => none

/-- Parts laid into a row of cells: place, size, value. -/
def fillL : List Value → List (Nat × Nat × Value) → Option (List Value)
  | cells, [] => some cells
  | cells, (off, n, v) :: rest =>
    if v.cells.size = n && (off + n ≤ cells.length) then fillL (splice cells off v.cells.toList) rest else none

def fieldPlaces (P : Program) (fs : Array Field) (parts : List (Nat × Value)) : Option (List (Nat × Nat × Value)) :=
  parts.mapM fun x =>
    match fs[x.1]? with
    | some f => (sizeT P f.type).map fun n => (f.offset, n, x.2)
    | none => none

def allSizes (P : Program) (fs : Array Field) : Bool := fs.toList.all fun f => (sizeT P f.type).isSome

def buildA (P : Program) (t : TypeId) (parts : List (Nat × Value)) : Option Value :=
  match zeroT P t, P.underlying t with
  | some z, some (.struct fs) =>
    if flatAll z.cells.toList && allSizes P fs then
      match fieldPlaces P fs parts with
      | some ps => (fillL z.cells.toList ps).map fun cs => .agg cs.toArray
      | none => none
    else none
  | some z, some (.array _ e) =>
    match sizeT P e with
    | some n => if flatAll z.cells.toList then (fillL z.cells.toList (parts.map fun x => (x.1 * n, n, x.2))).map fun cs => .agg cs.toArray else none
    | none => none
  | _, _ => none

def zeros (z : List Value) (n : Nat) : List Value := (List.range n).flatMap fun _ => z

def buildSliceA (P : Program) (t : TypeId) (len : Nat) (parts : List (Nat × Value)) (h : Heap) : Out :=
  match elemT P t with
  | some e => match sizeT P e, zeroT P e with
    | some n, some z =>
      if flatAll z.cells.toList && z.cells.size = n && 0 < n && len * n ≤ 16777216 && oneCells (parts.flatMap fun x => x.2.cells.toList) then
        match fillL (zeros z.cells.toList len) (parts.map fun x => (x.1 * n, n, x.2)) with
        | some cs => some (.slice (some ⟨h.next, 0, none⟩) len len, h.alloc cs)
        | none => none
      else none
    | _, _ => none
  | none => none

def nilCheckA : Value → Option Value
  | .pointer (some a) => some (.pointer (some a))
  | .func (.func f) x c => some (.func (.func f) x c)
  | _ => none

def bitsA (op : BinOp) (k : IntKind) (x y : Int) : Option Value :=
  let a := BitVec.ofInt k.bits x
  let b := BitVec.ofInt k.bits y
  match op with
  | .and => some (.int k (k.wrap (a &&& b).toNat))
  | .or => some (.int k (k.wrap (a ||| b).toNat))
  | .xor => some (.int k (k.wrap (a ^^^ b).toNat))
  | .andNot => some (.int k (k.wrap (a &&& ~~~b).toNat))
  | _ => none

def binI (op : BinOp) (k k' : IntKind) (a b : Int) : Option Value :=
  match op with
  | .shl => if b < 0 then none else some (.int k (k.wrap (a * 2 ^ (min b.toNat k.bits))))
  | .shr => if b < 0 then none else some (.int k (a.fdiv (2 ^ (min b.toNat k.bits))))
  | op => if k ≠ k' then none else
    match op with
    | .add => some (.int k (k.wrap (a + b)))
    | .sub => some (.int k (k.wrap (a - b)))
    | .mul => some (.int k (k.wrap (a * b)))
    | .quo => if b = 0 then none else some (.int k (k.wrap (a.tdiv b)))
    | .rem => if b = 0 then none else some (.int k (a.tmod b))
    | .eql => some (.bool (a == b))
    | .neq => some (.bool (a != b))
    | .lss => some (.bool (a < b))
    | .leq => some (.bool (a ≤ b))
    | .gtr => some (.bool (a > b))
    | .geq => some (.bool (a ≥ b))
    | op => bitsA op k a b

/-- A program of the model that looks at nothing and changes nothing. -/
def pureRun {α : Type} (P : Program) : Sem α → Option α
  | .pure a => some a
  | .program k => pureRun P (k P)
  | _ => none

def binA (P : Program) (op : BinOp) (t : TypeId) (x y : Value) : Option Value :=
  match x, y with
  | .int k a, .int k' b => binI op k k' a b
  | .pointer a, .pointer b =>
    match P.underlying t, a, b, op with
    | some (.pointer _), none, b, .eql => some (.bool b.isNone)
    | some (.pointer _), none, b, .neq => some (.bool !b.isNone)
    | some (.pointer _), some _, none, .eql => some (.bool false)
    | some (.pointer _), some _, none, .neq => some (.bool true)
    | _, _, _, _ => none
  | .slice a _ _, .slice b _ _ =>
    match P.underlying t, a, b, op with
    | some (.slice _), none, b, .eql => some (.bool b.isNone)
    | some (.slice _), none, b, .neq => some (.bool !b.isNone)
    | some (.slice _), some _, none, .eql => some (.bool false)
    | some (.slice _), some _, none, .neq => some (.bool true)
    | _, _, _, _ => none
  | x, y => if ground x && ground y then
      match pureRun P (binOp op t x y) with
      | some r => if flat r then some r else none
      | none => none
    else none

/-- The guard in front of an equality: of use for interfaces alone. -/
def eqOk (P : Program) (op : BinOp) (t : TypeId) (x y : Value) : Bool :=
  match op, x, y with
  | .eql, .agg _, .agg _ | .neq, .agg _, .agg _ => !(P.eqGuardType P.depth t)
  | .eql, .nilIface, .nilIface | .neq, .nilIface, .nilIface => false
  | _, _, _ => true

def bin (P : Program) (op : BinOp) (t : TypeId) (x y : Value) : Option Value := if eqOk P op t x y then binA P op t x y else none

def unA (op : UnOp) (x : Value) : Option Value :=
  match op, x with
  | .neg, .int k n => some (.int k (k.wrap (0 - n)))
  | .xor, .int k n => bitsA .xor k (if k.signed then -1 else k.max) n
  | .not, .bool b => some (.bool !b)
  | _, _ => none

/-- The cells of a slice, or the bytes of a string; n of them from the first. -/
def firstA (size n : Nat) (x : Value) (h : Heap) : Option (List Value) :=
  match x with
  | .slice none _ _ => if n = 0 then some [] else none
  | .slice (some ⟨b, off, _⟩) _ _ =>
    if n * size = 0 then some [] else
    match h.get b with
    | some k => if off + n * size ≤ k.length ∧ noHoles ((k.drop off).take (n * size)) = true then some ((k.drop off).take (n * size)) else none
    | none => none
  | .string s => some ((s.extract 0 n).data.toList.map fun b => .int .u8 b.toNat)
  | _ => none

def lenA : Value → Option Nat
  | .slice _ n _ => some n
  | .string s => some s.size
  | _ => none

def asByte : Value → Option UInt8
  | .int .u8 n => some (UInt8.ofNat n.toNat)
  | _ => none

def convA (P : Program) (src dst : TypeId) (x : Value) (h : Heap) : Out :=
  match P.underlying src, P.underlying dst, x with
  | some _, some (.int k), .int _ n => some (.int k (k.wrap n), h)
  | some _, some .string, .string s => some (.string s, h)
  | some _, some (.slice e), .string s =>
    match P.underlying e with
    | some (.int .u8) => if s.size ≤ 140737488355328 then some (.slice (some ⟨h.next, 0, some 1⟩) s.size s.size, h.alloc (s.data.toList.map fun b => .int .u8 b.toNat)) else none
    | _ => none
  | some (.slice _), some (.slice e), .slice (some a) n c =>
    match P.underlying e with
    | some (.int .u8) => if src = dst && h.n0 ≤ a.block && (h.get a.block).isSome && !(a.spot == some 0) then some (.slice (some a) n c, h) else none
    | _ => none
  | some (.slice e), some .string, .slice a n c =>
    match P.underlying e with
    | some (.int .u8) =>
      match firstA 1 n (.slice a n c) h with
      | some l => match l.mapM asByte with
        | some bs => some (.string ⟨bs.toArray⟩, h)
        | none => none
      | none => none
    | _ => none
  | _, _, _ => none

def makeA (P : Program) (t : TypeId) (len cap : Value) (h : Heap) : Out :=
  match elemT P t, len, cap with
  | some e, .int .i64 l, .int .i64 c =>
    match sizeT P e, bytesT P e, zeroT P e with
    | some n, some by_, some z =>
      if 0 ≤ l && l ≤ c && c ≤ 9223372036854775807 && by_ * c ≤ 281474976710656 && flatAll z.cells.toList && z.cells.size = n && 0 < n then
        some (.slice (some ⟨h.next, 0, none⟩) l.toNat c.toNat, h.alloc (zeros z.cells.toList c.toNat))
      else none
    | _, _, _ => none
  | _, _, _ => none

/-- An optional bound of a slice expression. -/
def boundA (d : Nat) (y : Nat) : Option Value → Option Nat
  | none => some d
  | some (.int _ i) => if 0 ≤ i ∧ i ≤ y then some i.toNat else none
  | some _ => none

def boundsA (len cap : Nat) (lo hi mx : Option Value) : Option (Nat × Nat × Nat) :=
  match boundA cap cap mx with
  | some m =>
    match hi, mx with
    | none, some _ => none
    | _, _ =>
      match boundA len m hi with
      | some h => match boundA 0 h lo with
        | some l => some (l, h, m)
        | none => none
      | none => none
  | none => none

def sliceArr (n size : Nat) (x : Value) (lo hi mx : Option Value) : Option Value :=
  match x with
  | .pointer (some ⟨b, off, none⟩) =>
    match boundsA n n lo hi mx with
    | some (l, h, m) => some (.slice (some ⟨b, if m = l then off else off + l * size, none⟩) (h - l) (m - l))
    | none => none
  | _ => none

def sliceSl (size : Nat) (x : Value) (lo hi mx : Option Value) : Option Value :=
  match x with
  | .slice none len cap =>
    match boundsA len cap lo hi mx with
    | some (l, h, m) => some (.slice none (h - l) (m - l))
    | none => none
  | .slice (some ⟨b, off, none⟩) len cap =>
    match boundsA len cap lo hi mx with
    | some (l, h, m) => some (.slice (some ⟨b, if m = l then off else off + l * size, none⟩) (h - l) (m - l))
    | none => none
  | .slice (some ⟨b, off, some s⟩) len cap =>
    match mx with
    | some _ => none
    | none => match boundsA len cap lo hi none with
      | some (l, h, m) => if s = size ∧ s ≠ 0 then some (.slice (some ⟨b, off + l * size, some s⟩) (h - l) (m - l)) else none
      | none => none
  | .string s =>
    match mx with
    | some _ => none
    | none => match boundsA s.size s.size lo hi none with
      | some (l, h, _) => some (.string (s.extract l h))
      | none => none
  | _ => none

def sliceA (P : Program) (t : TypeId) (x : Value) (lo hi mx : Option Value) : Option Value :=
  match P.underlying t with
  | some (.array n e) => (sizeT P e).bind fun z => sliceArr n z x lo hi mx
  | some (.pointer arr) => match P.underlying arr with
    | some (.array n e) => (sizeT P e).bind fun z => sliceArr n z x lo hi mx
    | _ => none
  | some (.slice e) => match x with
    | .string _ => none
    | x => (sizeT P e).bind fun z => sliceSl z x lo hi mx
  | some .string => match x with
    | .string s => sliceSl 1 (.string s) lo hi mx
    | _ => none
  | _ => none

def addP (v : Value) (n : Nat) : Option Value :=
  match v with
  | .pointer (some ⟨b, off, none⟩) => some (ptr b (off + n))
  | _ => none

def fieldAtA (P : Program) (t : TypeId) (x : Value) (i : Nat) : Option Value :=
  match P.underlying t with
  | some (.struct fs) => match fs[i]? with
    | some f => match sizeT P f.type with
      | some n => if n = 0 then none else addP x f.offset
      | none => none
    | none => none
  | _ => none

def idxA (n size : Nat) (v ix : Value) : Option Value :=
  match ix with
  | .int _ i => if 0 ≤ i ∧ i < n then addP v (i.toNat * size) else none
  | _ => none

def idxS (size : Nat) (v ix : Value) : Option Value :=
  match v, ix with
  | .slice (some ⟨b, off, _⟩) len _, .int _ i => if 0 ≤ i ∧ i < len then some (ptr b (off + i.toNat * size)) else none
  | _, _ => none

def indexAtA (P : Program) (t : TypeId) (x ix : Value) : Option Value :=
  match P.underlying t with
  | some (.array n e) => (sizeT P e).bind fun z => idxA n z x ix
  | some (.slice e) => (sizeT P e).bind fun z => idxS z x ix
  | _ => none

def partA (P : Program) (t : TypeId) (cs : Array Value) (off : Nat) : Option Value :=
  match aggT P t, sizeT P t with
  | some true, some n => some (.agg (cs.extract off (off + n)))
  | some false, some _ => cs[off]?
  | _, _ => none

def fieldA (P : Program) (t : TypeId) (x : Value) (i : Nat) : Option Value :=
  match P.underlying t, x with
  | some (.struct fs), .agg cs => match fs[i]? with
    | some f => partA P f.type cs f.offset
    | none => none
  | _, _ => none

def indexA (P : Program) (t : TypeId) (x ix : Value) : Option Value :=
  match P.underlying t, x, ix with
  | some (.array n e), .agg cs, .int _ i => if 0 ≤ i ∧ i < n then (sizeT P e).bind fun z => partA P e cs (i.toNat * z) else none
  | some .string, .string s, .int _ i => if 0 ≤ i then (s[i.toNat]?).map fun b => .int .u8 b.toNat else none
  | _, _, _ => none

def extractA (t : Value) (i : Nat) : Option Value :=
  match t with
  | .tuple vs => vs[i]?
  | _ => none

/-- append: in place where the room is known; else into a new block: the old one of a slice with hidden capacity is gone then. -/
def appendA (size by_ : Nat) (s x : Value) (h : Heap) : Out :=
  match s, lenA x with
  | .slice base len cap, some m =>
    match firstA size m x h with
    | none => none
    | some news =>
      if !(oneCells news) || !((len + m) * by_ ≤ 140737488355328) || !(len + m ≤ 4611686018427387904) || news.length ≠ m * size then none else
      if len + m ≤ cap then
        if m = 0 then some (s, h) else
        match base with
        | some ⟨b, off, _⟩ => (stL b (off + len * size) news h).map fun h' => (.slice base (len + m) cap, h')
        | none => none
      else
        match base with
        | none => if len = 0 then some (.slice (some ⟨h.next, 0, some size⟩) (len + m) (len + m), h.alloc news) else none
        | some ⟨b, off, sp⟩ =>
          match firstA size len s h with
          | none => none
          | some olds =>
            if olds.length ≠ len * size then none else
            match sp with
            | none => some (.slice (some ⟨h.next, 0, some size⟩) (len + m) (len + m), h.alloc (olds ++ news))
            | some z => if z = size && h.n0 ≤ b && (h.get b).isSome then some (.slice (some ⟨h.next, 0, some size⟩) (len + m) (len + m), (h.kill b).alloc (olds ++ news)) else none
  | _, _ => none

def copyA (size : Nat) (d s : Value) (h : Heap) : Out :=
  match d, lenA s with
  | .slice base dLen _, some m =>
    let n := min m dLen
    match firstA size n s h with
    | none => none
    | some news =>
      if n = 0 then some (.int .i64 n, h) else
      match base with
      | none => none
      | some ⟨b, off, _⟩ => (stL b off news h).map fun h' => (.int .i64 n, h')
  | _, _ => none

def clearA (P : Program) (e : TypeId) (size : Nat) (d : Value) (h : Heap) : Out :=
  match d with
  | .slice none _ _ => some (undef, h)
  | .slice (some ⟨b, off, _⟩) n _ =>
    if n = 0 then some (undef, h) else
    match zeroT P e with
    | some z => if flatAll z.cells.toList && z.cells.size = size && 0 < size then (stL b off (zeros z.cells.toList n) h).map fun h' => (undef, h') else none
    | none => none
  | _ => none

def lenOfT (P : Program) (t : TypeId) (x : Value) : Option Value :=
  match P.underlying t, x with
  | some .string, .string s => some (.int .i64 s.size)
  | some (.array n _), _ => some (.int .i64 n)
  | some (.pointer arr), _ => match P.underlying arr with
    | some (.array n _) => some (.int .i64 n)
    | _ => none
  | some (.slice _), .slice _ n _ => some (.int .i64 n)
  | _, _ => none

def minmax (mx : Bool) : Value → List Value → Option Value
  | v, [] => some v
  | .int k x, .int k' y :: rest => if k = k' then minmax mx (.int k (if (if mx then y > x else y < x) then y else x)) rest else none
  | _, _ => none

def isIntT : TypeDesc → Bool
  | .int _ => true
  | _ => false

def builtinA (P : Program) (b : Builtin) (ts : List TypeId) (args : List Value) (h : Heap) : Out :=
  match b, args, ts with
  | .append, [s, x], [t, tx] =>
    match elemT P t with
    | some e => match sizeT P e, bytesT P e, zeroT P e, P.underlying tx with
      | some n, some by_, some z, some d =>
        if isIntT d || !(z.cells.size = n) || n = 0 then none else appendA n by_ s x h
      | _, _, _, _ => none
    | none => none
  | .copy, [d, s], [t, _] => match elemT P t with
    | some e => (sizeT P e).bind fun n => copyA n d s h
    | none => none
  | .clear, [d], [t] => match elemT P t with
    | some e => (sizeT P e).bind fun n => clearA P e n d h
    | none => none
  | .len, [x], [t] => (lenOfT P t x).map fun v => (v, h)
  | .max, v :: u :: r, _ => (minmax true v (u :: r)).map fun v => (v, h)
  | .min, v :: u :: r, _ => (minmax false v (u :: r)).map fun v => (v, h)
  | _, _, _ => none

abbrev CallF := FuncId → List Value → Heap → Out

def callA (P : Program) (C : CallF) (f : Value) (args : List Value) (h : Heap) : Out :=
  match f with
  | .func (.func i) first captured => C i (first.toList ++ args ++ captured.toList) h
  | _ => none

/-- One operation. -/
def opA (P : Program) (C : CallF) (o : Oper) (ρ : Operand → Value) (h : Heap) : Out :=
  let pu (v : Option Value) : Out := v.map fun v => (v, h)
  match o.op with
  | .move x | .assign x => some (ρ x, h)
  | .pick c a b => match ρ c with
    | .bool t => some (if t then ρ a else ρ b, h)
    | _ => none
  | .alloc t => zero P t h
  | .box _ x => box (ρ x) h
  | .build t parts => pu (buildA P t (parts.toList.map fun (i, x) => (i, ρ x)))
  | .buildSlice t len parts => buildSliceA P t len (parts.toList.map fun (i, x) => (i, ρ x)) h
  | .load t x => ld P t (ρ x) h
  | .store t x v => st P t (ρ x) (ρ v) h
  | .nilCheck x => pu (nilCheckA (ρ x))
  | .binOp op t x y _ => pu (bin P op t (ρ x) (ρ y))
  | .unOp op _ x => pu (unA op (ρ x))
  | .convert s d x => convA P s d (ρ x) h
  | .makeSlice t l c => makeA P t (ρ l) (ρ c) h
  | .slice t x lo hi mx => pu (sliceA P t (ρ x) (lo.map ρ) (hi.map ρ) (mx.map ρ))
  | .fieldAddr t x i => pu (fieldAtA P t (ρ x) i)
  | .field t x i => pu (fieldA P t (ρ x) i)
  | .indexAddr t x i => pu (indexAtA P t (ρ x) (ρ i))
  | .index t x i => pu (indexA P t (ρ x) (ρ i))
  | .extract t i => pu (extractA (ρ t) i)
  | .call c =>
    let args := c.args.toList.map ρ
    match c.callee with
    | .builtin b => builtinA P b c.argTypes.toList args h
    | .value f => callA P C (ρ f) args h
    | .invoke _ _ => none
  | _ => none

abbrev Env := List Value

def ev (e : Env) : Operand → Value
  | .tmp t => e.getD t undef
  | .const v => v
  | .global g => ptr g 0
  | .func f => .func (.func f) #[] #[]

def putD (e : Env) (d : Option Tmp) (v : Value) : Env :=
  match d with
  | some t => e.set t v
  | none => e

def yieldA (ops : Array Oper) (e : Env) (j : Nat) : Option Bool :=
  match ((ops[j]?).bind (·.dst)).bind (e[·]?) with
  | some (.bool b) => some b
  | _ => none

def wantA (ops : Array Oper) (o : Oper) (e : Env) : Bool :=
  match o.guard with
  | none => true
  | some (j, want) => yieldA ops e j == some want

def stepA (P : Program) (C : CallF) (ops : Array Oper) (o : Oper) (e : Env) (h : Heap) : Option (Env × Heap) :=
  if wantA ops o e then
    match opA P C o (ev e) h with
    | some (v, h') => some (putD e o.dst v, h')
    | none => none
  else some (putD e o.dst undef, h)

def opsA (P : Program) (C : CallF) (ops : Array Oper) : List Oper → Env → Heap → Option (Env × Heap)
  | [], e, h => some (e, h)
  | o :: rest, e, h => match stepA P C ops o e h with
    | some (e', h') => opsA P C ops rest e' h'
    | none => none

/-- Does an operation look at memory (read), make some (alloc), change it or call (eff), or nothing of these? -/
inductive Kd where
  | pure | read | alloc | eff
  deriving DecidableEq

def kindOf (P : Program) (o : Oper) : Kd :=
  match o.op with
  | .move _ | .assign _ | .pick .. | .build .. | .nilCheck _ | .binOp .. | .unOp .. | .slice .. | .fieldAddr .. | .field .. | .indexAddr .. | .index .. | .extract .. => .pure
  | .load .. => .read
  | .alloc _ | .box .. | .buildSlice .. | .makeSlice .. => .alloc
  | .convert _ d _ => match P.underlying d with
    | some (.int _) => .read
    | some .string => .read
    | _ => .eff
  | .call c => match c.callee with
    | .builtin .len | .builtin .max | .builtin .min => .read
    | _ => .eff
  | _ => .eff

def opTmps (o : Oper) : List Tmp := o.op.operands.toList.filterMap fun | .tmp t => some t | _ => none
def guardTmp (ops : Array Oper) (o : Oper) : List Tmp :=
  match o.guard with
  | some (j, _) => ((ops[j]?).bind (·.dst)).toList
  | none => []
/-- All temporaries that an operation names. -/
def namesA (ops : Array Oper) (o : Oper) : List Tmp := o.dst.toList ++ opTmps o ++ guardTmp ops o

def befM (ops : Array Oper) : Array Nat := Region.before ops
def befB (m : Array Nat) (i j : Nat) : Bool := (m.getD i 0).testBit j

/-- The text's order, but that what makes memory stands as late as can be. -/
def lateGo (P : Program) (m : Array Nat) : List (Nat × Oper) → List (Nat × Oper) → List (Nat × Oper)
  | [], pend => pend
  | x :: rest, pend =>
    if kindOf P x.2 = .alloc then lateGo P m rest (pend ++ [x])
    else pend.filter (fun a => befB m x.1 a.1) ++ x :: lateGo P m rest (pend.filter fun a => !befB m x.1 a.1)
def late (P : Program) (ops : Array Oper) : List (Nat × Oper) := lateGo P (befM ops) (ops.toList.zipIdx.map fun x => (x.2, x.1)) []

def clash (P : Program) (ops : Array Oper) (x y : Nat × Oper) : Bool :=
  (match y.2.dst with | some t => (namesA ops x.2).contains t | none => false) ||
  (match x.2.dst with | some t => (namesA ops y.2).contains t | none => false) ||
  (kindOf P x.2 == .eff && kindOf P y.2 == .eff) ||
  -- x stands ahead of y: what makes memory must not stand ahead of a reader or of an effect that do not hang on it
  (kindOf P x.2 == .alloc && (kindOf P y.2 == .eff || kindOf P y.2 == .read))

def pairsOk (r : (Nat × Oper) → (Nat × Oper) → Bool) : List (Nat × Oper) → Bool
  | [] => true
  | x :: rest => rest.all (r x) && pairsOk r rest

/-- What must be so of a region's text, so that one order stands for every order. l: the operations in that order, with their places in the text. -/
def statOk (P : Program) (ops : Array Oper) (l : List (Nat × Oper)) : Bool :=
  let m := befM ops
  l.length == ops.size &&
  l.all (fun x => (ops[x.1]?).isSome && (match x.2.guard with | some (j, _) => befB m x.1 j | none => true)) &&
  (ops.toList.zipIdx.all fun x => x.1.after.all fun e => !Region.binds .any e || e.on < x.2) &&
  -- y behind x: not the same, x does not hang on y, and where they clash y hangs on x
  pairsOk (fun x y => x.1 != y.1 && !befB m x.1 y.1 && (befB m y.1 x.1 || !clash P ops x y)) l

/-- One operation of a run in the text's order: what stood before it, its value, and whether it ran. -/
structure Tr1 where
  e : Env
  h : Heap
  v : Value
  ran : Bool

def traceA (P : Program) (C : CallF) (ops : Array Oper) : List (Nat × Oper) → Env → Heap → Option (List Tr1 × Env × Heap)
  | [], e, h => some ([], e, h)
  | (_, o) :: rest, e, h =>
    if wantA ops o e then
      match opA P C o (ev e) h with
      | some (v, h') => match traceA P C ops rest (putD e o.dst v) h' with
        | some (l, r) => some (⟨e, h, v, true⟩ :: l, r)
        | none => none
      | none => none
    else
      match traceA P C ops rest (putD e o.dst undef) h with
      | some (l, r) => some (⟨e, h, undef, false⟩ :: l, r)
      | none => none

mutual
def veq : Value → Value → Bool
  | .bool a, .bool b => a == b
  | .int k a, .int j b => k == j && a == b
  | .string a, .string b => a.data == b.data
  | .pointer a, .pointer b => a == b
  | .slice a l c, .slice b m d => a == b && l == m && c == d
  | .map a, .map b => a == b
  | .chan a, .chan b => a == b
  | .nilFunc, .nilFunc => true
  | .nilIface, .nilIface => true
  | .float k a, .float j b => k == j && a == b
  | .complex k a b, .complex j c d => k == j && a == c && b == d
  | .agg ⟨a⟩, .agg ⟨b⟩ => veqL a b
  | .tuple ⟨a⟩, .tuple ⟨b⟩ => veqL a b
  | .func f ⟨a⟩ ⟨b⟩, .func g ⟨c⟩ ⟨d⟩ => f == g && veqL a c && veqL b d
  | .iface t a, .iface u b => t == u && veq a b
  | _, _ => false
def veqL : List Value → List Value → Bool
  | [], [] => true
  | a :: x, b :: y => veq a b && veqL x y
  | _, _ => false
end

def same (r : Out) (v : Value) : Bool :=
  match r with
  | some (x, _) => veq x v
  | none => false

/-- Room for blocks that are not there. -/
def Heap.pad : Nat → Heap → Heap
  | 0, h => h
  | c + 1, h => ((Heap.pad c h).alloc []).kill (Heap.pad c h).next
/-- A heap, and beside it the block that was made between two others. -/
def Heap.plus (ran : Bool) (h a b : Heap) : Heap :=
  if ran then match b.get a.next with
    | some k => (Heap.pad (a.next - h.next) h).alloc k
    | none => h
  else h
/-- The blocks that a reader names and that are made between an effect and it. -/
def madeIn (P : Program) (l : List (Nat × Oper)) (x : Nat × Nat) : List Nat :=
  if x.2 < x.1 then (List.range x.1).filter fun r => decide (x.2 ≤ r) && match l[r]?, l[x.1]? with
    | some y, some z => kindOf P y.2 == .alloc && (match y.2.dst with | some t => (opTmps z.2).contains t | none => false)
    | _, _ => false
  else []
def plusStep (rs : List Bool) (hs : List Heap) (h : Heap) (r : Nat) : Heap :=
  match rs[r]?, hs[r]?, hs[r + 1]? with
  | some q, some a, some b => Heap.plus q h a b
  | _, _, _ => h
/-- The heap in which a reader might stand. -/
def heapAt (rs : List Bool) (hs : List Heap) (mk : List Nat) (i : Nat) : Option Heap := (hs[i]?).map fun h => mk.foldl (plusStep rs hs) h

/-- What an operation that reads finds is the same wherever the order lets it stand. -/
def dynOk (P : Program) (C : CallF) (ops : Array Oper) (l : List (Nat × Oper)) (tr : List Tr1) (hEnd : Heap) : Bool :=
  let m := befM ops
  let hs := tr.map (·.h) ++ [hEnd]
  let lt := (l.zip tr).zipIdx
  let ys := l.zipIdx.filter fun y => kindOf P y.1.2 == .eff
  lt.all fun x => !(kindOf P x.1.1.2 == .read && x.1.2.ran) ||
    ys.all fun y => befB m x.1.1.1 y.1.1 || befB m y.1.1 x.1.1.1 ||
      match heapAt (tr.map (·.ran)) hs (madeIn P l (x.2, y.2)) (if y.2 < x.2 then y.2 else y.2 + 1) with
      | some h => same (opA P C x.1.1.2 (ev x.1.2.e) h) x.1.2.v
      | none => false

def regionA (P : Program) (C : CallF) (ops : Array Oper) (draw : Bool) (e : Env) (h : Heap) : Option (Env × Heap) :=
  if draw then
    if statOk P ops (late P ops) then
      match traceA P C ops (late P ops) e h with
      | some (tr, e', h') => if dynOk P C ops (late P ops) tr h' then some (e', h') else none
      | none => none
    else none
  else opsA P C ops ops.toList e h

inductive Ex where
  | normal | ret | exit (id : Nat)
  deriving DecidableEq

def iter (step : Env → Heap → Option (Ex × Env × Heap)) : Nat → Env → Heap → Option (Ex × Env × Heap)
  | 0, _, _ => none
  | n + 1, e, h => match step e h with
    | some (.normal, e', h') => iter step n e' h'
    | r => r

/-- More rounds than any loop of a terminating call goes. -/
def rounds : Nat := 18446744073709551616

/-- A piece of code. -/
def codeA (P : Program) (C : CallF) : Code → Env → Heap → Option (Ex × Env × Heap)
  | .skip, e, h => some (.normal, e, h)
  | .region _ ops draw, e, h => match regionA P C ops draw e h with
    | some (e', h') => some (.normal, e', h')
    | none => none
  | .seq a b, e, h => match codeA P C a e h with
    | some (.normal, e', h') => codeA P C b e' h'
    | r => r
  | .cond c a b, e, h => match ev e c with
    | .bool true => codeA P C a e h
    | .bool false => codeA P C b e h
    | _ => none
  | .block id b, e, h => match codeA P C b e h with
    | some (.exit i, e', h') => some (if i = id then .normal else .exit i, e', h')
    | r => r
  | .loop b, e, h => iter (codeA P C b) rounds e h
  | .exit i, e, h => some (.exit i, e, h)
  | .scope b, e, h => codeA P C b e h
  | .label _, e, h => some (.normal, e, h)
  | .ret, e, h => some (.ret, e, h)
  | .goto _, _, _ => none
  | .rangeFunc .., _, _ => none
  | .refuse _, _, _ => none

def resultA (P : Program) (r : ResultVar) (e : Env) (h : Heap) : Option Value :=
  match r with
  | .tmp t => some (e.getD t undef)
  | .cell a t => (ld P t (e.getD a undef) h).map (·.1)

def resultsA (P : Program) (rs : List ResultVar) (e : Env) (h : Heap) : Out :=
  match rs with
  | [r] => (resultA P r e h).map fun v => (v, h)
  | rs => (rs.mapM fun r => resultA P r e h).map fun vs => (.tuple vs.toArray, h)

def bodyA (P : Program) (C : CallF) (fn : Func) (args : List Value) (h : Heap) : Out :=
  match fn.body with
  | none => none
  | some c => match codeA P C c (args ++ List.replicate (fn.ntmps - args.length) undef) h with
    | some (.normal, e, h') | some (.ret, e, h') => resultsA P fn.results.toList e h'
    | _ => none

end Go.Abs

namespace Go.Abs

theorem Tr.get_setF : ∀ (f : Nat) (t : Tr) (n : Nat) (x : Option Blk) (m : Nat), n < f → (Tr.setF f t n x).get m = if m = n then x else t.get m
  | 0, _, _, _, _, h => by omega
  | f + 1, .nil, n, x, m, h => by
    unfold Tr.setF
    by_cases h0 : n = 0
    · subst h0
      simp only [if_true, Tr.get]
      by_cases hm : m = 0
      · simp [hm]
      · simp [hm]
    · rw [if_neg h0]
      by_cases h1 : n % 2 = 1
      · rw [if_pos h1]
        simp only [Tr.get]
        by_cases hm : m = 0
        · have : ¬ m = n := by omega
          simp [hm, Ne.symm h0]
        · rw [if_neg hm]
          by_cases hm1 : m % 2 = 1
          · rw [if_pos hm1, Tr.get_setF f .nil (n / 2) x (m / 2) (by omega)]
            by_cases e : m = n
            · subst e; simp
            · rw [if_neg e, if_neg (by omega)]; simp [Tr.get]
          · rw [if_neg hm1, if_neg (by intro e; subst e; exact hm1 h1)]
      · rw [if_neg h1]
        simp only [Tr.get]
        by_cases hm : m = 0
        · simp [hm, Ne.symm h0]
        · rw [if_neg hm]
          by_cases hm1 : m % 2 = 1
          · rw [if_pos hm1, if_neg (by intro e; subst e; exact h1 hm1)]
          · rw [if_neg hm1, Tr.get_setF f .nil (n / 2 - 1) x (m / 2 - 1) (by omega)]
            by_cases e : m = n
            · subst e; simp
            · rw [if_neg e, if_neg (by omega)]; simp [Tr.get]
  | f + 1, .node l v r, n, x, m, h => by
    unfold Tr.setF
    by_cases h0 : n = 0
    · subst h0
      simp only [if_true, Tr.get]
      by_cases hm : m = 0
      · simp [hm]
      · simp [hm]
    · rw [if_neg h0]
      by_cases h1 : n % 2 = 1
      · rw [if_pos h1]
        simp only [Tr.get]
        by_cases hm : m = 0
        · simp [hm, Ne.symm h0]
        · rw [if_neg hm]
          by_cases hm1 : m % 2 = 1
          · rw [if_pos hm1, Tr.get_setF f l (n / 2) x (m / 2) (by omega), if_neg hm, if_pos hm1]
            by_cases e : m = n
            · subst e; simp
            · rw [if_neg e, if_neg (by omega)]
          · rw [if_neg hm1, if_neg (by intro e; subst e; exact hm1 h1), if_neg hm, if_neg hm1]
      · rw [if_neg h1]
        simp only [Tr.get]
        by_cases hm : m = 0
        · simp [hm, Ne.symm h0]
        · rw [if_neg hm]
          by_cases hm1 : m % 2 = 1
          · rw [if_pos hm1, if_neg (by intro e; subst e; exact h1 hm1), if_neg hm, if_pos hm1]
          · rw [if_neg hm1, Tr.get_setF f r (n / 2 - 1) x (m / 2 - 1) (by omega), if_neg hm, if_neg hm1]
            by_cases e : m = n
            · subst e; simp
            · rw [if_neg e, if_neg (by omega)]

theorem Tr.get_set (t : Tr) (n : Nat) (x : Option Blk) (m : Nat) : (t.set n x).get m = if m = n then x else t.get m :=
  Tr.get_setF _ _ _ _ _ (by omega)

section
variable (h : Heap)
@[simp] theorem Heap.next_put (b : Nat) (x : Option Blk) : (h.put b x).next = h.next := rfl
@[simp] theorem Heap.next_set (b : Nat) (x : Blk) : (h.set b x).next = h.next := rfl
@[simp] theorem Heap.next_kill (b : Nat) : (h.kill b).next = h.next := rfl
@[simp] theorem Heap.next_alloc (x : Blk) : (h.alloc x).next = h.next + 1 := rfl
@[simp] theorem Heap.n0_put (b : Nat) (x : Option Blk) : (h.put b x).n0 = h.n0 := rfl
@[simp] theorem Heap.n0_set (b : Nat) (x : Blk) : (h.set b x).n0 = h.n0 := rfl
@[simp] theorem Heap.n0_kill (b : Nat) : (h.kill b).n0 = h.n0 := rfl
@[simp] theorem Heap.n0_alloc (x : Blk) : (h.alloc x).n0 = h.n0 := rfl
@[simp] theorem Heap.old_put (b : Nat) (x : Option Blk) : (h.put b x).old = h.old := rfl
@[simp] theorem Heap.old_set (b : Nat) (x : Blk) : (h.set b x).old = h.old := rfl
@[simp] theorem Heap.old_kill (b : Nat) : (h.kill b).old = h.old := rfl
@[simp] theorem Heap.old_alloc (x : Blk) : (h.alloc x).old = h.old := rfl
theorem Heap.n0_le_next : h.n0 ≤ h.next := Nat.le_add_right _ _

theorem Heap.get_alloc (x : Blk) (c : Nat) : (h.alloc x).get c = if c = h.next then some x else h.get c := by
  unfold Heap.get Heap.alloc Heap.next
  dsimp only
  by_cases h1 : c < h.n0
  · simp only [h1, if_true]
    rw [if_neg (by omega)]
  · rw [if_neg h1, if_neg h1]
    by_cases h2 : c = h.n0 + h.cnt
    · subst h2
      simp [Tr.get_set]
    · rw [if_neg h2]
      by_cases h3 : c < h.n0 + h.cnt
      · rw [if_pos (by omega), if_pos h3, Tr.get_set, if_neg (by omega)]
      · rw [if_neg (by omega), if_neg h3]

theorem Heap.get_put {b : Nat} (hb : h.n0 ≤ b) (hn : b < h.next) (x : Option Blk) (c : Nat) : (h.put b x).get c = if c = b then x else h.get c := by
  unfold Heap.next at hn
  unfold Heap.get Heap.put
  dsimp only
  by_cases h1 : c < h.n0
  · rw [if_pos h1, if_pos h1, if_neg (by omega)]
  · rw [if_neg h1, if_neg h1]
    by_cases h3 : c < h.n0 + h.cnt
    · rw [if_pos h3, if_pos h3, Tr.get_set]
      by_cases h2 : c = b
      · subst h2; simp
      · rw [if_neg h2, if_neg (by omega)]
    · rw [if_neg h3, if_neg h3, if_neg (by omega)]

theorem Heap.lt_of_get {b : Nat} {k : Blk} (hg : h.get b = some k) : b < h.next := by
  unfold Heap.get at hg
  unfold Heap.next
  split at hg
  · omega
  · split at hg
    · omega
    · cases hg

end

theorem Heap.get_set_same {h : Heap} {b : Nat} {k : Blk} (hb : h.n0 ≤ b) (hg : h.get b = some k) (x : Blk) : (h.set b x).get b = some x := by
  unfold Heap.set; rw [h.get_put hb (h.lt_of_get hg)]; simp
theorem Heap.get_set_other {h : Heap} {b c : Nat} (hb : h.n0 ≤ b) (hn : b < h.next) (x : Blk) (hc : c ≠ b) : (h.set b x).get c = h.get c := by
  unfold Heap.set; rw [h.get_put hb hn]; simp [hc]
theorem Heap.get_alloc_some {h : Heap} {b : Nat} {k : Blk} (hg : h.get b = some k) (x : Blk) : (h.alloc x).get b = some k := by
  rw [h.get_alloc, if_neg (by have := h.lt_of_get hg; omega)]; exact hg

/-- Where an abstract block lies: concrete block, its first cell, the concrete block's cells, its own cells. -/
structure Loc where
  blk : Nat
  off : Nat
  ext : Nat
  len : Nat

abbrev Mu := Nat → Option Loc

inductive VRel (μ : Mu) : Value → Value → Prop
  | flat {v : Value} (h : flat v = true) : VRel μ v v
  | ptr {b off : Nat} {L : Loc} (h : μ b = some L) : VRel μ (.pointer (some ⟨b, off, none⟩)) (.pointer (some ⟨L.blk, L.off + off, none⟩))
  | slice {b off len cap : Nat} {L : Loc} (h : μ b = some L) : VRel μ (.slice (some ⟨b, off, none⟩) len cap) (.slice (some ⟨L.blk, L.off + off, none⟩) len cap)
  | hid {b off len cap cap' s : Nat} {L : Loc} (h : μ b = some L) (hl : len ≤ cap) (hc : cap ≤ cap') (hm : cap' ≤ maxLen) (h1 : off + cap * s = L.len)
      (h2 : L.off + off + cap' * s ≤ L.ext) : VRel μ (.slice (some ⟨b, off, some s⟩) len cap) (.slice (some ⟨L.blk, L.off + off, none⟩) len cap')
  | hemp {b off s O : Nat} {L : Loc} (h : μ b = some L) : VRel μ (.slice (some ⟨b, off, some s⟩) 0 0) (.slice (some ⟨L.blk, O, none⟩) 0 0)
  | zer {b off : Nat} {a : Addr} : VRel μ (.slice (some ⟨b, off, some 0⟩) 0 0) (.slice (some a) 0 0)
  | agg {xs ys : Array Value} (hs : xs.size = ys.size) (h : ∀ (i : Nat) (x y : Value), xs[i]? = some x → ys[i]? = some y → VRel μ x y) : VRel μ (.agg xs) (.agg ys)
  | tuple {xs ys : Array Value} (hs : xs.size = ys.size) (h : ∀ (i : Nat) (x y : Value), xs[i]? = some x → ys[i]? = some y → VRel μ x y) : VRel μ (.tuple xs) (.tuple ys)
  | func {f : Fn} {a b c d : Array Value} (h1 : a.size = b.size) (h2 : ∀ (i : Nat) (x y : Value), a[i]? = some x → b[i]? = some y → VRel μ x y)
      (h3 : c.size = d.size) (h4 : ∀ (i : Nat) (x y : Value), c[i]? = some x → d[i]? = some y → VRel μ x y) : VRel μ (.func f a c) (.func f b d)
  | iface {t : TypeId} {x y : Value} (h : VRel μ x y) : VRel μ (.iface t x) (.iface t y)

theorem VRel.undef (μ : Mu) : VRel μ undef undef := .tuple rfl (by intro i x y h; simp at h)

theorem VRel.mono {μ μ' : Mu} {v v' : Value} (h : VRel μ v v') (hm : ∀ b L, μ b = some L → μ' b = some L) : VRel μ' v v' := by
  induction h with
  | flat h => exact .flat h
  | ptr h => exact .ptr (hm _ _ h)
  | slice h => exact .slice (hm _ _ h)
  | hid h hl hc hx h1 h2 => exact .hid (hm _ _ h) hl hc hx h1 h2
  | hemp h => exact .hemp (hm _ _ h)
  | zer => exact .zer
  | agg hs _ ih => exact .agg hs ih
  | tuple hs _ ih => exact .tuple hs ih
  | func h1 _ h3 _ i1 i2 => exact .func h1 i1 h3 i2
  | iface _ ih => exact .iface ih

/-- Lists, place by place. -/
def LRel (μ : Mu) (xs ys : List Value) : Prop := xs.length = ys.length ∧ ∀ (i : Nat) (x y : Value), xs[i]? = some x → ys[i]? = some y → VRel μ x y

theorem LRel.mono {μ μ' : Mu} {v v' : List Value} (h : LRel μ v v') (hm : ∀ b L, μ b = some L → μ' b = some L) : LRel μ' v v' :=
  ⟨h.1, fun i x y hx hy => (h.2 i x y hx hy).mono hm⟩
theorem LRel.nil (μ : Mu) : LRel μ [] [] := ⟨rfl, by simp⟩
theorem LRel.cons {μ : Mu} {x y : Value} {xs ys : List Value} (h : VRel μ x y) (ht : LRel μ xs ys) : LRel μ (x :: xs) (y :: ys) := by
  refine ⟨by simp [ht.1], fun i a b ha hb => ?_⟩
  cases i with
  | zero => simp at ha hb; subst ha hb; exact h
  | succ i => simp at ha hb; exact ht.2 i a b ha hb
theorem LRel.head {μ : Mu} {x y : Value} {xs ys : List Value} (h : LRel μ (x :: xs) (y :: ys)) : VRel μ x y := h.2 0 x y rfl rfl
theorem LRel.tail {μ : Mu} {x y : Value} {xs ys : List Value} (h : LRel μ (x :: xs) (y :: ys)) : LRel μ xs ys :=
  ⟨by have := h.1; simpa using this, fun i a b ha hb => h.2 (i + 1) a b ha hb⟩
theorem LRel.get {μ : Mu} {xs ys : List Value} (h : LRel μ xs ys) {i : Nat} {x : Value} (hx : xs[i]? = some x) : ∃ y, ys[i]? = some y ∧ VRel μ x y := by
  have hi : i < ys.length := by rw [← h.1]; exact (List.getElem?_eq_some_iff.1 hx).1
  exact ⟨ys[i], List.getElem?_eq_getElem hi, h.2 i x _ hx (List.getElem?_eq_getElem hi)⟩
theorem LRel.getD {μ : Mu} {xs ys : List Value} (h : LRel μ xs ys) (i : Nat) : VRel μ (xs.getD i Go.undef) (ys.getD i Go.undef) := by
  rw [List.getD_eq_getElem?_getD, List.getD_eq_getElem?_getD]
  cases hx : xs[i]? with
  | none =>
    have : ys[i]? = none := by rw [List.getElem?_eq_none_iff] at hx ⊢; rw [← h.1]; exact hx
    rw [this]; exact VRel.undef μ
  | some x =>
    obtain ⟨y, hy, hv⟩ := h.get hx
    rw [hy]; exact hv
theorem LRel.append {μ : Mu} {a b c d : List Value} (h : LRel μ a b) (k : LRel μ c d) : LRel μ (a ++ c) (b ++ d) := by
  refine ⟨by simp [h.1, k.1], fun i x y hx hy => ?_⟩
  by_cases hi : i < a.length
  · rw [List.getElem?_append_left hi] at hx
    rw [List.getElem?_append_left (h.1 ▸ hi)] at hy
    exact h.2 i x y hx hy
  · rw [List.getElem?_append_right (by omega)] at hx
    rw [List.getElem?_append_right (by rw [← h.1]; omega), ← h.1] at hy
    exact k.2 _ x y hx hy
theorem LRel.take {μ : Mu} {a b : List Value} (h : LRel μ a b) (n : Nat) : LRel μ (a.take n) (b.take n) := by
  refine ⟨by simp [h.1], fun i x y hx hy => ?_⟩
  rw [List.getElem?_take] at hx hy
  split at hx
  · rename_i hi; rw [if_pos hi] at hy; exact h.2 i x y hx hy
  · cases hx
theorem LRel.drop {μ : Mu} {a b : List Value} (h : LRel μ a b) (n : Nat) : LRel μ (a.drop n) (b.drop n) := by
  refine ⟨by simp [h.1], fun i x y hx hy => ?_⟩
  rw [List.getElem?_drop] at hx hy
  exact h.2 _ x y hx hy
theorem LRel.splice {μ : Mu} {a b c d : List Value} (h : LRel μ a b) (k : LRel μ c d) (off : Nat) : LRel μ (splice a off c) (splice b off d) := by
  unfold Abs.splice
  rw [← k.1]
  exact ((h.take off).append k).append (h.drop _)
theorem LRel.set {μ : Mu} {a b : List Value} (h : LRel μ a b) (n : Nat) {x y : Value} (hv : VRel μ x y) : LRel μ (a.set n x) (b.set n y) := by
  refine ⟨by simp [h.1], fun i u v hu hv' => ?_⟩
  rw [List.getElem?_set] at hu hv'
  by_cases e : n = i
  · subst e
    simp only [if_true] at hu hv'
    split at hu
    · rename_i hl
      simp only [Option.some.injEq] at hu
      rw [if_pos (h.1 ▸ hl)] at hv'
      simp only [Option.some.injEq] at hv'
      subst hu hv'; exact hv
    · cases hu
  · rw [if_neg e] at hu hv'; exact h.2 i u v hu hv'
theorem LRel.replicate (μ : Mu) (n : Nat) {x y : Value} (hv : VRel μ x y) : LRel μ (List.replicate n x) (List.replicate n y) := by
  refine ⟨by simp, fun i u v hu hv' => ?_⟩
  simp only [List.getElem?_replicate] at hu hv'
  split at hu
  · rename_i hi; rw [if_pos hi] at hv'; simp at hu hv'; subst hu hv'; exact hv
  · cases hu
theorem LRel.of_flat {μ : Mu} {l : List Value} (h : flatAll l = true) : LRel μ l l := by
  refine ⟨rfl, fun i x y hx hy => ?_⟩
  rw [hx] at hy; cases hy
  have := List.mem_of_getElem? hx
  exact .flat (List.all_eq_true.1 h x this)

theorem VRel.agg_iff {μ : Mu} {xs : Array Value} {v : Value} (h : VRel μ (.agg xs) v) : ∃ ys, v = .agg ys ∧ LRel μ xs.toList ys.toList := by
  cases h with
  | flat h => simp [Abs.flat] at h
  | agg hs h => exact ⟨_, rfl, by simpa using hs, fun i x y hx hy => h i x y (by simpa using hx) (by simpa using hy)⟩
theorem VRel.tuple_iff {μ : Mu} {xs : Array Value} {v : Value} (h : VRel μ (.tuple xs) v) : ∃ ys, v = .tuple ys ∧ LRel μ xs.toList ys.toList := by
  cases h with
  | flat h => simp [Abs.flat] at h
  | tuple hs h => exact ⟨_, rfl, by simpa using hs, fun i x y hx hy => h i x y (by simpa using hx) (by simpa using hy)⟩
theorem VRel.of_list_agg {μ : Mu} {xs ys : List Value} (h : LRel μ xs ys) : VRel μ (.agg xs.toArray) (.agg ys.toArray) :=
  .agg (by simpa using h.1) (fun i x y hx hy => h.2 i x y (by simpa using hx) (by simpa using hy))
theorem VRel.of_list_tuple {μ : Mu} {xs ys : List Value} (h : LRel μ xs ys) : VRel μ (.tuple xs.toArray) (.tuple ys.toArray) :=
  .tuple (by simpa using h.1) (fun i x y hx hy => h.2 i x y (by simpa using hx) (by simpa using hy))
theorem VRel.flat_eq {μ : Mu} {x v : Value} (h : VRel μ x v) (hf : Abs.flat x = true) : v = x := by
  cases h with
  | flat _ => rfl
  | func h1 _ h3 _ =>
    rename_i f a b c d _ _
    cases f <;> simp [Abs.flat] at hf
    obtain ⟨ha, hc⟩ := hf
    subst ha hc
    have hb : b = #[] := Array.eq_empty_of_size_eq_zero (by simpa using h1.symm)
    have hd : d = #[] := Array.eq_empty_of_size_eq_zero (by simpa using h3.symm)
    rw [hb, hd]
  | _ => simp [Abs.flat] at hf
theorem LRel.flat_eq {μ : Mu} {xs ys : List Value} (h : LRel μ xs ys) (hf : flatAll xs = true) : ys = xs := by
  apply List.ext_getElem?
  intro i
  cases hx : xs[i]? with
  | none => rw [List.getElem?_eq_none_iff] at hx ⊢; rw [← h.1]; exact hx
  | some x =>
    obtain ⟨y, hy, hv⟩ := h.get hx
    rw [hy, hv.flat_eq (List.all_eq_true.1 hf x (List.mem_of_getElem? hx))]
theorem VRel.ground_eq {μ : Mu} {x v : Value} (h : VRel μ x v) (hf : ground x = true) : v = x := by
  cases x with
  | agg cs =>
    obtain ⟨ys, rfl, hl⟩ := h.agg_iff
    have := hl.flat_eq (by simpa [ground] using hf)
    rw [Array.toList_inj] at this
    rw [this]
  | _ => exact h.flat_eq (by simpa [ground] using hf)
theorem VRel.int {μ : Mu} {k : IntKind} {n : Int} {v : Value} (h : VRel μ (.int k n) v) : v = .int k n := h.flat_eq rfl
theorem VRel.bool {μ : Mu} {n : Bool} {v : Value} (h : VRel μ (.bool n) v) : v = .bool n := h.flat_eq rfl

/-- The cells of related values are related. -/
theorem VRel.cells {μ : Mu} {x y : Value} (h : VRel μ x y) : LRel μ x.cells.toList y.cells.toList := by
  cases h with
  | agg hs h => exact ⟨by simpa [Value.cells] using hs, fun i a b ha hb => h i a b (by simpa [Value.cells] using ha) (by simpa [Value.cells] using hb)⟩
  | flat h =>
    cases x <;> first | exact LRel.cons (.flat h) (LRel.nil μ) | (simp [Abs.flat] at h)
  | ptr h => exact LRel.cons (.ptr h) (LRel.nil μ)
  | slice h => exact LRel.cons (.slice h) (LRel.nil μ)
  | hid h a b c d e => exact LRel.cons (.hid h a b c d e) (LRel.nil μ)
  | hemp h => exact LRel.cons (.hemp h) (LRel.nil μ)
  | zer => exact LRel.cons .zer (LRel.nil μ)
  | tuple a b => exact LRel.cons (.tuple a b) (LRel.nil μ)
  | func a b c d => exact LRel.cons (.func a b c d) (LRel.nil μ)
  | iface a => exact LRel.cons (.iface a) (LRel.nil μ)

theorem VRel.oneCell {μ : Mu} {x y : Value} (h : VRel μ x y) : y.oneCell' = x.oneCell' := by
  cases h <;> simp [Value.oneCell']
theorem LRel.oneCells {μ : Mu} {xs ys : List Value} (h : LRel μ xs ys) (ho : oneCells xs = true) : ∀ u ∈ ys, u.oneCell' = true := by
  intro u hu
  obtain ⟨i, hi⟩ := List.getElem?_of_mem hu
  have hl : i < xs.length := by rw [h.1]; exact (List.getElem?_eq_some_iff.1 hi).1
  have hx : xs[i]? = some xs[i] := List.getElem?_eq_getElem hl
  have := h.2 i _ _ hx hi
  rw [this.oneCell]
  exact List.all_eq_true.1 ho _ (List.getElem_mem hl)

/-- Cells of old memory: those that are no holes are related. -/
def CRel (μ : Mu) (xs ys : List Value) : Prop := xs.length = ys.length ∧ ∀ (i : Nat) (x y : Value), xs[i]? = some x → ys[i]? = some y → isHole x = false → VRel μ x y
theorem LRel.toC {μ : Mu} {a b : List Value} (h : LRel μ a b) : CRel μ a b := ⟨h.1, fun i x y hx hy _ => h.2 i x y hx hy⟩
theorem CRel.mono {μ μ' : Mu} {v v' : List Value} (h : CRel μ v v') (hm : ∀ b L, μ b = some L → μ' b = some L) : CRel μ' v v' :=
  ⟨h.1, fun i x y hx hy hh => (h.2 i x y hx hy hh).mono hm⟩
theorem CRel.get {μ : Mu} {xs ys : List Value} (h : CRel μ xs ys) {i : Nat} {x : Value} (hx : xs[i]? = some x) (hh : isHole x = false) : ∃ y, ys[i]? = some y ∧ VRel μ x y := by
  have hi : i < ys.length := by rw [← h.1]; exact (List.getElem?_eq_some_iff.1 hx).1
  exact ⟨ys[i], List.getElem?_eq_getElem hi, h.2 i x _ hx (List.getElem?_eq_getElem hi) hh⟩
theorem CRel.take {μ : Mu} {a b : List Value} (h : CRel μ a b) (n : Nat) : CRel μ (a.take n) (b.take n) := by
  refine ⟨by simp [h.1], fun i x y hx hy => ?_⟩
  rw [List.getElem?_take] at hx hy
  split at hx
  · rename_i hi; rw [if_pos hi] at hy; exact h.2 i x y hx hy
  · cases hx
theorem CRel.drop {μ : Mu} {a b : List Value} (h : CRel μ a b) (n : Nat) : CRel μ (a.drop n) (b.drop n) := by
  refine ⟨by simp [h.1], fun i x y hx hy => ?_⟩
  rw [List.getElem?_drop] at hx hy
  exact h.2 _ x y hx hy
theorem CRel.full {μ : Mu} {a b : List Value} (h : CRel μ a b) (hn : noHoles a = true) : LRel μ a b :=
  ⟨h.1, fun i x y hx hy => h.2 i x y hx hy (by
    have := List.all_eq_true.1 hn x (List.mem_of_getElem? hx)
    simpa using this)⟩

/-- A concrete block holds an abstract one's cells. -/
def Holds (μ : Mu) (w : World) (n0 : Nat) (b : Nat) (k : Blk) : Prop :=
  ∃ L arr T fr, μ b = some L ∧ L.len = k.length ∧ w.heap[L.blk]? = some (.cells arr T fr) ∧ arr.size = L.ext ∧ L.off + L.len ≤ L.ext ∧
    (fr.1 = fr.2 ∨ arr.size ≤ fr.1) ∧ n0 ≤ L.blk ∧ LRel μ k ((arr.toList.drop L.off).take L.len)

structure Sim (μ : Mu) (h : Heap) (w : World) : Prop where
  old : ∀ b cs, b < h.n0 → h.old b = some cs → ∃ L arr T fr, μ b = some L ∧ L.blk = b ∧ L.off = 0 ∧ w.heap[b]? = some (.cells arr T fr) ∧ CRel μ cs (arr.toList.take cs.length)
  new : ∀ b k, h.n0 ≤ b → h.get b = some k → Holds μ w h.n0 b k
  inj : ∀ b b' k k' L L', h.n0 ≤ b → h.n0 ≤ b' → b ≠ b' → h.get b = some k → h.get b' = some k' → μ b = some L → μ b' = some L' → L.blk ≠ L'.blk
  size : h.n0 ≤ w.heap.size
  low : ∀ b, b < h.n0 → ∃ L, μ b = some L ∧ L.blk = b ∧ L.off = 0

/-- The concrete block belongs to a living block of the call's own. -/
def Own (μ : Mu) (h : Heap) (B : Nat) : Prop := ∃ b k L, h.n0 ≤ b ∧ h.get b = some k ∧ μ b = some L ∧ L.blk = B

structure Step (μ : Mu) (h : Heap) (w : World) (μ' : Mu) (h' : Heap) (w' : World) : Prop where
  ext : ∀ b, b < h.next ∨ h'.next ≤ b → μ' b = μ b
  n0 : h'.n0 = h.n0
  old : h'.old = h.old
  next : h.next ≤ h'.next
  os : w'.os = w.os
  tape : w'.tape = w.tape
  output : w'.output = w.output
  size : w.heap.size ≤ w'.heap.size
  same : ∀ B, B < w.heap.size → ¬ Own μ h B → w'.heap[B]? = w.heap[B]?
  own : ∀ B, Own μ' h' B → Own μ h B ∨ w.heap.size ≤ B

/-- The numbers that a run will give are not given yet. -/
def Free (μ : Mu) (h h' : Heap) : Prop := ∀ b, h.next ≤ b → b < h'.next → μ b = none

theorem Step.refl {μ : Mu} {h : Heap} {w w' : World} (ho : w'.os = w.os) (ht : w'.tape = w.tape) (hp : w'.output = w.output) (hh : w'.heap = w.heap) : Step μ h w μ h w' :=
  ⟨fun _ _ => rfl, rfl, rfl, Nat.le_refl _, ho, ht, hp, by rw [hh]; exact Nat.le_refl _, fun B _ _ => by rw [hh], fun B hB => .inl hB⟩
theorem Step.same_world {μ : Mu} {h : Heap} {w : World} : Step μ h w μ h w := Step.refl rfl rfl rfl rfl

theorem Step.trans {μ μ' μ'' : Mu} {h h' h'' : Heap} {w w' w'' : World} (a : Step μ h w μ' h' w') (b : Step μ' h' w' μ'' h'' w'') : Step μ h w μ'' h'' w'' where
  ext c hc := by
    have h1 := a.next
    have h2 := b.next
    rw [b.ext c (by omega), a.ext c (by omega)]
  n0 := b.n0.trans a.n0
  old := b.old.trans a.old
  next := Nat.le_trans a.next b.next
  os := b.os.trans a.os
  tape := b.tape.trans a.tape
  output := b.output.trans a.output
  size := Nat.le_trans a.size b.size
  same B hB hO := by
    rw [b.same B (Nat.lt_of_lt_of_le hB a.size) (fun h1 => (a.own B h1).elim hO (fun h2 => by omega))]
    exact a.same B hB hO
  own B hB := (b.own B hB).elim (fun h1 => a.own B h1) (fun h1 => .inr (Nat.le_trans a.size h1))

theorem Step.mono {μ μ' : Mu} {h h' : Heap} {w w' : World} (s : Step μ h w μ' h' w') (hf : Free μ h h') : ∀ b L, μ b = some L → μ' b = some L := by
  intro b L hb
  by_cases hl : b < h.next ∨ h'.next ≤ b
  · rw [s.ext b hl]; exact hb
  · rw [hf b (by omega) (by omega)] at hb; cases hb

theorem Free.first {μ : Mu} {h h' h'' : Heap} (hf : Free μ h h'') (hn : h'.next ≤ h''.next) : Free μ h h' := fun b h1 h2 => hf b h1 (Nat.lt_of_lt_of_le h2 hn)
theorem Free.second {μ μ' : Mu} {h h' h'' : Heap} {w w' : World} (hf : Free μ h h'') (s : Step μ h w μ' h' w') : Free μ' h' h'' := fun b h1 h2 => by
  rw [s.ext b (.inr h1)]; exact hf b (Nat.le_trans s.next h1) h2

theorem Sim.read {μ : Mu} {h : Heap} {w : World} (s : Sim μ h w) {b : Nat} {k : Blk} (hg : h.get b = some k) :
    ∃ L arr T fr, μ b = some L ∧ w.heap[L.blk]? = some (.cells arr T fr) ∧ CRel μ k ((arr.toList.drop L.off).take k.length) := by
  by_cases hb : b < h.n0
  · have hg' := hg
    unfold Heap.get at hg'
    rw [if_pos hb] at hg'
    cases ho : h.old b with
    | none => rw [ho] at hg'; cases hg'
    | some cs =>
      rw [ho] at hg'
      simp only [Option.some.injEq] at hg'
      subst hg'
      obtain ⟨L, arr, T, fr, h1, h2, h3, h4, h5⟩ := s.old b cs hb ho
      exact ⟨L, arr, T, fr, h1, h2.symm ▸ h4, by rw [h3]; exact h5⟩
  · obtain ⟨L, arr, T, fr, h1, h2, h4, h5, h6, h7, h8, h9⟩ := s.new b k (by omega) hg
    exact ⟨L, arr, T, fr, h1, h4, (h2 ▸ h9 : LRel μ k _).toC⟩

end Go.Abs

namespace Go.Abs

theorem cell_at {w : World} {B : Nat} {arr : Array Value} {T : TypeId} {fr : Nat × Nat} (hg : w.heap[B]? = some (.cells arr T fr)) (j : Nat) : w.cell? ⟨B, j, none⟩ = arr[j]? :=
  cell_of_row w B j arr T fr hg

theorem Sim.loadCells {μ : Mu} {h : Heap} {w : World} (s : Sim μ h w) {b off n : Nat} {k : Blk} (hg : h.get b = some k) (hn : off + n ≤ k.length) (hnh : noHoles ((k.drop off).take n) = true) (P : Program) :
    ∃ L cs, μ b = some L ∧ LRel μ ((k.drop off).take n) cs ∧ ∀ w', w'.heap = w.heap → (Go.loadCells ⟨L.blk, L.off + off, none⟩ n).run P w' = .ok cs.toArray w' := by
  obtain ⟨L, arr, T, fr, h1, h2, h3⟩ := s.read hg
  refine ⟨L, (arr.toList.drop (L.off + off)).take n, h1, ?_, ?_⟩
  · have := (h3.drop off).take n
    rw [List.drop_take, List.drop_drop, List.take_take] at this
    rw [show min n (k.length - off) = n from by omega] at this
    exact this.full hnh
  · intro w' hw'
    rw [← hw'] at h2
    have hl : ((arr.toList.drop (L.off + off)).take n).length = n := by
      have := h3.1
      simp only [List.length_take, List.length_drop, Array.length_toList] at this ⊢
      omega
    have := run_loadCells_list (P := P) w' ⟨L.blk, L.off + off, none⟩ ((arr.toList.drop (L.off + off)).take n) (fun j v hv => by
      rw [Addr.add_lit, cell_at h2]
      rw [List.getElem?_take] at hv
      split at hv
      · rw [List.getElem?_drop] at hv; simpa using hv
      · cases hv)
    rw [hl] at this
    exact this

theorem Sim.cell {μ : Mu} {h : Heap} {w : World} (s : Sim μ h w) {b off : Nat} {k : Blk} {c : Value} (hg : h.get b = some k) (hc : k[off]? = some c) (hnh : isHole c = false) :
    ∃ L c', μ b = some L ∧ w.cell? ⟨L.blk, L.off + off, none⟩ = some c' ∧ VRel μ c c' := by
  obtain ⟨L, arr, T, fr, h1, h2, h3⟩ := s.read hg
  obtain ⟨c', hc', hv⟩ := h3.get hc hnh
  refine ⟨L, c', h1, ?_, hv⟩
  rw [cell_at h2]
  rw [List.getElem?_take] at hc'
  split at hc'
  · rw [List.getElem?_drop] at hc'; simpa using hc'
  · cases hc'

theorem run_storeCells_any (P : Program) (g o : Nat) (t : TypeId) (fr : Nat × Nat) : ∀ (vs : List Value) (i : Nat) (cur : Array Value) (w : World), w.heap[g]? = some (.cells cur t fr) → (fr.1 = fr.2 ∨ cur.size ≤ fr.1) →
    o + i + vs.length ≤ cur.size → (∀ v ∈ vs, v.oneCell' = true) →
    (storeCells ⟨g, o, none⟩ vs i).run P w = .ok () (w.setRow g (splice cur.toList (o + i) vs).toArray)
  | [], i, cur, w, hg, _, _, _ => by
    simp only [storeCells, splice, List.append_nil, List.length_nil, Nat.add_zero, List.take_append_drop, Array.toArray_toList]
    rw [setRow_self w g cur t fr hg]
    rfl
  | v :: rest, i, cur, w, hg, hfr, hl, h1 => by
    have hi : o + i < cur.size := by simp at hl; omega
    have hcell : w.cell? ⟨g, o + i, none⟩ = some cur[o + i] := by simp [World.cell?, hg, hi]
    have hfro : w.frozen? ⟨g, o + i, none⟩ = false := by
      simp only [World.frozen?, hg]
      simp only [Bool.and_eq_false_iff, decide_eq_false_iff_not]
      omega
    have hst : (store ((⟨g, o, none⟩ : Addr).add i) v).run P w = .ok () (w.setRow g (cur.setIfInBounds (o + i) v)) := by
      rw [Addr.add_lit, run_store P w _ v _ (h1 v (by simp)), hcell]
      simp [hfro, setCell_eq_setRow w g (o + i) cur t fr v hg]
    have ih := run_storeCells_any P g o t fr rest (i + 1) (cur.setIfInBounds (o + i) v) (w.setRow g (cur.setIfInBounds (o + i) v)) (setRow_heap w g cur _ t _ hg) (by simpa using hfr) (by simp at hl ⊢; omega) (fun x hx => h1 x (by simp [hx]))
    simp only [storeCells, Sem.run_bind, hst, Result.andThen_ok, ih, setRow_setRow]
    congr 3
    have e := list_seg_step cur.toList (o + i) v rest (by simp at hl ⊢; omega)
    simpa [splice, Array.toList_setIfInBounds, Nat.add_assoc] using e

theorem length_splice {l xs : List Value} {off : Nat} (h : off + xs.length ≤ l.length) : (splice l off xs).length = l.length := by
  simp only [splice, List.length_append, List.length_take, List.length_drop]; omega

/-- A segment of a list written at its place within a larger one. -/
theorem splice_seg {l xs : List Value} {o off n : Nat} (h : off + xs.length ≤ n) (hl : o + n ≤ l.length) :
    ((splice l (o + off) xs).drop o).take n = splice ((l.drop o).take n) off xs := by
  unfold splice
  have e1 : (l.take (o + off)).drop o = (l.drop o).take off := by rw [List.drop_take]; congr 1; omega
  have e2 : List.drop o (l.take (o + off) ++ xs ++ l.drop (o + off + xs.length)) = (l.drop o).take off ++ xs ++ l.drop (o + off + xs.length) := by
    rw [List.append_assoc, List.drop_append_of_le_length (by simp; omega), e1, List.append_assoc]
  rw [e2, List.take_take, show min off n = off from by omega]
  have e3 : ((l.drop o).take off ++ xs).length = off + xs.length := by simp; omega
  rw [List.take_append, List.take_of_length_le (by omega), e3]
  congr 1
  rw [List.drop_take, List.drop_drop, show o + (off + xs.length) = o + off + xs.length from by omega]

/-- What is written into a block of one's own. -/
theorem Sim.storeCells {μ : Mu} {h : Heap} {w : World} (s : Sim μ h w) {b off : Nat} {k : Blk} {xs ys : List Value} (hb : h.n0 ≤ b) (hg : h.get b = some k) (hn : off + xs.length ≤ k.length)
    (hx : LRel μ xs ys) (ho : oneCells xs = true) (P : Program) :
    ∃ L w', μ b = some L ∧ (Go.storeCells ⟨L.blk, L.off + off, none⟩ ys).run P w = .ok () w' ∧ Sim μ (h.set b (splice k off xs)) w' ∧ Step μ h w μ (h.set b (splice k off xs)) w' := by
  obtain ⟨L, arr, T, fr, h1, h2, h4, h5, h6, h7, h8, h9⟩ := s.new b k hb hg
  have hlt := h.lt_of_get hg
  have hys : ys.length = xs.length := hx.1.symm
  refine ⟨L, w.setRow L.blk (splice arr.toList (L.off + off) ys).toArray, h1, ?_, ?_, ?_⟩
  · have := run_storeCells_any P L.blk (L.off + off) T fr ys 0 arr w h4 h7 (by rw [hys]; omega) (hx.oneCells ho)
    simpa using this
  · have hB : (w.setRow L.blk (splice arr.toList (L.off + off) ys).toArray).heap[L.blk]? = some (.cells (splice arr.toList (L.off + off) ys).toArray T fr) := setRow_heap w L.blk arr _ T fr h4
    have hsz : ((splice arr.toList (L.off + off) ys).toArray).size = arr.size := by
      have hal : arr.toList.length = arr.size := Array.length_toList
      rw [List.size_toArray, length_splice (by omega), hal]
    constructor
    · intro c cs hc hcs
      obtain ⟨L', arr', T', fr', g1, g2, g3, g4, g5⟩ := s.old c cs (by simpa using hc) hcs
      refine ⟨L', arr', T', fr', g1, g2, g3, ?_, g5⟩
      rw [setRow_other _ _ _ _ (by simp at hc; omega)]; exact g4
    · intro c kc hc hgc
      simp only [Heap.n0_set] at hc ⊢
      by_cases e : c = b
      · subst e
        rw [Heap.get_set_same hb hg] at hgc
        cases hgc
        refine ⟨L, _, T, fr, h1, ?_, hB, hsz.trans h5, h6, ?_, h8, ?_⟩
        · rw [length_splice hn]; exact h2
        · rcases h7 with h7 | h7
          · exact .inl h7
          · exact .inr (hsz ▸ h7)
        · rw [splice_seg (by omega) (by have hal : arr.toList.length = arr.size := Array.length_toList; omega)]
          exact h9.splice hx off
      · rw [Heap.get_set_other hb hlt _ e] at hgc
        obtain ⟨L', arr', T', fr', g1, g2, g4, g5⟩ := s.new c kc hc hgc
        refine ⟨L', arr', T', fr', g1, g2, ?_, g5⟩
        rw [setRow_other _ _ _ _ (s.inj c b kc k L' L hc hb e hgc hg g1 h1)]; exact g4
    · intro c c' kc kc' Lc Lc' hc hc' hne hgc hgc' hm hm'
      simp only [Heap.n0_set] at hc hc'
      have fix : ∀ d kd, (h.set b (splice k off xs)).get d = some kd → ∃ kd', h.get d = some kd' := by
        intro d kd hd
        by_cases e : d = b
        · subst e; exact ⟨k, hg⟩
        · rw [Heap.get_set_other hb hlt _ e] at hd; exact ⟨kd, hd⟩
      obtain ⟨k1, g1⟩ := fix c kc hgc
      obtain ⟨k2, g2⟩ := fix c' kc' hgc'
      exact s.inj c c' k1 k2 Lc Lc' hc hc' hne g1 g2 hm hm'
    · simpa [World.setRow] using s.size
    · exact s.low
  · refine ⟨fun _ _ => rfl, rfl, rfl, Nat.le_refl _, rfl, rfl, rfl, by simp [World.setRow], ?_, ?_⟩
    · intro B hB hO
      exact setRow_other _ _ _ _ (fun e => hO ⟨b, k, L, hb, hg, h1, e.symm⟩)
    · rintro B ⟨c, kc, Lc, hc, hgc, hm, rfl⟩
      refine .inl ?_
      simp only [Heap.n0_set] at hc
      by_cases e : c = b
      · subst e; exact ⟨c, k, Lc, hc, hg, hm, rfl⟩
      · rw [Heap.get_set_other hb hlt _ e] at hgc; exact ⟨c, kc, Lc, hc, hgc, hm, rfl⟩

def Mu.put (μ : Mu) (b : Nat) (L : Loc) : Mu := fun c => if c = b then some L else μ c
theorem Mu.put_same (μ : Mu) (b : Nat) (L : Loc) : μ.put b L b = some L := by simp [Mu.put]
theorem Mu.put_other (μ : Mu) {b c : Nat} (L : Loc) (h : c ≠ b) : μ.put b L c = μ c := by simp [Mu.put, h]
theorem Mu.put_mono {μ : Mu} {b : Nat} {L : Loc} (h : μ b = none) : ∀ c M, μ c = some M → μ.put b L c = some M := by
  intro c M hc
  rw [Mu.put_other _ _ (by rintro rfl; rw [h] at hc; cases hc)]; exact hc

/-- A new concrete block, of which an abstract new block is the head. -/
theorem Sim.alloc {μ : Mu} {h : Heap} {w : World} (s : Sim μ h w) {k : Blk} (hf : Free μ h (h.alloc k)) {arr : Array Value} {T : TypeId} {fr : Nat × Nat} (hfr : fr.1 = fr.2 ∨ arr.size ≤ fr.1)
    (hl : k.length ≤ arr.size) (hx : LRel μ k (arr.toList.take k.length)) {w1 : World} (ho : w1.os = w.os) (ht : w1.tape = w.tape) (hp : w1.output = w.output)
    (hw : w1.heap = w.heap.push (.cells arr T fr)) :
    Sim (μ.put h.next ⟨w.heap.size, 0, arr.size, k.length⟩) (h.alloc k) w1 ∧ Step μ h w (μ.put h.next ⟨w.heap.size, 0, arr.size, k.length⟩) (h.alloc k) w1 := by
  have hnone : μ h.next = none := hf _ (Nat.le_refl _) (by simp)
  have hm := Mu.put_mono (L := ⟨w.heap.size, 0, arr.size, k.length⟩) hnone
  have hold : ∀ B, B < w.heap.size → w1.heap[B]? = w.heap[B]? := fun B hB => by rw [hw, Array.getElem?_push, if_neg (by omega)]
  have hnew : w1.heap[w.heap.size]? = some (.cells arr T fr) := by rw [hw]; simp
  have blt : ∀ (B : Nat) (o : Obj), w.heap[B]? = some o → B < w.heap.size := fun B o hB => (Array.getElem?_eq_some_iff.1 hB).1
  have hn0 := h.n0_le_next
  refine ⟨⟨?_, ?_, ?_, ?_, fun b hb => let ⟨L, h1, h2⟩ := s.low b hb; ⟨L, hm _ _ h1, h2⟩⟩, ⟨?_, rfl, rfl, by simp, ho, ht, hp, by rw [hw]; simp, fun B hB _ => hold B hB, ?_⟩⟩
  · intro b cs hb hcs
    obtain ⟨L, a, T', f', g1, g2, g3, g4, g5⟩ := s.old b cs hb hcs
    exact ⟨L, a, T', f', hm _ _ g1, g2, g3, by rw [hold _ (blt _ _ g4)]; exact g4, g5.mono hm⟩
  · intro b kb hb hg
    rw [h.get_alloc] at hg
    by_cases e : b = h.next
    · subst e
      rw [if_pos rfl] at hg
      cases hg
      refine ⟨_, arr, T, fr, Mu.put_same _ _ _, rfl, hnew, rfl, by simpa using hl, hfr, by simpa using s.size, ?_⟩
      simpa using hx.mono hm
    · rw [if_neg e] at hg
      obtain ⟨L, a, T', f', g1, g2, g4, g5, g6, g7, g8, g9⟩ := s.new b kb hb hg
      exact ⟨L, a, T', f', hm _ _ g1, g2, by rw [hold _ (blt _ _ g4)]; exact g4, g5, g6, g7, g8, g9.mono hm⟩
  · intro b b' kb kb' L L' hb hb' hne hg hg' h1 h2
    rw [h.get_alloc] at hg hg'
    by_cases e : b = h.next
    · subst e
      rw [Mu.put_same] at h1
      cases h1
      rw [if_neg (Ne.symm hne)] at hg'
      rw [Mu.put_other _ _ (Ne.symm hne)] at h2
      obtain ⟨L2, a, T', f', g1, g2, g4, _⟩ := s.new b' kb' hb' hg'
      rw [g1] at h2; cases h2
      have := blt _ _ g4
      simp only [ne_eq]; omega
    · rw [if_neg e] at hg
      rw [Mu.put_other _ _ e] at h1
      by_cases e' : b' = h.next
      · subst e'
        rw [Mu.put_same] at h2
        cases h2
        obtain ⟨L2, a, T', f', g1, g2, g4, _⟩ := s.new b kb hb hg
        rw [g1] at h1; cases h1
        have := blt _ _ g4
        simp only [ne_eq]; omega
      · rw [if_neg e'] at hg'
        rw [Mu.put_other _ _ e'] at h2
        exact s.inj b b' kb kb' L L' hb hb' hne hg hg' h1 h2
  · rw [hw]; have := s.size; simp; omega
  · intro b hb
    rw [Mu.put_other _ _ (by simp at hb; omega)]
  · rintro B ⟨b, kb, L, hb, hg, h1, rfl⟩
    rw [h.get_alloc] at hg
    by_cases e : b = h.next
    · subst e; rw [Mu.put_same] at h1; cases h1; exact .inr (Nat.le_refl _)
    · rw [if_neg e] at hg; rw [Mu.put_other _ _ e] at h1; exact .inl ⟨b, kb, L, hb, hg, h1, rfl⟩

/-- A world that differs in its draws alone. -/
theorem Sim.world {μ : Mu} {h : Heap} {w w' : World} (s : Sim μ h w) (hh : w'.heap = w.heap) : Sim μ h w' :=
  ⟨fun b cs hb hc => by rw [hh]; exact s.old b cs hb hc, fun b k hb hg => by unfold Holds; rw [hh]; exact s.new b k hb hg, s.inj, by rw [hh]; exact s.size, s.low⟩

/-- A block is forgotten. -/
theorem Sim.kill {μ : Mu} {h : Heap} {w : World} (s : Sim μ h w) {b : Nat} (hb : h.n0 ≤ b) (hn : b < h.next) : Sim μ (h.kill b) w ∧ Step μ h w μ (h.kill b) w := by
  have hget : ∀ c k, (h.kill b).get c = some k → h.get c = some k := fun c k hc => by
    unfold Heap.kill at hc
    rw [h.get_put hb hn] at hc
    split at hc
    · cases hc
    · exact hc
  refine ⟨⟨s.old, fun c k hc hg => s.new c k hc (hget _ _ hg), fun c c' k k' L L' h1 h2 h3 h4 h5 => s.inj c c' k k' L L' h1 h2 h3 (hget _ _ h4) (hget _ _ h5), s.size, s.low⟩, ?_⟩
  refine ⟨fun _ _ => rfl, rfl, rfl, Nat.le_refl _, rfl, rfl, rfl, Nat.le_refl _, fun _ _ _ => rfl, ?_⟩
  rintro B ⟨c, k, L, h1, h2, h3, h4⟩
  exact .inl ⟨c, k, L, h1, hget _ _ h2, h3, h4⟩

end Go.Abs

namespace Go.Abs

section types
variable {P : Program} {t : TypeId} (w : World)
theorem info_of_sizeT {n : Nat} (h : sizeT P t = some n) : ∃ i, P.info? t = some i ∧ i.size = n := by
  unfold sizeT at h
  cases hi : P.info? t with
  | none => rw [hi] at h; cases h
  | some i => rw [hi] at h; exact ⟨i, rfl, by simpa using h⟩
theorem run_typeInfo {i : TypeInfo} (h : P.info? t = some i) : (typeInfo t).run P w = .ok i w := by simp [typeInfo, h]
theorem run_sizeT {n : Nat} (h : sizeT P t = some n) : (sizeOf t).run P w = .ok n w := by
  obtain ⟨i, hi, rfl⟩ := info_of_sizeT h
  simp [sizeOf, run_typeInfo w hi]
theorem run_zeroT {z : Value} (h : zeroT P t = some z) : (zeroValue t).run P w = .ok z w := by
  unfold zeroT at h
  cases hi : P.info? t with
  | none => rw [hi] at h; cases h
  | some i =>
    rw [hi] at h
    simp only [Option.bind_some] at h
    simp [zeroValue, run_typeInfo w hi, h]
theorem run_aggT {b : Bool} (h : aggT P t = some b) : (isAgg t).run P w = .ok b w := by
  unfold aggT at h
  cases hu : P.underlying t with
  | none => rw [hu] at h; cases h
  | some d =>
    rw [hu] at h
    unfold isAgg
    rw [Sem.run_bind, run_underlying hu]
    cases d <;> simp at h <;> subst h <;> rfl
end types

section ops
variable {P : Program} {μ : Mu} {h : Heap} {w : World}

theorem addrOf_rel {b off : Nat} {v : Value} (hv : VRel μ (.pointer (some ⟨b, off, none⟩)) v) : ∃ L, μ b = some L ∧ v = .pointer (some ⟨L.blk, L.off + off, none⟩) := by
  cases hv with
  | flat h => simp [flat] at h
  | ptr h => exact ⟨_, h, rfl⟩

theorem ld_sound {t : TypeId} {v v' r : Value} {h' : Heap} (s : Sim μ h w) (hv : VRel μ v v') (e : ld P t v h = some (r, h')) :
    h' = h ∧ ∃ r', (Instr.loadAt t v').run P w = .ok r' w ∧ VRel μ r r' := by
  unfold ld at e
  cases ha : aggT P t with
  | none => rw [ha] at e; cases e
  | some ag =>
    cases hs : sizeT P t with
    | none => rw [ha, hs] at e; cases ag <;> cases e
    | some n =>
      rw [ha, hs] at e
      cases ag with
      | true =>
        simp only at e
        unfold ldN at e
        split at e
        · rename_i b off
          obtain ⟨L, hL, rfl⟩ := addrOf_rel hv
          split at e
          · rename_i k hk
            split at e
            · rename_i hle
              simp only [Option.some.injEq, Prod.mk.injEq] at e
              obtain ⟨rfl, rfl⟩ := e
              obtain ⟨L', cs, hL', hr, hrun⟩ := s.loadCells hk hle.1 hle.2 P
              rw [hL] at hL'; cases hL'
              refine ⟨rfl, .agg cs.toArray, ?_, .of_list_agg hr⟩
              simp [Instr.loadAt, Instr.sureAddr, loadVar, run_aggT w ha, run_sizeT w hs, hrun w rfl]
            · cases e
          · cases e
        · cases e
      | false =>
        simp only at e
        unfold ld1 at e
        split at e
        · rename_i b off
          obtain ⟨L, hL, rfl⟩ := addrOf_rel hv
          split at e
          · rename_i k hk
            split at e
            · rename_i c hc
              split at e
              · rename_i hnh
                simp only [Option.some.injEq, Prod.mk.injEq] at e
                obtain ⟨rfl, rfl⟩ := e
                obtain ⟨L', c', hL', hr, hv'⟩ := s.cell hk hc hnh
                rw [hL] at hL'; cases hL'
                refine ⟨rfl, c', ?_, hv'⟩
                simp [Instr.loadAt, Instr.sureAddr, loadVar, run_aggT w ha, hr]
              · cases e
            · cases e
          · cases e
        · cases e

theorem stL_sound {b off : Nat} {xs ys : List Value} {h' : Heap} (s : Sim μ h w) (hx : LRel μ xs ys) (e : stL b off xs h = some h') :
    ∃ L w', μ b = some L ∧ (Go.storeCells ⟨L.blk, L.off + off, none⟩ ys).run P w = .ok () w' ∧ Sim μ h' w' ∧ Step μ h w μ h' w' := by
  unfold stL at e
  split at e
  · rename_i k hk
    split at e
    · rename_i hc
      simp only [Bool.and_eq_true, decide_eq_true_eq] at hc
      simp only [Option.some.injEq] at e
      subst e
      exact s.storeCells hc.1.1 hk hc.1.2 hx hc.2 P
    · cases e
  · cases e

theorem st_sound {t : TypeId} {v v' x x' r : Value} {h' : Heap} (s : Sim μ h w) (hv : VRel μ v v') (hx : VRel μ x x') (e : st P t v x h = some (r, h')) :
    r = undef ∧ ∃ w', (Instr.storeAt t v' x').run P w = .ok () w' ∧ Sim μ h' w' ∧ Step μ h w μ h' w' := by
  unfold st at e
  cases hs : sizeT P t with
  | none => rw [hs] at e; cases e
  | some n =>
    rw [hs] at e
    simp only at e
    unfold stN at e
    split at e
    · rename_i b off
      obtain ⟨L, hL, rfl⟩ := addrOf_rel hv
      split at e
      · rename_i hsz
        simp only [Option.map_eq_some_iff, Prod.mk.injEq] at e
        obtain ⟨h1, he, rfl, rfl⟩ := e
        obtain ⟨L', w', hL', hrun, hS, hSt⟩ := stL_sound (P := P) s hx.cells he
        rw [hL] at hL'; cases hL'
        refine ⟨rfl, w', ?_, hS, hSt⟩
        have hsz' : x'.cells.size = n := by
          have := hx.cells.1
          simp only [Array.length_toList] at this
          omega
        simp [Instr.storeAt, Instr.sureAddr, storeVar, run_sizeT w hs, hsz', hrun]
      · cases e
    · cases e

/-- What a new row of cells gives. -/
theorem newRow_sound {xs ys : List Value} (s : Sim μ h w) (hf : Free μ h (h.alloc xs)) (hx : LRel μ xs ys) (T : TypeId) :
    ∃ μ' w', (Go.newRow T ys.toArray).run P w = .ok ⟨w.heap.size, 0, none⟩ w' ∧ Sim μ' (h.alloc xs) w' ∧ Step μ h w μ' (h.alloc xs) w' ∧
      ∃ L, μ' h.next = some L ∧ L.blk = w.heap.size ∧ L.off = 0 ∧ L.ext = ys.length ∧ L.len = xs.length := by
  obtain ⟨h1, h2⟩ := s.alloc (k := xs) hf (arr := ys.toArray) (T := T) (fr := (0, 0)) (.inl rfl) (by simp [hx.1]) (by simpa [hx.1] using hx) (w1 := { w with heap := w.heap.push (.cells ys.toArray T (0, 0)) }) rfl rfl rfl rfl
  refine ⟨_, _, ?_, h1, h2, _, Mu.put_same _ _ _, rfl, rfl, by simp, rfl⟩
  simp [Go.newRow]

theorem zero_sound {t : TypeId} {r old : Value} {h' : Heap} (s : Sim μ h w) (hf : Free μ h h') (e : zero P t h = some (r, h')) :
    ∃ μ' r' w', (Instr.alloc t true old).run P w = .ok r' w' ∧ Sim μ' h' w' ∧ Step μ h w μ' h' w' ∧ VRel μ' r r' := by
  unfold zero at e
  cases hz : zeroT P t with
  | none => rw [hz] at e; cases e
  | some z =>
    rw [hz] at e
    simp only at e
    split at e
    · rename_i hfl
      simp only [Abs.newRow, Option.some.injEq, Prod.mk.injEq] at e
      obtain ⟨rfl, rfl⟩ := e
      obtain ⟨μ', w', hrun, hS, hSt, L, hL, hB, hO, _⟩ := newRow_sound (P := P) s hf (LRel.of_flat hfl) t
      refine ⟨μ', .pointer (some ⟨w.heap.size, 0, none⟩), w', ?_, hS, hSt, ?_⟩
      · simp only [Array.toArray_toList] at hrun
        simp [Instr.alloc, run_zeroT w hz, newVar, hrun]
      · have := VRel.ptr (off := 0) hL
        rw [hB, hO] at this
        exact this
    · cases e

theorem box_sound {t : TypeId} {x x' r : Value} {h' : Heap} (s : Sim μ h w) (hf : Free μ h h') (hx : VRel μ x x') (e : box x h = some (r, h')) :
    ∃ μ' r' w', (Instr.box t x').run P w = .ok r' w' ∧ Sim μ' h' w' ∧ Step μ h w μ' h' w' ∧ VRel μ' r r' := by
  unfold box at e
  split at e
  · simp only [Abs.newRow, Option.some.injEq, Prod.mk.injEq] at e
    obtain ⟨rfl, rfl⟩ := e
    obtain ⟨μ', w', hrun, hS, hSt, L, hL, hB, hO, _⟩ := newRow_sound (P := P) s hf hx.cells t
    refine ⟨μ', .pointer (some ⟨w.heap.size, 0, none⟩), w', ?_, hS, hSt, ?_⟩
    · simp only [Array.toArray_toList] at hrun
      simp [Instr.box, newVar, hrun]
    · have := VRel.ptr (off := 0) hL
      rw [hB, hO] at this
      exact this
  · cases e

/-- Cells laid one behind the other into an array. -/
theorem foldl_set (off : Nat) : ∀ (l : List Value) (k : Nat) (cs : Array Value), off + k + l.length ≤ cs.size →
    (l.zipIdx k).foldl (fun (cs : Array Value) (x : Value × Nat) => cs.setIfInBounds (off + x.2) x.1) cs = (splice cs.toList (off + k) l).toArray
  | [], k, cs, _ => by simp [splice]
  | v :: l, k, cs, h => by
    simp only [List.zipIdx_cons, List.foldl_cons]
    rw [foldl_set off l (k + 1) _ (by simp at h ⊢; omega)]
    have hal : cs.toList.length = cs.size := Array.length_toList
    have := list_seg_step cs.toList (off + k) v l (by simp at h; omega)
    simp only [splice, Array.toList_setIfInBounds, List.length_cons]
    rw [← this]
    simp [Nat.add_assoc]

theorem fill_one (off : Nat) (v : Value) (cs : List Value) (h : off + v.cells.size ≤ cs.length) :
    v.cells.zipIdx.foldl (fun (cs : Array Value) (x : Value × Nat) => cs.setIfInBounds (off + x.2) x.1) cs.toArray = (splice cs off v.cells.toList).toArray := by
  have := foldl_set off v.cells.toList 0 cs.toArray (by simpa using h)
  simp only [Nat.add_zero] at this
  rw [← this, ← Array.foldl_toList]
  simp

/-- Parts and their places, on both sides. -/
inductive Parts (μ : Mu) (pl : Nat → Option (Nat × Nat)) : List (Nat × Nat × Value) → List (Nat × Value) → Prop
  | nil : Parts μ pl [] []
  | cons {i off n : Nat} {x y : Value} {ts cs} (hp : pl i = some (off, n)) (hv : VRel μ x y) (ht : Parts μ pl ts cs) : Parts μ pl ((off, n, x) :: ts) ((i, y) :: cs)

theorem fill_sound {pl : Nat → Option (Nat × Nat)} {ts : List (Nat × Nat × Value)} {cps : List (Nat × Value)} (hp : Parts μ pl ts cps) :
    ∀ {cells cc out : List Value}, LRel μ cells cc → fillL cells ts = some out → ∃ out', Instr.fill pl cc.toArray cps = some out'.toArray ∧ LRel μ out out' := by
  induction hp with
  | nil =>
    intro cells cc out hc e
    simp only [fillL, Option.some.injEq] at e
    subst e
    exact ⟨cc, by simp [Instr.fill], hc⟩
  | @cons i off n x y ts cs hp hv ht ih =>
    intro cells cc out hc e
    simp only [fillL] at e
    split at e
    · rename_i hb
      simp only [Bool.and_eq_true, decide_eq_true_eq] at hb
      obtain ⟨out', ho, hr⟩ := ih (hc.splice hv.cells off) e
      refine ⟨out', ?_, hr⟩
      have hs : y.cells.size = n := by have := hv.cells.1; simp only [Array.length_toList] at this; omega
      have hl := hc.1
      simp only [Instr.fill, hp]
      rw [if_neg (by simp [hs]; omega)]
      have := fill_one off y cc (by omega)
      rw [this]; exact ho
    · cases e

theorem run_mapM_arr {α β : Type} (P : Program) (w : World) (f : α → Sem β) (g : α → β) (arr : Array α) (hf : ∀ x ∈ arr.toList, (f x).run P w = .ok (g x) w) : (arr.mapM f).run P w = .ok (arr.map g) w := by
  rw [Array.mapM_eq_mapM_toList, Sem.run_map]
  have key : ∀ l : List α, (∀ x ∈ l, (f x).run P w = .ok (g x) w) → (l.mapM f).run P w = .ok (l.map g) w := by
    intro l
    induction l with
    | nil => intro _; simp
    | cons x l ih =>
      intro h
      rw [List.mapM_cons, Sem.run_bind, h x (by simp), Result.andThen_ok, Sem.run_bind, ih (fun y hy => h y (by simp [hy]))]
      simp
  rw [key _ hf]
  simp [← Array.toList_map]

theorem Parts.of_fields {fs : Array Field} : ∀ {aps cps : List (Nat × Value)} {ts}, aps.length = cps.length → (∀ (i : Nat) (x y : Nat × Value), aps[i]? = some x → cps[i]? = some y → x.1 = y.1 ∧ VRel μ x.2 y.2) →
    fieldPlaces P fs aps = some ts → Parts μ (fun i => (fs.map fun (f : Field) => (f.offset, (sizeT P f.type).getD 0))[i]?) ts cps
  | [], [], ts, _, _, e => by simp [fieldPlaces] at e; subst e; exact .nil
  | [], _ :: _, _, hl, _, _ => by simp at hl
  | _ :: _, [], _, hl, _, _ => by simp at hl
  | x :: aps, y :: cps, ts, hl, hr, e => by
    unfold fieldPlaces at e
    rw [List.mapM_cons] at e
    simp only [bind, Option.bind_eq_some_iff, pure, Option.some.injEq] at e
    obtain ⟨a, ha, l, hl', rfl⟩ := e
    split at ha
    · rename_i f hf
      simp only [Option.map_eq_some_iff] at ha
      obtain ⟨n, hn, rfl⟩ := ha
      obtain ⟨h1, h2⟩ := hr 0 x y rfl rfl
      obtain ⟨i, u⟩ := y
      subst h1
      exact .cons (by simp [hf, hn]) h2 (Parts.of_fields (by simpa using hl) (fun j a b ha hb => hr (j + 1) a b ha hb) hl')
    · cases ha
theorem Parts.of_array {n : Nat} : ∀ {aps cps : List (Nat × Value)}, aps.length = cps.length → (∀ (i : Nat) (x y : Nat × Value), aps[i]? = some x → cps[i]? = some y → x.1 = y.1 ∧ VRel μ x.2 y.2) →
    Parts μ (fun i => some (i * n, n)) (aps.map fun x => (x.1 * n, n, x.2)) cps
  | [], [], _, _ => .nil
  | [], _ :: _, hl, _ => by simp at hl
  | _ :: _, [], hl, _ => by simp at hl
  | x :: aps, (i, u) :: cps, hl, hr => by
    obtain ⟨h1, h2⟩ := hr 0 x (i, u) rfl rfl
    subst h1
    exact .cons rfl h2 (Parts.of_array (by simpa using hl) (fun j a b ha hb => hr (j + 1) a b ha hb))

theorem build_sound {t : TypeId} {aps : List (Nat × Value)} {cps : Array (Nat × Value)} {r : Value} (hl : aps.length = cps.size)
    (hr : ∀ (i : Nat) (x y : Nat × Value), aps[i]? = some x → cps.toList[i]? = some y → x.1 = y.1 ∧ VRel μ x.2 y.2) (e : buildA P t aps = some r) :
    ∃ r', (Instr.build t cps).run P w = .ok r' w ∧ VRel μ r r' := by
  unfold buildA at e
  cases hz : zeroT P t with
  | none => rw [hz] at e; simp at e
  | some z =>
    rw [hz] at e
    cases hu : P.underlying t with
    | none => rw [hu] at e; cases e
    | some d =>
      rw [hu] at e
      cases d <;> simp only at e <;> try (cases e; done)
      · rename_i len el
        split at e
        · rename_i n hn
          split at e
          · rename_i hfl
            simp only [Option.map_eq_some_iff] at e
            obtain ⟨cs, hcs, rfl⟩ := e
            obtain ⟨out, ho, hrel⟩ := fill_sound (Parts.of_array (n := n) (by simpa using hl) hr) (LRel.of_flat hfl) hcs
            refine ⟨.agg out.toArray, ?_, .of_list_agg hrel⟩
            simp only [Array.toArray_toList] at ho
            simp [Instr.build, run_zeroT w hz, run_underlying hu, run_sizeT w hn, ho]
          · cases e
        · cases e
      · rename_i fs
        split at e
        · rename_i hfl
          simp only [Bool.and_eq_true] at hfl
          split at e
          · rename_i ps hps
            simp only [Option.map_eq_some_iff] at e
            obtain ⟨cs, hcs, rfl⟩ := e
            obtain ⟨out, ho, hrel⟩ := fill_sound (Parts.of_fields (by simpa using hl) hr hps) (LRel.of_flat hfl.1) hcs
            refine ⟨.agg out.toArray, ?_, .of_list_agg hrel⟩
            simp only [Array.toArray_toList] at ho
            have hm : (fs.mapM fun (f : Field) => (do pure (f.offset, ← sizeOf f.type) : Sem (Nat × Nat))).run P w = .ok (fs.map fun (f : Field) => (f.offset, (sizeT P f.type).getD 0)) w := by
              refine run_mapM_arr P w _ _ fs fun f hf => ?_
              have := List.all_eq_true.1 hfl.2 f hf
              obtain ⟨n, hn⟩ := Option.isSome_iff_exists.1 this
              simp [run_sizeT w hn, hn]
            simp only [Instr.build, Sem.run_bind, run_zeroT w hz, Result.andThen_ok, run_underlying hu, hm, ho, Sem.run_pure]
          · cases e
        · cases e
end ops
end Go.Abs

namespace Go.Abs

theorem pureRun_sound {α : Type} {P : Program} (s : Sem α) {a : α} (h : pureRun P s = some a) (w : World) : s.run P w = .ok a w := by
  induction s with
  | pure b => simp [pureRun] at h; subst h; rfl
  | program k ih => simp only [pureRun] at h; simp only [Sem.run]; exact ih P h
  | _ => simp [pureRun] at h

theorem range_zeros (z : Array Value) (hz : 0 < z.size) : ∀ n, ((List.range (n * z.size)).map fun i => z[i % z.size]!) = zeros z.toList n
  | 0 => by simp [zeros]
  | n + 1 => by
    rw [Nat.succ_mul, List.range_add, List.map_append, range_zeros z hz n]
    simp only [zeros, List.range_succ, List.flatMap_append, List.flatMap_cons, List.flatMap_nil, List.append_nil]
    congr 1
    rw [List.map_map]
    apply List.ext_getElem?
    intro j
    rw [List.getElem?_map]
    by_cases hj : j < z.size
    · have h1 : (n * z.size + j) % z.size = j := by rw [Nat.mul_comm, Nat.mul_add_mod, Nat.mod_eq_of_lt hj]
      simp [List.getElem?_range hj, h1, hj]
    · rw [List.getElem?_eq_none (by simp; omega), List.getElem?_eq_none (by simp; omega)]; rfl

section ops
variable {P : Program} {μ : Mu} {h : Heap} {w : World}

theorem bits_sound {op : BinOp} {k : IntKind} {a b : Int} {r : Value} (e : bitsA op k a b = some r) : (Op.intBits op k a b).run P w = .ok r w := by
  unfold bitsA at e
  unfold Op.intBits
  cases op <;> simp at e ⊢ <;> exact e

theorem binI_sound {op : BinOp} {t : TypeId} {k k' : IntKind} {a b : Int} {r : Value} (e : binI op k k' a b = some r) : (binOp op t (.int k a) (.int k' b)).run P w = .ok r w := by
  unfold binI at e
  cases op
  case shl =>
    simp only at e
    split at e
    · cases e
    · rename_i hb
      cases e
      simp [binOp, Op.shift, hb]
  case shr =>
    simp only at e
    split at e
    · cases e
    · rename_i hb
      cases e
      simp [binOp, Op.shift, hb]
  all_goals
    simp only at e
    split at e
    · cases e
    · rename_i hk
      have hk' : k = k' := Decidable.not_not.1 hk
      subst hk'
      first
        | (simp only [Option.some.injEq] at e; subst e; simp [binOp, Op.intArith, Op.intCmp])
        | (split at e
           · cases e
           · rename_i hb
             cases e
             simp [binOp, Op.intDiv, hb])
        | (have := bits_sound (P := P) (w := w) e
           simp [binOp]; exact this)

/-- The same kind of value on both sides. -/
theorem VRel.nilptr {b : Option Addr} {v : Value} (hv : VRel μ (.pointer b) v) : ∃ b', v = .pointer b' ∧ b'.isNone = b.isNone := by
  cases hv with
  | flat h => exact ⟨b, rfl, rfl⟩
  | ptr h => exact ⟨_, rfl, rfl⟩
theorem VRel.nilslice {b : Option Addr} {l c : Nat} {v : Value} (hv : VRel μ (.slice b l c) v) : ∃ b' c', v = .slice b' l c' ∧ b'.isNone = b.isNone := by
  cases hv with
  | flat h => exact ⟨b, c, rfl, rfl⟩
  | slice h => exact ⟨_, _, rfl, rfl⟩
  | hid h => exact ⟨_, _, rfl, rfl⟩
  | hemp h => exact ⟨_, _, rfl, rfl⟩
  | zer => exact ⟨_, _, rfl, rfl⟩

theorem run_equal_ptr {t e : TypeId} (hu : P.underlying t = some (.pointer e)) (a b : Option Addr) (h : a = none ∨ b = none) :
    (Op.equal t (.pointer a) (.pointer b)).run P w = .ok (a.isNone && b.isNone) w := by
  show (Op.equalIn (9999 + 1) t (.pointer a) (.pointer b)).run P w = _
  unfold Op.equalIn
  rw [Sem.run_bind, run_underlying hu, Result.andThen_ok]
  rcases h with rfl | rfl
  · simp
  · cases a <;> simp
theorem run_equal_slice {t e : TypeId} (hu : P.underlying t = some (.slice e)) (a b : Option Addr) (l m c d : Nat) (h : a = none ∨ b = none) :
    (Op.equal t (.slice a l c) (.slice b m d)).run P w = .ok (a.isNone && b.isNone) w := by
  show (Op.equalIn (9999 + 1) t (.slice a l c) (.slice b m d)).run P w = _
  unfold Op.equalIn
  rw [Sem.run_bind, run_underlying hu, Result.andThen_ok]
  rcases h with rfl | rfl
  · simp
  · cases a <;> simp

theorem isNone_or {a b : Option Addr} (h : a.isNone = true ∨ b.isNone = true) : a = none ∨ b = none := by
  simpa [Option.isNone_iff_eq_none] using h

theorem binA_sound {op : BinOp} {t : TypeId} {x y x' y' r : Value} (hx : VRel μ x x') (hy : VRel μ y y') (e : binA P op t x y = some r) :
    (binOp op t x' y').run P w = .ok r w := by
  unfold binA at e
  split at e
  · rw [hx.int, hy.int]; exact binI_sound e
  · rename_i a b
    obtain ⟨a', rfl, ha⟩ := hx.nilptr
    obtain ⟨b', rfl, hb⟩ := hy.nilptr
    split at e <;> first
      | (cases e; done)
      | (rename_i hu
         simp only [Option.some.injEq] at e
         subst e
         have hn : a' = none ∨ b' = none := isNone_or (by simp [ha, hb])
         simp [binOp, run_equal_ptr hu a' b' hn, ha, hb])
  · rename_i a l c b m d
    obtain ⟨a', c', rfl, ha⟩ := hx.nilslice
    obtain ⟨b', d', rfl, hb⟩ := hy.nilslice
    split at e <;> first
      | (cases e; done)
      | (rename_i hu
         simp only [Option.some.injEq] at e
         subst e
         have hn : a' = none ∨ b' = none := isNone_or (by simp [ha, hb])
         simp [binOp, run_equal_slice hu a' b' l m c' d' hn, ha, hb])
  · split at e
    · rename_i hg
      simp only [Bool.and_eq_true] at hg
      rw [hx.ground_eq hg.1, hy.ground_eq hg.2]
      split at e
      · rename_i r hr
        split at e
        · cases e; exact pureRun_sound _ hr w
        · cases e
      · cases e
    · cases e

theorem VRel.to_nilIface {x : Value} (hx : VRel μ x .nilIface) : x = .nilIface := by cases hx; rfl
theorem VRel.to_agg {x : Value} {ys : Array Value} (hx : VRel μ x (.agg ys)) : ∃ xs, x = .agg xs := by
  cases hx with
  | flat h => simp [Abs.flat] at h
  | agg _ _ => exact ⟨_, rfl⟩

theorem eqGuard_sound {op : BinOp} {t : TypeId} {ox oy : Operand} {x y x' y' : Value} (hx : VRel μ x x') (hy : VRel μ y y') (e : eqOk P op t x y = true) :
    (eqGuard op t ox oy x' y').run P w = .ok () w := by
  have key : op = .eql ∨ op = .neq ∨ (op ≠ .eql ∧ op ≠ .neq) := by cases op <;> simp
  have main : (op = .eql ∨ op = .neq) → (eqGuard op t ox oy x' y').run P w = .ok () w := by
    intro h1
    have hm : ∀ (o : BinOp), o = op → (eqGuard o t ox oy x' y').run P w = .ok () w := by
      intro o ho
      rcases h1 with h1 | h1 <;> (
        rw [h1] at ho; subst ho; rw [h1] at e
        unfold eqGuard
        simp only [Bool.not_true, Bool.false_eq_true, if_false]
        split
        · have := hx.to_nilIface
          have := hy.to_nilIface
          subst_vars
          simp [eqOk] at e
        · obtain ⟨xs, rfl⟩ := hx.to_agg
          obtain ⟨ys, rfl⟩ := hy.to_agg
          simp [eqOk] at e
          simp [e]
        · rfl)
    exact hm op rfl
  rcases key with h1 | h1 | h1
  · exact main (.inl h1)
  · exact main (.inr h1)
  · have hm : eqGuard op t ox oy x' y' = pure () := by cases op <;> first | rfl | (simp at h1; done)
    rw [hm]; rfl

theorem bin_sound {op : BinOp} {t : TypeId} {ox oy : Operand} {x y x' y' r : Value} (hx : VRel μ x x') (hy : VRel μ y y') (e : bin P op t x y = some r) :
    (do eqGuard op t ox oy x' y'; binOp op t x' y' : Sem Value).run P w = .ok r w := by
  unfold bin at e
  split at e
  · rename_i hg
    rw [Sem.run_bind, eqGuard_sound hx hy hg, Result.andThen_ok]
    exact binA_sound hx hy e
  · cases e

theorem un_sound {op : UnOp} {x x' r : Value} (hx : VRel μ x x') (e : unA op x = some r) : (Op.unary op x').run P w = .ok r w := by
  unfold unA at e
  split at e
  · rw [hx.int]; cases e; simp [Op.unary, Op.intArith]
  · rw [hx.int]; simp only [Op.unary]; exact bits_sound e
  · rw [hx.bool]; cases e; simp [Op.unary]
  · cases e

theorem bits_flat {op : BinOp} {k : IntKind} {a b : Int} {r : Value} (e : bitsA op k a b = some r) : flat r = true := by
  unfold bitsA at e
  cases op <;> simp at e <;> subst e <;> rfl
theorem binI_flat {op : BinOp} {k k' : IntKind} {a b : Int} {r : Value} (e : binI op k k' a b = some r) : flat r = true := by
  unfold binI at e
  cases op <;> simp only at e <;> (repeat' split at e) <;> first
    | (cases e; done)
    | (simp only [Option.some.injEq] at e; subst e; rfl)
    | exact bits_flat e
theorem bin_flat {op : BinOp} {t : TypeId} {x y r : Value} (e : bin P op t x y = some r) : flat r = true := by
  unfold bin at e
  split at e
  · unfold binA at e
    split at e
    · exact binI_flat e
    · split at e <;> first
        | (cases e; done)
        | (simp only [Option.some.injEq] at e; subst e; rfl)
    · split at e <;> first
        | (cases e; done)
        | (simp only [Option.some.injEq] at e; subst e; rfl)
    · split at e
      · split at e
        · split at e
          · rename_i hf; cases e; exact hf
          · cases e
        · cases e
      · cases e
  · cases e
theorem un_flat {op : UnOp} {x r : Value} (e : unA op x = some r) : flat r = true := by
  unfold unA at e
  split at e
  · cases e; rfl
  · exact bits_flat e
  · cases e; rfl
  · cases e

theorem nilCheck_rel {x x' r : Value} (hx : VRel μ x x') (e : nilCheckA x = some r) : VRel μ r x' ∧ ((∃ a, x' = .pointer (some a)) ∨ ∃ f a b, x' = .func (.func f) a b) := by
  unfold nilCheckA at e
  split at e
  · cases e
    refine ⟨hx, ?_⟩
    cases hx with
    | flat h => simp [flat] at h
    | ptr h => exact .inl ⟨_, rfl⟩
  · cases e
    refine ⟨hx, ?_⟩
    cases hx with
    | flat h => exact .inr ⟨_, _, _, rfl⟩
    | func _ _ _ _ => exact .inr ⟨_, _, _, rfl⟩
  · cases e

theorem buildSlice_sound {t : TypeId} {len : Nat} {aps : List (Nat × Value)} {cps : Array (Nat × Value)} {r : Value} {h' : Heap} (s : Sim μ h w) (hf : Free μ h h') (hl : aps.length = cps.size)
    (hr : ∀ (i : Nat) (x y : Nat × Value), aps[i]? = some x → cps.toList[i]? = some y → x.1 = y.1 ∧ VRel μ x.2 y.2) (e : buildSliceA P t len aps h = some (r, h')) :
    ∃ μ' r' w', (Instr.buildSlice t len cps).run P w = .ok r' w' ∧ Sim μ' h' w' ∧ Step μ h w μ' h' w' ∧ VRel μ' r r' := by
  unfold buildSliceA at e
  cases hu : P.underlying t with
  | none => rw [show elemT P t = none from by simp [elemT, hu]] at e; cases e
  | some d =>
    cases d with
    | slice el =>
      rw [show elemT P t = some el from by simp [elemT, hu]] at e
      simp only at e
      split at e
      · rename_i n z hn hz
        split at e
        · rename_i hc
          simp only [Bool.and_eq_true, decide_eq_true_eq] at hc
          obtain ⟨⟨⟨⟨hfl, hzn⟩, hpos⟩, hsz⟩, hone⟩ := hc
          split at e
          · rename_i cs hcs
            simp only [Option.some.injEq, Prod.mk.injEq] at e
            obtain ⟨rfl, rfl⟩ := e
            have hz1 : zeros z.cells.toList len = (List.range (len * n)).map fun i => z.cells[i % z.cells.size]! := by
              rw [← hzn, range_zeros z.cells (by omega)]
            obtain ⟨out, ho, hrel⟩ := fill_sound (Parts.of_array (n := n) (by simpa using hl) hr) (LRel.of_flat (μ := μ) (l := zeros z.cells.toList len) (by
              simp only [flatAll, List.all_eq_true, zeros, List.mem_flatMap] at hfl ⊢
              rintro x ⟨_, _, hx⟩; exact hfl x hx)) hcs
            have harr : (Array.range (len * n)).map (fun i => z.cells[i % z.cells.size]!) = (zeros z.cells.toList len).toArray := by
              apply Array.ext'
              rw [hz1]; simp
            obtain ⟨μ', w', hrun, hS, hSt, L, hL, hB, hO, _⟩ := newRow_sound (P := P) s hf hrel el
            refine ⟨μ', .slice (some ⟨w.heap.size, 0, none⟩) len len, w', ?_, hS, hSt, ?_⟩
            · by_cases hlen : len * n = 0
              · have hnil : zeros z.cells.toList len = [] := by rw [hz1, hlen]; rfl
                rw [hnil] at ho
                simp only [Instr.buildSlice, Sem.run_bind, run_underlying hu, Result.andThen_ok, run_sizeT w hn]
                rw [if_neg (by omega)]
                have ho' : Instr.fill (fun i => some (i * n, n)) #[] cps.toList = some out.toArray := ho
                have hr0 : Array.range (len * n) = #[] := by rw [hlen]; rfl
                rw [if_pos hlen, hr0]
                simp [ho', hrun]
              · simp only [Instr.buildSlice, Sem.run_bind, run_underlying hu, Result.andThen_ok, run_sizeT w hn]
                rw [if_neg (by omega)]
                simp only [hlen, if_false, Sem.run_bind, run_zeroT w hz, Result.andThen_ok, Sem.run_pure, harr, ho, hrun]
            · have := VRel.slice (off := 0) (len := len) (cap := len) hL
              rw [hB, hO] at this
              exact this
          · cases e
        · cases e
      · cases e
    | _ => rw [show elemT P t = none from by simp [elemT, hu]] at e; cases e



theorem modify_push {α : Type} (a : Array α) (x : α) (f : α → α) : (a.push x).modify a.size f = a.push (f x) := by
  apply Array.ext
  · simp
  · intro i h1 h2
    rw [Array.getElem_modify]
    by_cases e : a.size = i
    · subst e; simp
    · rw [if_neg e, Array.getElem_push, Array.getElem_push]
      simp at h1
      rw [dif_pos (by omega), dif_pos (by omega)]

theorem freeze_push (w : World) (arr : Array Value) (e : TypeId) :
    ({ w with heap := w.heap.push (.cells arr e (0, 0)) } : World).freeze ⟨w.heap.size, arr.size, none⟩ 1 = { w with heap := w.heap.push (.cells arr e (arr.size, arr.size + 1)) } := by
  unfold World.freeze
  rw [if_neg (by decide)]
  simp only [modify_push]
  rfl

/-- The row that a conversion of a string makes. -/
theorem run_stringToBytes (e : TypeId) (sb : ByteArray) (hsz : sb.size ≤ maxLen) : ∃ cap arr, sb.size ≤ cap ∧ cap ≤ maxLen ∧ arr.size = cap ∧
    (arr.toList.take sb.size = sb.data.toList.map fun b => .int .u8 b.toNat) ∧
    (Conv.stringToBytes e sb).run P w = .ok (.slice (some ⟨w.heap.size, 0, none⟩) sb.size cap) { w.drew with heap := w.heap.push (.cells arr e (arr.size, arr.size + 1)) } := by
  have hge := grownCap_ge w sb.size 0 e
  have hle := grownCap_le_maxLen w sb.size 0 e hsz
  have hds : sb.data.size = sb.size := rfl
  refine ⟨grownCap w sb.size 0 e, (sb.data.map fun (b : UInt8) => Value.int .u8 (b.toNat : Int)) ++ Array.replicate (grownCap w sb.size 0 e - sb.size) (.int .u8 0), hge, hle, ?_, ?_, ?_⟩
  · simp [Array.size_append]; omega
  · rw [Array.toList_append, List.take_append_of_le_length (by simp [hds]), List.take_of_length_le (by simp [hds])]
    simp
  · unfold Conv.stringToBytes markStringish
    rw [Sem.run_bind, run_choose]
    simp only [Question.forced, Bool.false_eq_true, if_false, Result.andThen_ok, Sem.run_bind, Go.newRow, run_newObj, Sem.run_pure, run_shape, World.shape?, Array.getElem?_push_size, run_freeze]
    have := freeze_push w.drew ((sb.data.map fun (b : UInt8) => Value.int .u8 (b.toNat : Int)) ++ Array.replicate (grownCap w sb.size 0 e - sb.size) (.int .u8 0)) e
    exact congrArg (Result.ok _) this

/-- A mark behind the cells of a block. -/
theorem Sim.freeze {b O : Nat} {k : Blk} {L : Loc} (s : Sim μ h w) (hb : h.n0 ≤ b) (hg : h.get b = some k) (hL : μ b = some L) :
    ∃ w', (markStringish ⟨L.blk, O, none⟩).run P w = .ok () w' ∧ Sim μ h w' ∧ Step μ h w μ h w' := by
  obtain ⟨L', arr, T, fr, h1, h2, h4, h5, h6, h7, h8, h9⟩ := s.new b k hb hg
  rw [hL] at h1; cases h1
  have hsame : ∀ B, B ≠ L.blk → (w.freeze ⟨L.blk, arr.size, none⟩ 1).heap[B]? = w.heap[B]? := by
    intro B hB
    unfold World.freeze
    rw [if_neg (by decide)]
    simp only [Array.getElem?_modify]
    rw [if_neg (Ne.symm hB)]
  obtain ⟨fr', hfr', hnew⟩ : ∃ fr', arr.size ≤ fr'.1 ∧ (w.freeze ⟨L.blk, arr.size, none⟩ 1).heap[L.blk]? = some (.cells arr T fr') := by
    unfold World.freeze
    rw [if_neg (by decide)]
    simp only [Array.getElem?_modify]
    rw [if_pos trivial, h4]
    obtain ⟨lo, hi⟩ := fr
    simp only [Option.map_some]
    by_cases e : lo = hi
    · subst e; exact ⟨(arr.size, arr.size + 1), Nat.le_refl _, by simp⟩
    · refine ⟨(min lo arr.size, max hi (arr.size + 1)), ?_, by simp [e]⟩
      simp only at h7 ⊢
      omega
  refine ⟨w.freeze ⟨L.blk, arr.size, none⟩ 1, ?_, ⟨?_, ?_, s.inj, ?_, s.low⟩, ⟨fun _ _ => rfl, rfl, rfl, Nat.le_refl _, rfl, rfl, rfl, ?_, ?_, fun B hB => .inl hB⟩⟩
  · unfold markStringish
    simp only [Sem.run_bind, run_shape, World.shape?, h4, Result.andThen_ok, run_freeze]
  · intro c cs hc hcs
    obtain ⟨L2, a, T2, f2, g1, g2, g3, g4, g5⟩ := s.old c cs hc hcs
    exact ⟨L2, a, T2, f2, g1, g2, g3, by rw [hsame c (by omega)]; exact g4, g5⟩
  · intro c kc hc hgc
    by_cases e : c = b
    · subst e
      rw [hg] at hgc; cases hgc
      exact ⟨L, arr, T, fr', hL, h2, hnew, h5, h6, .inr hfr', h8, h9⟩
    · obtain ⟨L2, a, T2, f2, g1, g2, g4, g5⟩ := s.new c kc hc hgc
      exact ⟨L2, a, T2, f2, g1, g2, by rw [hsame _ (s.inj c b kc k L2 L hc hb e hgc hg g1 hL)]; exact g4, g5⟩
  · unfold World.freeze; simpa using s.size
  · unfold World.freeze; simp
  · intro B hB hO
    exact hsame B (fun e => hO ⟨b, k, L, hb, hg, hL, e.symm⟩)

/-- Bytes out of cells. -/
theorem asByte_list {l : List Value} {bs : List UInt8} (e : l.mapM asByte = some bs) : ∃ ns : List Int, l = ns.map (Value.int .u8) ∧ ns.map (fun n => UInt8.ofNat n.toNat) = bs := by
  induction l generalizing bs with
  | nil => simp at e; subst e; exact ⟨[], rfl, rfl⟩
  | cons v l ih =>
    rw [List.mapM_cons] at e
    simp only [bind, Option.bind_eq_some_iff, pure, Option.some.injEq] at e
    obtain ⟨a, ha, r, hr, rfl⟩ := e
    unfold asByte at ha
    split at ha
    · rename_i n
      cases ha
      obtain ⟨ns, rfl, rfl⟩ := ih hr
      exact ⟨n :: ns, rfl, rfl⟩
    · cases ha
theorem foldl_push (ns : List Int) : ∀ (s : ByteArray), ns.foldl (fun r n => r.push (UInt8.ofNat n.toNat)) s = ⟨s.data ++ (ns.map fun n => UInt8.ofNat n.toNat).toArray⟩ := by
  induction ns with
  | nil => intro s; simp
  | cons n ns ih =>
    intro s
    simp only [List.foldl_cons, ih, List.map_cons]
    simp [ByteArray.push]

theorem firstA_slice {size n : Nat} {a : Option Addr} {len cap : Nat} {v' : Value} {cs : List Value} (s : Sim μ h w) (hx : VRel μ (.slice a len cap) v') (e : firstA size n (.slice a len cap) h = some cs) (hn : n ≤ len) (P : Program) :
    ∃ cs', (∀ w', w'.heap = w.heap → (Builtin.firstCells size n v').run P w' = .ok cs'.toArray w') ∧ LRel μ cs cs' ∧ ∀ a' l c, v' = .slice (some a') l c → (Go.loadCells a' (n * size)).run P w = .ok cs'.toArray w := by
  unfold firstA at e
  split at e
  · rename_i heq
    cases heq
    split at e
    · cases e
      rw [hx.flat_eq rfl]
      exact ⟨[], by intro w' _; simp [Builtin.firstCells], LRel.nil μ, by intro a' l c h; cases h⟩
    · cases e
  · rename_i b off sp l c heq
    cases heq
    split at e
    · rename_i h0
      cases e
      refine ⟨[], ?_, LRel.nil μ, ?_⟩
      · intro w' _; cases hx <;> simp [Builtin.firstCells, h0, Go.loadCells, Go.loadCellsFrom]
      · intro a' l c _; simp [h0, Go.loadCells, Go.loadCellsFrom]
    · rename_i h0
      split at e
      · rename_i k hk
        split at e
        · rename_i hle
          cases e
          have hne : n ≠ 0 := by rintro rfl; simp at h0
          obtain ⟨L, cs', hL, hr, hrun⟩ := s.loadCells hk hle.1 hle.2 P
          cases hx with
          | flat h => simp [flat] at h
          | slice h => rw [h] at hL; cases hL; exact ⟨cs', by simpa [Builtin.firstCells] using hrun, hr, by intro a' l c h; cases h; exact hrun w rfl⟩
          | hid h => rw [h] at hL; cases hL; exact ⟨cs', by simpa [Builtin.firstCells] using hrun, hr, by intro a' l c h; cases h; exact hrun w rfl⟩
          | hemp h => exact absurd hn (by omega)
          | zer => exact absurd hn (by omega)
        · cases e
      · cases e
  · rename_i heq; cases heq
  · cases e

theorem conv_sound {src dst : TypeId} {x x' r : Value} {h' : Heap} (s : Sim μ h w) (hf : Free μ h h') (hx : VRel μ x x') (e : convA P src dst x h = some (r, h')) :
    ∃ μ' r' w', (convert src dst x').run P w = .ok r' w' ∧ Sim μ' h' w' ∧ Step μ h w μ' h' w' ∧ VRel μ' r r' := by
  unfold convA at e
  split at e
  · rename_i hs hd
    rw [hx.int]
    cases e
    refine ⟨μ, _, w, ?_, s, .same_world, .flat rfl⟩
    simp [convert, run_underlying hs, run_underlying hd, Conv.intToInt]
  · rename_i hs hd
    rw [hx.flat_eq rfl]
    cases e
    refine ⟨μ, _, w, ?_, s, .same_world, .flat rfl⟩
    rename_i d _ _ _
    cases d <;> simp [convert, run_underlying hs, run_underlying hd]
  · rename_i d el sb hs hd
    rw [hx.flat_eq rfl]
    split at e
    · rename_i hel
      split at e
      · rename_i hsz
        simp only [Option.some.injEq, Prod.mk.injEq] at e
        obtain ⟨rfl, rfl⟩ := e
        obtain ⟨cap, arr, c1, c2, c3, c4, c5⟩ := run_stringToBytes (P := P) (w := w) el sb (by unfold maxLen; omega)
        obtain ⟨hS, hSt⟩ := s.alloc (k := sb.data.toList.map fun b => .int .u8 b.toNat) hf (arr := arr) (T := el) (fr := (arr.size, arr.size + 1)) (.inr (Nat.le_refl _))
          (by have : sb.data.size = sb.size := rfl; simp; omega)
          (by have : sb.data.size = sb.size := rfl
              simp only [List.length_map, Array.length_toList, this, c4]
              exact LRel.of_flat (by rw [flatAll, List.all_eq_true]; intro x hx; obtain ⟨b, _, rfl⟩ := List.mem_map.1 hx; rfl)) (w1 := { w.drew with heap := w.heap.push (.cells arr el (arr.size, arr.size + 1)) }) rfl rfl rfl rfl
        refine ⟨_, .slice (some ⟨w.heap.size, 0, none⟩) sb.size cap, _, ?_, hS, hSt, ?_⟩
        · have : (convert src dst (.string sb)).run P w = (Conv.stringToBytes el sb).run P w := by
            cases d <;> simp [convert, run_underlying hs, run_underlying hd, run_underlying hel]
          rw [this, c5]
        · have : sb.data.size = sb.size := rfl
          have := VRel.hid (μ := μ.put h.next ⟨w.heap.size, 0, arr.size, (sb.data.toList.map fun b => Value.int .u8 b.toNat).length⟩) (b := h.next) (off := 0) (len := sb.size) (cap := sb.size) (cap' := cap) (s := 1)
            (Mu.put_same _ _ _) (Nat.le_refl _) c1 c2 (by simp) (by simp only; omega)
          simpa using this
      · cases e
    · cases e
  · rename_i el0 el a n c hs hd
    split at e
    · rename_i hel
      split at e
      · rename_i hc
        simp only [Bool.and_eq_true, decide_eq_true_eq] at hc
        obtain ⟨⟨⟨rfl, hb⟩, hlive⟩, hsp⟩ := hc
        obtain ⟨k, hk⟩ := Option.isSome_iff_exists.1 hlive
        cases e
        rw [hs] at hd; cases hd
        have main : ∀ (L : Loc) (O c' : Nat), μ a.block = some L → x' = .slice (some ⟨L.blk, O, none⟩) n c' → ∃ μ' r' w', (convert src src x').run P w = .ok r' w' ∧ Sim μ' h w' ∧ Step μ h w μ' h w' ∧ VRel μ' (.slice (some a) n c) r' := by
          rintro L O c' hL rfl
          obtain ⟨w', hrun, hS, hSt⟩ := s.freeze (P := P) (O := O) hb hk hL
          refine ⟨μ, _, w', ?_, hS, hSt, hx⟩
          simp [convert, run_underlying hs, run_underlying hel, hrun]
        cases hx with
        | flat h => simp [flat] at h
        | slice h => exact main _ _ _ h rfl
        | hid h => exact main _ _ _ h rfl
        | hemp h => exact main _ _ _ h rfl
        | zer => simp at hsp
      · cases e
    · cases e
  · rename_i el a n c hs hd
    split at e
    · rename_i hel
      split at e
      · rename_i l hl
        split at e
        · rename_i bs hbs
          cases e
          obtain ⟨cs', h1, h2, h3⟩ := firstA_slice s hx hl (Nat.le_refl _) P
          obtain ⟨ns, rfl, rfl⟩ := asByte_list hbs
          have hcs : cs' = ns.map (Value.int .u8) := h2.flat_eq (by simp [flatAll, flat])
          subst hcs
          refine ⟨μ, .string ⟨(ns.map fun n => UInt8.ofNat n.toNat).toArray⟩, w, ?_, s, .same_world, .flat rfl⟩
          obtain ⟨b', c', rfl, hnone⟩ := hx.nilslice
          rw [run_convert_bytes_string w src dst el b' n c' hs hel hd]
          cases b' with
          | none =>
            have : a = none := by simpa using hnone.symm
            subst this
            have hns : ns = [] := by
              have hl' : (if n = 0 then some [] else none) = some (ns.map (Value.int .u8)) := hl
              split at hl'
              · simpa using (Option.some.inj hl').symm
              · simp at hl'
            subst hns
            rfl
          | some a' =>
            have hrun := h3 a' n c' rfl
            rw [Nat.mul_one] at hrun
            rw [run_bytesToString w a' n c' ns hrun, foldl_push]
            simp
        · cases e
      · cases e
    · cases e
  · cases e

end ops
end Go.Abs

namespace Go.Abs

section ops
variable {P : Program} {μ : Mu} {h : Heap} {w : World}

theorem make_sound {t : TypeId} {l l' c c' r : Value} {h' : Heap} (s : Sim μ h w) (hf : Free μ h h') (hl : VRel μ l l') (hc : VRel μ c c') (e : makeA P t l c h = some (r, h')) :
    ∃ μ' r' w', (Instr.makeSlice t l' c').run P w = .ok r' w' ∧ Sim μ' h' w' ∧ Step μ h w μ' h' w' ∧ VRel μ' r r' := by
  unfold makeA at e
  cases hu : P.underlying t with
  | none => rw [show elemT P t = none from by simp [elemT, hu]] at e; cases e
  | some d =>
    cases d with
    | slice el =>
      rw [show elemT P t = some el from by simp [elemT, hu]] at e
      split at e
      · rename_i _ _ _ l c heq
        cases heq
        rw [hl.int, hc.int]
        split at e
        · rename_i n by_ z hn hb hz
          split at e
          · rename_i hcond
            simp only [Bool.and_eq_true, decide_eq_true_eq] at hcond
            obtain ⟨⟨⟨⟨⟨⟨h0, h1⟩, h2⟩, h3⟩, hfl⟩, hzn⟩, hpos⟩ := hcond
            simp only [Option.some.injEq, Prod.mk.injEq] at e
            obtain ⟨rfl, rfl⟩ := e
            obtain ⟨i, hi, hin⟩ := info_of_sizeT hn
            have hib : i.bytes = by_ := by simp only [bytesT, hi, Option.map_some, Option.some.injEq] at hb; exact hb
            have wl : IntKind.i64.wrap l = l := IntWalk.i64_in _ (by omega)
            have wc : IntKind.i64.wrap c = c := IntWalk.i64_in _ (by omega)
            have hz1 : zeros z.cells.toList c.toNat = (List.range (c.toNat * n)).map fun i => z.cells[i % z.cells.size]! := by
              rw [← hzn, range_zeros z.cells (by omega)]
            obtain ⟨μ', w', hrun, hS, hSt, L, hL, hB, hO, _⟩ := newRow_sound (P := P) s hf (LRel.of_flat (μ := μ) (l := zeros z.cells.toList c.toNat) (by
              simp only [flatAll, List.all_eq_true, zeros, List.mem_flatMap] at hfl ⊢
              rintro x ⟨_, _, hx⟩; exact hfl x hx)) el
            have harr : (Array.range (c.toNat * n)).map (fun i => z.cells[i % z.cells.size]!) = (zeros z.cells.toList c.toNat).toArray := by
              apply Array.ext'
              rw [hz1]; simp
            refine ⟨μ', .slice (some ⟨w.heap.size, 0, none⟩) l.toNat c.toNat, w', ?_, hS, hSt, ?_⟩
            · have hlarge : (decide (c < 0) || decide ((i.bytes : Int) * c > 2 ^ 48)) = false := by
                rw [hib]
                simp only [Bool.or_eq_false_iff, decide_eq_false_iff_not]
                refine ⟨by omega, ?_⟩
                have : (2 : Int) ^ 48 = 281474976710656 := by decide
                omega
              unfold Instr.makeSlice
              simp only [Sem.run_bind, run_underlying hu, Result.andThen_ok, asInt, asIntOf, Sem.run_pure, run_typeInfo w hi, wl, wc]
              rw [hlarge]
              have hlt : decide (l < 0) = false := by simp; omega
              have hgt : decide (l > c) = false := by simp; omega
              simp only [hlt, hgt, Bool.or_self, Bool.false_eq_true, if_false, Sem.run_bind, run_askRoom, Result.andThen_ok, run_sizeT w hn]
              by_cases hcz : c.toNat * n = 0
              · have hr0 : Array.range (c.toNat * n) = #[] := by rw [hcz]; rfl
                have hnil : zeros z.cells.toList c.toNat = [] := by rw [hz1, hcz]; rfl
                rw [hnil] at hrun
                rw [if_pos hcz, hr0]
                simp [hrun]
              · rw [if_neg hcz]
                simp only [Sem.run_bind, run_zeroT w hz, Result.andThen_ok, Sem.run_pure, harr, hrun]
            · have := VRel.slice (off := 0) (len := l.toNat) (cap := c.toNat) hL
              rw [hB, hO] at this
              exact this
          · cases e
        · cases e
      · cases e
    | _ => rw [show elemT P t = none from by simp [elemT, hu]] at e; cases e



/-- Optional operands on both sides. -/
def ORel (μ : Mu) (x y : Option Value) : Prop := (x = none ∧ y = none) ∨ ∃ a b, x = some a ∧ y = some b ∧ VRel μ a b

theorem bound_eq {d y n : Nat} {x x' : Option Value} (hx : ORel μ x x') (e : boundA d y x = some n) : x' = x := by
  rcases hx with ⟨rfl, rfl⟩ | ⟨a, b, rfl, rfl, hv⟩
  · rfl
  · unfold boundA at e
    split at e
    · rename_i heq; cases heq
    · rename_i k i heq; cases heq; rw [hv.int]
    · cases e
theorem bounds_eq {len cap : Nat} {lo hi mx lo' hi' mx' : Option Value} {r : Nat × Nat × Nat} (h1 : ORel μ lo lo') (h2 : ORel μ hi hi') (h3 : ORel μ mx mx') (e : boundsA len cap lo hi mx = some r) :
    lo' = lo ∧ hi' = hi ∧ mx' = mx := by
  unfold boundsA at e
  split at e
  · rename_i m hm
    split at e
    · cases e
    · split at e
      · rename_i h hh
        split at e
        · rename_i l hl
          exact ⟨bound_eq h1 hl, bound_eq h2 hh, bound_eq h3 hm⟩
        · cases e
      · cases e
  · cases e
theorem run_bound {d y n : Nat} {v : Value} {code : BoundsCode} (e : boundA d y (some v) = some n) : (Instr.sliceBound v y code).run P w = .ok n w := by
  unfold boundA at e
  split at e
  · rename_i heq; cases heq
  · rename_i k i heq
    cases heq
    split at e
    · rename_i hc
      cases e
      simp [Instr.sliceBound, asIntOf, hc]
    · cases e
  · cases e
theorem run_bounds {isSl : Bool} {len cap : Nat} {lo hi mx : Option Value} {r : Nat × Nat × Nat} (e : boundsA len cap lo hi mx = some r) :
    (Instr.sliceBounds isSl len cap lo hi mx).run P w = .ok r w := by
  unfold boundsA at e
  split at e
  · rename_i m hm
    split at e
    · cases e
    · rename_i hne
      split at e
      · rename_i h hh
        split at e
        · rename_i l hl
          cases e
          unfold Instr.sliceBounds
          cases mx with
          | none =>
            simp only [boundA, Option.some.injEq] at hm
            subst hm
            cases hi with
            | none =>
              simp only [boundA, Option.some.injEq] at hh
              subst hh
              cases lo with
              | none => simp only [boundA, Option.some.injEq] at hl; subst hl; simp
              | some v => simp [run_bound hl]
            | some u =>
              cases lo with
              | none => simp only [boundA, Option.some.injEq] at hl; subst hl; simp [run_bound hh]
              | some v => simp [run_bound hl, run_bound hh]
          | some t =>
            cases hi with
            | none => exact (hne _ rfl rfl).elim
            | some u =>
              cases lo with
              | none => simp only [boundA, Option.some.injEq] at hl; subst hl; simp [run_bound hh, run_bound hm]
              | some v => simp [run_bound hl, run_bound hh, run_bound hm]
        · cases e
      · cases e
  · cases e

theorem bounds_le {len cap : Nat} {lo hi mx : Option Value} {l h m : Nat} (hlc : len ≤ cap) (e : boundsA len cap lo hi mx = some (l, h, m)) : l ≤ h ∧ h ≤ m ∧ (mx = none → m = cap) := by
  have b : ∀ {d y n : Nat} {x : Option Value}, boundA d y x = some n → (x = none ∧ n = d) ∨ n ≤ y := by
    intro d y n x e
    unfold boundA at e
    split at e
    · cases e; exact .inl ⟨rfl, rfl⟩
    · split at e
      · rename_i hc; cases e; right; omega
      · cases e
    · cases e
  unfold boundsA at e
  split at e
  · rename_i m' hm
    split at e
    · cases e
    · rename_i hne
      split at e
      · rename_i h' hh
        split at e
        · rename_i l' hl
          cases e
          have hm' : m = cap ∨ mx ≠ none := by
            cases mx with
            | none => simp only [boundA, Option.some.injEq] at hm; exact .inl hm.symm
            | some v => right; simp
          refine ⟨?_, ?_, ?_⟩
          · rcases b hl with ⟨_, rfl⟩ | h1
            · exact Nat.zero_le _
            · exact h1
          · rcases b hh with ⟨h0, rfl⟩ | h1
            · subst h0
              cases mx with
              | none => simp only [boundA, Option.some.injEq] at hm; omega
              | some v => exact (hne _ rfl rfl).elim
            · exact h1
          · intro h0; subst h0; simp only [boundA, Option.some.injEq] at hm; exact hm.symm
        · cases e
      · cases e
  · cases e

theorem bounds_cap {len cap cap' : Nat} {lo hi : Option Value} {l h m : Nat} (hc : cap ≤ cap') (e : boundsA len cap lo hi none = some (l, h, m)) : boundsA len cap' lo hi none = some (l, h, cap') := by
  have b : ∀ {d y y' n : Nat} {x : Option Value}, y ≤ y' → boundA d y x = some n → boundA d y' x = some n := by
    intro d y y' n x hy e
    unfold boundA at e ⊢
    split at e
    · exact e
    · split at e
      · rename_i hc; rw [if_pos (by omega)]; exact e
      · cases e
    · cases e
  have hn : ∀ c, boundA c c none = some c := fun _ => rfl
  unfold boundsA at e ⊢
  rw [hn] at e ⊢
  cases hi with
  | none =>
    simp only at e ⊢
    have hl : boundA len cap none = some len := rfl
    have hl' : boundA len cap' none = some len := rfl
    rw [hl] at e
    rw [hl']
    simp only at e ⊢
    split at e
    · cases e; rfl
    · cases e
  | some u =>
    simp only at e ⊢
    split at e
    · rename_i h' hh
      rw [b hc hh]
      simp only
      split at e
      · cases e; rfl
      · cases e
    · cases e

theorem sliceSl_sound {t el : TypeId} {size : Nat} {x x' r : Value} {lo hi mx lo' hi' mx' : Option Value} (hu : P.underlying t = some (.slice el)) (hz : sizeT P el = some size)
    (hx : VRel μ x x') (h1 : ORel μ lo lo') (h2 : ORel μ hi hi') (h3 : ORel μ mx mx') (hstr : ∀ s, x ≠ .string s) (e : sliceSl size x lo hi mx = some r) :
    ∃ r', (Instr.slice t x' lo' hi' mx').run P w = .ok r' w ∧ VRel μ r r' := by
  have run : ∀ (a : Option Addr) (len cap : Nat) {l h m : Nat}, boundsA len cap lo' hi' mx' = some (l, h, m) →
      (Instr.slice t (.slice a len cap) lo' hi' mx').run P w = .ok (.slice (if m = l then a else a.map (·.add (l * size))) (h - l) (m - l)) w := by
    intro a len cap l h m hb
    unfold Instr.slice
    simp [run_underlying hu, run_bounds (P := P) (w := w) hb, run_sizeT w hz]
  unfold sliceSl at e
  split at e
  · rename_i len cap
    split at e
    · rename_i l h m hb
      cases e
      obtain ⟨rfl, rfl, rfl⟩ := bounds_eq h1 h2 h3 hb
      rw [hx.flat_eq rfl]
      exact ⟨_, run _ _ _ hb, by
        have : (if m = l then (none : Option Addr) else Option.map (fun (a : Addr) => a.add (l * size)) none) = none := by split <;> rfl
        rw [this]; exact .flat rfl⟩
    · cases e
  · rename_i b off len cap
    split at e
    · rename_i l h m hb
      cases e
      obtain ⟨rfl, rfl, rfl⟩ := bounds_eq h1 h2 h3 hb
      cases hx with
      | flat h => simp [flat] at h
      | slice hL =>
        rename_i L
        refine ⟨_, run _ _ _ hb, ?_⟩
        by_cases hm : m = l
        · simp only [hm, if_true]; exact .slice hL
        · simp only [hm, if_false, Option.map_some, Addr.add_lit]
          have := VRel.slice (off := off + l * size) (len := h - l) (cap := m - l) hL
          rw [← Nat.add_assoc] at this
          exact this
    · cases e
  · rename_i b off s len cap
    split at e
    · cases e
    · split at e
      · rename_i l h m hb
        split at e
        · rename_i hs
          obtain ⟨hs, hs0⟩ := hs
          subst hs
          cases e
          obtain ⟨rfl, rfl, rfl⟩ := bounds_eq h1 h2 h3 hb
          cases hx with
          | flat h => simp [flat] at h
          | hid hL hl hc hm' g1 g2 =>
            rename_i cap' L
            have hb' := bounds_cap hc hb
            obtain ⟨k1, k2, k3⟩ := bounds_le hl hb
            have k3 := k3 rfl
            subst k3
            refine ⟨_, run _ _ _ hb', ?_⟩
            by_cases hm : cap' = l
            · simp only [hm, if_true]
              obtain rfl : m = l := by omega
              obtain rfl : h = m := by omega
              rw [Nat.sub_self]
              exact .hemp hL
            · simp only [hm, if_false, Option.map_some, Addr.add_lit]
              have e1 : off + l * s + (m - l) * s = off + m * s := by
                rw [Nat.add_assoc, ← Nat.add_mul]; congr 2; omega
              have e2 : off + l * s + (cap' - l) * s = off + cap' * s := by
                rw [Nat.add_assoc, ← Nat.add_mul]; congr 2; omega
              have := VRel.hid (off := off + l * s) (len := h - l) (cap := m - l) (cap' := cap' - l) (s := s) hL (by omega) (by omega) (by unfold maxLen at hm' ⊢; omega) (by omega) (by omega)
              rw [← Nat.add_assoc] at this
              exact this
          | hemp hL =>
            rename_i O L
            obtain ⟨k1, k2, k3⟩ := bounds_le (Nat.le_refl _) hb
            have k3 := k3 rfl
            subst k3
            obtain rfl : h = 0 := by omega
            obtain rfl : l = 0 := by omega
            refine ⟨_, run _ _ _ hb, ?_⟩
            simp only [if_true]
            exact .hemp hL
          | zer => exact absurd rfl hs0
        · cases e
      · cases e
  · exact absurd rfl (hstr _)
  · cases e

theorem sliceArr_sound {n size : Nat} {x x' r : Value} {lo hi mx lo' hi' mx' : Option Value} (hx : VRel μ x x') (h1 : ORel μ lo lo') (h2 : ORel μ hi hi') (h3 : ORel μ mx mx')
    (e : sliceArr n size x lo hi mx = some r) :
    ∃ a l h m, x' = .pointer (some a) ∧ lo' = lo ∧ hi' = hi ∧ mx' = mx ∧ boundsA n n lo hi mx = some (l, h, m) ∧ VRel μ r (.slice (some (if m = l then a else a.add (l * size))) (h - l) (m - l)) := by
  unfold sliceArr at e
  split at e
  · rename_i b off
    split at e
    · rename_i l h m hb
      cases e
      obtain ⟨e1, e2, e3⟩ := bounds_eq h1 h2 h3 hb
      obtain ⟨L, hL, rfl⟩ := addrOf_rel hx
      refine ⟨_, l, h, m, rfl, e1, e2, e3, hb, ?_⟩
      by_cases hm : m = l
      · simp only [hm, if_true]; exact .slice hL
      · simp only [hm, if_false, Addr.add_lit]
        have := VRel.slice (off := off + l * size) (len := h - l) (cap := m - l) hL
        rw [← Nat.add_assoc] at this
        exact this
    · cases e
  · cases e

theorem slice_sound {t : TypeId} {x x' r : Value} {lo hi mx lo' hi' mx' : Option Value} (hx : VRel μ x x') (h1 : ORel μ lo lo') (h2 : ORel μ hi hi') (h3 : ORel μ mx mx') (e : sliceA P t x lo hi mx = some r) :
    ∃ r', (Instr.sliceAt t x' lo' hi' mx').run P w = .ok r' w ∧ VRel μ r r' := by
  unfold sliceA at e
  split at e
  · rename_i n el hu
    simp only [Option.bind_eq_some_iff] at e
    obtain ⟨z, hz, e⟩ := e
    obtain ⟨a, l, h, m, rfl, rfl, rfl, rfl, hb, hv⟩ := sliceArr_sound hx h1 h2 h3 e
    exact ⟨_, by simp [Instr.sliceAt, run_underlying hu, Instr.sureAddr, run_bounds (P := P) (w := w) hb, run_sizeT w hz], hv⟩
  · rename_i arr hu
    split at e
    · rename_i n el ha
      simp only [Option.bind_eq_some_iff] at e
      obtain ⟨z, hz, e⟩ := e
      obtain ⟨a, l, h, m, rfl, rfl, rfl, rfl, hb, hv⟩ := sliceArr_sound hx h1 h2 h3 e
      exact ⟨_, by simp [Instr.sliceAt, Instr.slice, run_underlying hu, run_underlying ha, asAddr, run_bounds (P := P) (w := w) hb, run_sizeT w hz], hv⟩
    · cases e
  · rename_i el hu
    split at e
    · cases e
    · rename_i hns
      simp only [Option.bind_eq_some_iff] at e
      obtain ⟨z, hz, e⟩ := e
      obtain ⟨r', hrun, hv⟩ := sliceSl_sound (P := P) (w := w) hu hz hx h1 h2 h3 (fun s h => hns s h) e
      exact ⟨r', by simpa [Instr.sliceAt, run_underlying hu] using hrun, hv⟩
  · rename_i hu
    split at e
    · rename_i sb
      unfold sliceSl at e
      simp only at e
      split at e
      · cases e
      · split at e
        · rename_i l h m hb
          cases e
          obtain ⟨rfl, rfl, rfl⟩ := bounds_eq h1 h2 h3 hb
          rw [hx.flat_eq rfl]
          exact ⟨_, by simp [Instr.sliceAt, Instr.slice, run_underlying hu, run_bounds (P := P) (w := w) hb], .flat rfl⟩
        · cases e
    · cases e
  · cases e

theorem addP_rel {v v' r : Value} {n : Nat} (hv : VRel μ v v') (e : addP v n = some r) : ∃ a, v' = .pointer (some a) ∧ VRel μ r (.pointer (some (a.add n))) := by
  unfold addP at e
  split at e
  · rename_i b off
    cases e
    obtain ⟨L, hL, rfl⟩ := addrOf_rel hv
    refine ⟨_, rfl, ?_⟩
    rw [Addr.add_lit]
    have := VRel.ptr (off := off + n) hL
    rw [← Nat.add_assoc] at this
    exact this
  · cases e

theorem fieldAt_sound {t : TypeId} {x x' r : Value} {i : Nat} (hx : VRel μ x x') (e : fieldAtA P t x i = some r) : ∃ r', (Instr.fieldAt t x' i).run P w = .ok r' w ∧ VRel μ r r' := by
  unfold fieldAtA at e
  split at e
  · rename_i fs hu
    split at e
    · rename_i f hf
      split at e
      · rename_i n hn
        split at e
        · cases e
        · rename_i h0
          obtain ⟨a, rfl, hv⟩ := addP_rel hx e
          refine ⟨_, ?_, hv⟩
          simp [Instr.fieldAt, run_underlying hu, hf, Instr.sureAddr, fieldPlace, run_sizeT w hn, h0]
      · cases e
    · cases e
  · cases e

theorem indexAt_sound {t : TypeId} {x x' ix ix' r : Value} (hx : VRel μ x x') (hi : VRel μ ix ix') (e : indexAtA P t x ix = some r) : ∃ r', (Instr.indexAt t x' ix').run P w = .ok r' w ∧ VRel μ r r' := by
  unfold indexAtA at e
  split at e
  · rename_i n el hu
    simp only [Option.bind_eq_some_iff] at e
    obtain ⟨z, hz, e⟩ := e
    unfold idxA at e
    split at e
    · rename_i k i
      rw [hi.int]
      split at e
      · rename_i hc
        obtain ⟨a, rfl, hv⟩ := addP_rel hx e
        refine ⟨_, ?_, hv⟩
        simp [Instr.indexAt, asIntOf, run_underlying hu, Instr.sureAddr, hc, run_sizeT w hz]
      · cases e
    · cases e
  · rename_i el hu
    simp only [Option.bind_eq_some_iff] at e
    obtain ⟨z, hz, e⟩ := e
    unfold idxS at e
    split at e
    · rename_i b off sp len cap k i
      rw [hi.int]
      split at e
      · rename_i hc
        cases e
        have main : ∀ (L : Loc) (c' : Nat), μ b = some L → x' = .slice (some ⟨L.blk, L.off + off, none⟩) len c' → ∃ r', (Instr.indexAt t x' (.int k i)).run P w = .ok r' w ∧ VRel μ (ptr b (off + i.toNat * z)) r' := by
          rintro L c' hL rfl
          refine ⟨.pointer (some ⟨L.blk, L.off + off + i.toNat * z, none⟩), ?_, ?_⟩
          · simp [Instr.indexAt, asIntOf, run_underlying hu, hc, run_sizeT w hz, Addr.add_lit]
          · have := VRel.ptr (off := off + i.toNat * z) hL
            rw [← Nat.add_assoc] at this
            exact this
        cases hx with
        | flat h => simp [flat] at h
        | slice h => exact main _ _ h rfl
        | hid h => exact main _ _ h rfl
        | hemp h => simp at hc; omega
        | zer => simp at hc; omega
      · cases e
    · cases e
  · cases e

theorem part_sound {t : TypeId} {cs cs' : Array Value} {off : Nat} {r : Value} (hc : LRel μ cs.toList cs'.toList) (e : partA P t cs off = some r) : ∃ r', (part t cs' off).run P w = .ok r' w ∧ VRel μ r r' := by
  unfold partA at e
  split at e
  · rename_i n ha hs
    cases e
    refine ⟨.agg (cs'.extract off (off + n)), by simp [part, run_aggT w ha, run_sizeT w hs], ?_⟩
    have := (hc.drop off).take n
    have e1 : cs.extract off (off + n) = ((cs.toList.drop off).take n).toArray := by
      apply Array.ext'; simp
    have e2 : cs'.extract off (off + n) = ((cs'.toList.drop off).take n).toArray := by
      apply Array.ext'; simp
    rw [e1, e2]
    exact .of_list_agg this
  · rename_i n ha hs
    obtain ⟨y, hy, hv⟩ := hc.get (i := off) (by simpa using e)
    refine ⟨y, ?_, hv⟩
    have hy' : cs'[off]? = some y := by simpa using hy
    simp [part, run_aggT w ha, hy']
  · cases e

theorem field_sound {t : TypeId} {x x' r : Value} {i : Nat} (hx : VRel μ x x') (e : fieldA P t x i = some r) : ∃ r', (Instr.field t x' i).run P w = .ok r' w ∧ VRel μ r r' := by
  unfold fieldA at e
  split at e
  · rename_i fs cs hu
    split at e
    · rename_i f hf
      obtain ⟨ys, rfl, hl⟩ := hx.agg_iff
      obtain ⟨r', hrun, hv⟩ := part_sound (P := P) (w := w) hl e
      exact ⟨r', by simp [Instr.field, run_underlying hu, hf, asAgg, hrun], hv⟩
    · cases e
  · cases e

theorem index_sound {t : TypeId} {x x' ix ix' r : Value} (hx : VRel μ x x') (hi : VRel μ ix ix') (e : indexA P t x ix = some r) : ∃ r', (Instr.index t x' ix').run P w = .ok r' w ∧ VRel μ r r' := by
  unfold indexA at e
  split at e
  · rename_i n el cs k i hu
    split at e
    · rename_i hc
      simp only [Option.bind_eq_some_iff] at e
      obtain ⟨z, hz, e⟩ := e
      obtain ⟨ys, rfl, hl⟩ := hx.agg_iff
      rw [hi.int]
      obtain ⟨r', hrun, hv⟩ := part_sound (P := P) (w := w) hl e
      exact ⟨r', by simp [Instr.index, asIntOf, run_underlying hu, hc, run_sizeT w hz, hrun], hv⟩
    · cases e
  · rename_i s k i hu
    split at e
    · rename_i hc
      simp only [Option.map_eq_some_iff] at e
      obtain ⟨b, hb, rfl⟩ := e
      rw [hi.int, hx.flat_eq rfl]
      exact ⟨_, by simp [Instr.index, asIntOf, run_underlying hu, hc, hb], .flat rfl⟩
    · cases e
  · cases e

theorem extract_sound {x x' r : Value} {i : Nat} (hx : VRel μ x x') (e : extractA x i = some r) : ∃ r', (Instr.extract x' i).run P w = .ok r' w ∧ VRel μ r r' := by
  unfold extractA at e
  split at e
  · rename_i vs
    obtain ⟨ys, rfl, hl⟩ := hx.tuple_iff
    obtain ⟨y, hy, hv⟩ := hl.get (i := i) (by simpa using e)
    have hy' : ys[i]? = some y := by simpa using hy
    exact ⟨y, by simp [Instr.extract, hy'], hv⟩
  · cases e

end ops
end Go.Abs

namespace Go.Abs

section ops
variable {P : Program} {μ : Mu} {h : Heap} {w : World}

theorem firstA_any {size n : Nat} {x x' : Value} {cs : List Value} (s : Sim μ h w) (hx : VRel μ x x') (e : firstA size n x h = some cs) (hn : ∀ m, lenA x = some m → n ≤ m) (P : Program) :
    ∃ cs', (∀ w', w'.heap = w.heap → (Builtin.firstCells size n x').run P w' = .ok cs'.toArray w') ∧ LRel μ cs cs' := by
  cases x with
  | slice a len cap =>
    obtain ⟨cs', h1, h2, _⟩ := firstA_slice s hx e (hn len rfl) P
    exact ⟨cs', h1, h2⟩
  | string sb =>
    rw [hx.flat_eq rfl]
    simp only [firstA, Option.some.injEq] at e
    subst e
    refine ⟨(sb.extract 0 n).data.toList.map fun b => .int .u8 b.toNat, ?_, LRel.of_flat (by rw [flatAll, List.all_eq_true]; intro x hx; obtain ⟨b, _, rfl⟩ := List.mem_map.1 hx; rfl)⟩
    intro w' _
    simp only [Builtin.firstCells, Sem.run_pure]
    congr 1
    apply Array.ext'
    simp
  | _ => simp [firstA] at e

theorem run_lenOf {x x' : Value} {m : Nat} (hx : VRel μ x x') (e : lenA x = some m) : (Builtin.lenOf x').run P w = .ok m w := by
  cases x with
  | slice a len cap =>
    obtain ⟨a', c', rfl, _⟩ := hx.nilslice
    simp only [lenA, Option.some.injEq] at e
    subst e
    simp [Builtin.lenOf]
  | string sb =>
    rw [hx.flat_eq rfl]
    simp only [lenA, Option.some.injEq] at e
    subst e
    simp [Builtin.lenOf]
  | _ => simp [lenA] at e

/-- append, where there is room. -/
theorem run_append_in {t tx ty el : TypeId} {i : TypeInfo} {d : TypeDesc} (hu : P.underlying t = some (.slice el)) (hx : P.underlying tx = some d) (hd : isIntT d = false)
    (hi : P.info? el = some i) {base : Option Addr} {len cap m : Nat} {x : Value} (hm : (Builtin.lenOf x).run P w = .ok m w) (hc : len + m ≤ cap)
    {new : List Value} {w' : World} (hf : (Builtin.firstCells i.size m x).run P w = .ok new.toArray w)
    (hs : ∀ a, base = some a → (storeCells (a.add (len * i.size)) new).run P w = .ok () w') (hn : base = none → w' = w) :
    (Builtin.append_ #[t, tx] ty #[.slice base len cap, x]).run P w = .ok (.slice base (len + m) cap) w' := by
  have hz' : (match (generalizing := false) d with | .int _ => true | _ => false) = false := by cases d <;> first | rfl | (simp [isIntT] at hd; done)
  have e0 : (#[t, tx] : Array TypeId)[0]? = some t := rfl
  have e1 : (#[t, tx] : Array TypeId)[1]? = some tx := rfl
  have e2 : (#[.slice base len cap, x] : Array Value)[0]? = some (.slice base len cap) := rfl
  have e3 : (#[.slice base len cap, x] : Array Value)[1]? = some x := rfl
  unfold Builtin.append_
  simp only [e0, e1, e2, e3, Sem.run_bind, run_underlying hu, run_underlying hx, Result.andThen_ok, sizeOf, run_typeInfo w hi, Sem.run_pure, hz', Bool.false_eq_true, if_false, hm, Bool.not_false, if_true]
  split
  · exact absurd hd (by simp [isIntT])
  · simp only [Bool.false_eq_true, if_false, Sem.run_bind, hm, Result.andThen_ok, Bool.not_false, if_true, false_or, Sem.run_pure, hc, hf]
    cases base with
    | none => simp [hn rfl]
    | some a => simp [hs a rfl]

/-- append, where there is none. -/
theorem run_append_out {t tx ty el : TypeId} {i : TypeInfo} {d : TypeDesc} (hu : P.underlying t = some (.slice el)) (hx : P.underlying tx = some d) (hd : isIntT d = false)
    (hi : P.info? el = some i) {base : Option Addr} {len cap m : Nat} {x : Value} (hm : (Builtin.lenOf x).run P w = .ok m w) (hc : ¬ len + m ≤ cap)
    {z : Value} {olds news : List Value} (hz : zeroT P el = some z)
    (hfo : (Builtin.firstCells i.size len (.slice base len cap)).run P w.drew = .ok olds.toArray w.drew)
    (hfn : (Builtin.firstCells i.size m x).run P w.drew = .ok news.toArray w.drew)
    (h63 : len + m ≤ 4611686018427387904) (hfit : Builtin.nextslicecap (len + m) cap * i.bytes ≤ 281474976710656) :
    (Builtin.append_ #[t, tx] ty #[.slice base len cap, x]).run P w =
      .ok (.slice (some ⟨w.heap.size, 0, none⟩) (len + m) (grownCap w (len + m) cap el))
        { w.drew with heap := w.heap.push (.cells ((olds ++ news ++ (Builtin.zeroCells z.cells (grownCap w (len + m) cap el - (len + m))).toList).toArray) el (0, 0)) } := by
  have hmax : IntKind.i64.max = 9223372036854775807 := by decide
  have h1 : ¬ (((len + m : Nat) : Int) > IntKind.i64.max ∧ i.bytes = 0) := by rw [hmax]; omega
  have h2 : ¬ (Builtin.nextslicecap (len + m) cap * i.bytes > 2 ^ 48) := by
    have : (2 : Nat) ^ 48 = 281474976710656 := by decide
    omega
  have hz' : (match (generalizing := false) d with | .int _ => true | _ => false) = false := by cases d <;> first | rfl | (simp [isIntT] at hd; done)
  have e0 : (#[t, tx] : Array TypeId)[0]? = some t := rfl
  have e1 : (#[t, tx] : Array TypeId)[1]? = some tx := rfl
  have e2 : (#[.slice base len cap, x] : Array Value)[0]? = some (.slice base len cap) := rfl
  have e3 : (#[.slice base len cap, x] : Array Value)[1]? = some x := rfl
  unfold Builtin.append_
  simp only [e0, e1, e2, e3, Sem.run_bind, run_underlying hu, run_underlying hx, Result.andThen_ok, sizeOf, run_typeInfo w hi, Sem.run_pure, hz', Bool.false_eq_true, if_false, hm, Bool.not_false, if_true]
  split
  · exact absurd hd (by simp [isIntT])
  · simp only [Bool.false_eq_true, if_false, Sem.run_bind, hm, Result.andThen_ok, Bool.not_false, if_true, false_or, Sem.run_pure, hc, run_typeInfo w hi]
    rw [if_neg h1]
    simp only [Sem.run_bind, run_typeInfo w hi, Result.andThen_ok]
    rw [if_neg h2]
    simp only [Sem.run_bind, Sem.run_pure, Result.andThen_ok, run_choose, Question.forced, Bool.false_eq_true, if_false, run_askRoom]
    have hdr : ({ w with drawn := w.drawn + 1 } : World) = w.drew := rfl
    rw [hdr]
    simp only [run_typeInfo w.drew hi, Result.andThen_ok, run_askRoom]
    rw [hfo]
    simp only [Result.andThen_ok]
    rw [hfn]
    simp only [Result.andThen_ok, run_zeroT w.drew hz, Go.newRow, Sem.run_bind, run_newObj, Sem.run_pure, grownCap]
    have : olds.toArray ++ news.toArray ++ Builtin.zeroCells z.cells ((Question.appendCap (len + m) cap el).cut (w.tape w.drawn (Question.appendCap (len + m) cap el)) - (len + m)) =
        (olds ++ news ++ (Builtin.zeroCells z.cells ((Question.appendCap (len + m) cap el).cut (w.tape w.drawn (Question.appendCap (len + m) cap el)) - (len + m))).toList).toArray := by
      apply Array.ext'; simp
    rw [this]
    rfl

/-- The new row that an append makes. -/
theorem grow_sound {z : Value} {size c : Nat} {el : TypeId} {olds news olds' news' : List Value} {n : Nat} (s : Sim μ h w) (hf : Free μ h (h.alloc (olds ++ news))) (ho : LRel μ olds olds') (hn : LRel μ news news')
    (hzs : z.cells.size = size) (hpos : 0 < size) (hlen : olds.length + news.length = n * size) (hc : n ≤ c) (hcm : c ≤ maxLen) :
    ∃ μ' w', w' = { w.drew with heap := w.heap.push (.cells ((olds' ++ news' ++ (Builtin.zeroCells z.cells (c - n)).toList).toArray) el (0, 0)) } ∧
      Sim μ' (h.alloc (olds ++ news)) w' ∧ Step μ h w μ' (h.alloc (olds ++ news)) w' ∧ VRel μ' (.slice (some ⟨h.next, 0, some size⟩) n n) (.slice (some ⟨w.heap.size, 0, none⟩) n c) := by
  have hl := ho.1
  have hl' := hn.1
  have hzc : (Builtin.zeroCells z.cells (c - n)).size = (c - n) * size := by rw [size_zeroCells, hzs]
  have hsz : ((olds' ++ news' ++ (Builtin.zeroCells z.cells (c - n)).toList).toArray).size = c * size := by
    simp only [List.size_toArray, List.length_append, Array.length_toList, hzc, ← hl, ← hl', hlen, ← Nat.add_mul]
    congr 1; omega
  have hnc : n * size ≤ c * size := Nat.mul_le_mul_right _ hc
  obtain ⟨hS, hSt⟩ := s.alloc (k := olds ++ news) hf (arr := (olds' ++ news' ++ (Builtin.zeroCells z.cells (c - n)).toList).toArray) (T := el) (fr := (0, 0)) (.inl rfl)
    (by rw [hsz, List.length_append, hlen]; exact hnc)
    (by
      have : (olds ++ news).length = (olds' ++ news').length := by simp [hl, hl']
      rw [this, List.take_left]; exact ho.append hn)
    (w1 := { w.drew with heap := w.heap.push (.cells ((olds' ++ news' ++ (Builtin.zeroCells z.cells (c - n)).toList).toArray) el (0, 0)) }) rfl rfl rfl rfl
  refine ⟨_, _, rfl, hS, hSt, ?_⟩
  have := VRel.hid (b := h.next) (off := 0) (len := n) (cap := n) (cap' := c) (s := size) (Mu.put_same μ h.next ⟨w.heap.size, 0, ((olds' ++ news' ++ (Builtin.zeroCells z.cells (c - n)).toList).toArray).size, (olds ++ news).length⟩) (Nat.le_refl _) hc hcm
    (by simp only [List.length_append, hlen, Nat.zero_add]) (by simp only [hsz]; omega)
  simpa using this

/-- A slice grows within the room that its block has behind the cells that are known. -/
theorem Sim.regrow {b off n1 : Nat} {k : Blk} {L : Loc} {news news' : List Value} (s : Sim μ h w) (hb : h.n0 ≤ b) (hg : h.get b = some k) (hL : μ b = some L) (h1 : off + n1 ≤ k.length)
    (hx : LRel μ news news') (hone : oneCells news = true) (hext : L.off + off + n1 + news.length ≤ L.ext) (hf : Free μ h ((h.kill b).alloc ((k.drop off).take n1 ++ news))) :
    ∃ μ' w', (Go.storeCells ⟨L.blk, L.off + off + n1, none⟩ news').run P w = .ok () w' ∧ Sim μ' ((h.kill b).alloc ((k.drop off).take n1 ++ news)) w' ∧ Step μ h w μ' ((h.kill b).alloc ((k.drop off).take n1 ++ news)) w' ∧
      μ' h.next = some ⟨L.blk, L.off + off, L.ext, n1 + news.length⟩ := by
  obtain ⟨L', arr, T, fr, e1, e2, e4, e5, e6, e7, e8, e9⟩ := s.new b k hb hg
  rw [hL] at e1; cases e1
  have hal : arr.toList.length = arr.size := Array.length_toList
  have hlt := h.lt_of_get hg
  have hnl : news'.length = news.length := hx.1.symm
  have hnone : μ h.next = none := hf _ (Nat.le_refl _) (by simp)
  have hm := Mu.put_mono (L := ⟨L.blk, L.off + off, L.ext, n1 + news.length⟩) hnone
  have hget : ∀ c kc, ((h.kill b).alloc ((k.drop off).take n1 ++ news)).get c = some kc → (c = h.next ∧ kc = (k.drop off).take n1 ++ news) ∨ (c ≠ h.next ∧ c ≠ b ∧ h.get c = some kc) := by
    intro c kc hc
    rw [Heap.get_alloc, Heap.next_kill] at hc
    by_cases ec : c = h.next
    · rw [if_pos ec] at hc; cases hc; exact .inl ⟨ec, rfl⟩
    · rw [if_neg ec] at hc
      unfold Heap.kill at hc
      rw [h.get_put hb hlt] at hc
      by_cases eb : c = b
      · rw [if_pos eb] at hc; cases hc
      · rw [if_neg eb] at hc; exact .inr ⟨ec, eb, hc⟩
  have hB : (w.setRow L.blk (splice arr.toList (L.off + off + n1) news').toArray).heap[L.blk]? = some (.cells (splice arr.toList (L.off + off + n1) news').toArray T fr) := setRow_heap w L.blk arr _ T fr e4
  have hsz : ((splice arr.toList (L.off + off + n1) news').toArray).size = arr.size := by
    rw [List.size_toArray, length_splice (by omega), hal]
  refine ⟨μ.put h.next ⟨L.blk, L.off + off, L.ext, n1 + news.length⟩, w.setRow L.blk (splice arr.toList (L.off + off + n1) news').toArray, ?_, ⟨?_, ?_, ?_, ?_, fun b hb => let ⟨L, h1, h2⟩ := s.low b hb; ⟨L, hm _ _ h1, h2⟩⟩, ⟨?_, rfl, rfl, by simp, rfl, rfl, rfl, by simp [World.setRow], ?_, ?_⟩, Mu.put_same _ _ _⟩
  · have := run_storeCells_any P L.blk (L.off + off + n1) T fr news' 0 arr w e4 e7 (by omega) (hx.oneCells hone)
    simpa using this
  · intro c cs hc hcs
    obtain ⟨L2, a2, T2, f2, g1, g2, g3, g4, g5⟩ := s.old c cs (by simpa using hc) hcs
    refine ⟨L2, a2, T2, f2, hm _ _ g1, g2, g3, ?_, g5.mono hm⟩
    rw [setRow_other _ _ _ _ (by simp at hc; omega)]; exact g4
  · intro c kc hc hgc
    rcases hget c kc hgc with ⟨rfl, rfl⟩ | ⟨n1', n2', hgc'⟩
    · refine ⟨_, _, T, fr, Mu.put_same _ _ _, ?_, hB, hsz.trans e5, ?_, by rw [hsz]; exact e7, by simpa using e8, ?_⟩
      · simp only [List.length_append, List.length_take, List.length_drop]; omega
      · simp only; omega
      · simp only
        have hr := (e9.drop off).take n1
        rw [List.drop_take, List.drop_drop, List.take_take, show min n1 (L.len - off) = n1 from by omega] at hr
        have : ((splice arr.toList (L.off + off + n1) news').drop (L.off + off)).take (n1 + news.length) = (arr.toList.drop (L.off + off)).take n1 ++ news' := by
          unfold splice
          have e1 : (arr.toList.take (L.off + off + n1)).drop (L.off + off) = (arr.toList.drop (L.off + off)).take n1 := by rw [List.drop_take]; congr 1; omega
          rw [List.append_assoc, List.drop_append_of_le_length (by simp; omega), e1, ← List.append_assoc]
          exact List.take_left' (by simp; omega)
        rw [this]
        exact (hr.append hx).mono hm
    · obtain ⟨L2, a2, T2, f2, g1, g2, g4, g5, g6, g7, g8, g9⟩ := s.new c kc hc hgc'
      refine ⟨L2, a2, T2, f2, hm _ _ g1, g2, ?_, g5, g6, g7, g8, g9.mono hm⟩
      rw [setRow_other _ _ _ _ (s.inj c b kc k L2 L hc hb n2' hgc' hg g1 hL)]; exact g4
  · intro c c' kc kc' Lc Lc' hc hc' hne hgc hgc' h2 h3
    rcases hget c kc hgc with ⟨rfl, rfl⟩ | ⟨n1', n2', g1⟩
    · rw [Mu.put_same] at h2; cases h2
      rcases hget c' kc' hgc' with ⟨rfl, rfl⟩ | ⟨m1, m2, g2⟩
      · exact absurd rfl hne
      · rw [Mu.put_other _ _ m1] at h3
        exact s.inj b c' k kc' L Lc' hb hc' (Ne.symm m2) hg g2 hL h3
    · rw [Mu.put_other _ _ n1'] at h2
      rcases hget c' kc' hgc' with ⟨rfl, rfl⟩ | ⟨m1, m2, g2⟩
      · rw [Mu.put_same] at h3; cases h3
        exact s.inj c b kc k Lc L hc hb n2' g1 hg h2 hL
      · rw [Mu.put_other _ _ m1] at h3
        exact s.inj c c' kc kc' Lc Lc' hc hc' hne g1 g2 h2 h3
  · simpa [World.setRow] using s.size
  · intro c hc
    rw [Mu.put_other _ _ (by simp at hc; omega)]
  · intro B hB' hO
    exact setRow_other _ _ _ _ (fun e => hO ⟨b, k, L, hb, hg, hL, e.symm⟩)
  · rintro B ⟨c, kc, Lc, hc, hgc, h2, rfl⟩
    rcases hget c kc hgc with ⟨rfl, rfl⟩ | ⟨n1', n2', g1⟩
    · rw [Mu.put_same] at h2; cases h2; exact .inl ⟨b, k, L, hb, hg, hL, rfl⟩
    · rw [Mu.put_other _ _ n1'] at h2; exact .inl ⟨c, kc, Lc, hc, g1, h2, rfl⟩

theorem append_sound {t tx ty el : TypeId} {d : TypeDesc} {size by_ : Nat} {z s s' x x' r : Value} {h' : Heap} (hu : P.underlying t = some (.slice el)) (htx : P.underlying tx = some d) (hd : isIntT d = false)
    (hsz : sizeT P el = some size) (hby : bytesT P el = some by_) (hz : zeroT P el = some z) (hzs : z.cells.size = size) (hpos : 0 < size)
    (S : Sim μ h w) (hf : Free μ h h') (hs : VRel μ s s') (hx : VRel μ x x') (e : appendA size by_ s x h = some (r, h')) :
    ∃ μ' r' w', (Builtin.append_ #[t, tx] ty #[s', x']).run P w = .ok r' w' ∧ Sim μ' h' w' ∧ Step μ h w μ' h' w' ∧ VRel μ' r r' := by
  obtain ⟨i, hi, hin⟩ := info_of_sizeT hsz
  have hib : i.bytes = by_ := by simp only [bytesT, hi, Option.map_some, Option.some.injEq] at hby; exact hby
  subst hin hib
  unfold appendA at e
  split at e
  · rename_i base len cap m hm
    have hlen := run_lenOf (P := P) (w := w) hx hm
    split at e
    · cases e
    · rename_i news hnews
      split at e
      · cases e
      · rename_i hcond
        simp only [Bool.or_eq_true, Bool.not_eq_true', decide_eq_true_eq, not_or, Bool.not_eq_false, decide_eq_false_iff_not, Decidable.not_not, ne_eq] at hcond
        obtain ⟨⟨⟨hone, hbytes⟩, h62⟩, hnl⟩ := hcond
        have hle : ∀ m', lenA x = some m' → m ≤ m' := by intro m' h; rw [hm] at h; cases h; exact Nat.le_refl _
        obtain ⟨news', hrn, hrel⟩ := firstA_any S hx hnews hle P
        -- the place of what is written, and the slice that comes back
        have place : ∀ {b off : Nat} {h1 : Heap} {L : Loc} {c' : Nat}, μ b = some L → stL b (off + len * i.size) news h = some h1 → s' = .slice (some ⟨L.blk, L.off + off, none⟩) len c' → len + m ≤ c' →
            ∃ w', (Builtin.append_ #[t, tx] ty #[s', x']).run P w = .ok (.slice (some ⟨L.blk, L.off + off, none⟩) (len + m) c') w' ∧ Sim μ h1 w' ∧ Step μ h w μ h1 w' := by
          intro b off h1 L c' hL hst hs' hc
          subst hs'
          obtain ⟨L', w', hL', hrun, hS, hSt⟩ := stL_sound (P := P) S hrel hst
          rw [hL] at hL'; cases hL'
          refine ⟨w', run_append_in hu htx hd hi hlen hc (hrn w rfl) ?_ (by intro h; cases h), hS, hSt⟩
          intro a ha
          cases ha
          rw [Addr.add_lit, Nat.add_assoc]; exact hrun
        have grow : ∀ {olds olds' : List Value} {h1 : Heap} {base' : Option Addr} {c' : Nat}, Sim μ h1 w → Free μ h1 (h1.alloc (olds ++ news)) → olds.length = len * i.size → LRel μ olds olds' →
            (∀ w', w'.heap = w.heap → (Builtin.firstCells i.size len (.slice base' len c')).run P w' = .ok olds'.toArray w') → s' = .slice base' len c' → ¬ len + m ≤ c' →
            ∃ μ' r' w', (Builtin.append_ #[t, tx] ty #[s', x']).run P w = .ok r' w' ∧ Sim μ' (h1.alloc (olds ++ news)) w' ∧ Step μ h1 w μ' (h1.alloc (olds ++ news)) w' ∧
              VRel μ' (.slice (some ⟨h1.next, 0, some i.size⟩) (len + m) (len + m)) r' := by
          intro olds olds' h1 base' c' S1 hf1 hol horel hro hs' hc
          subst hs'
          have hfit : Builtin.nextslicecap (len + m) c' * i.bytes ≤ 281474976710656 := growslice_fits (by omega) hbytes
          have hrun := run_append_out (ty := ty) hu htx hd hi hlen hc hz (hro w.drew rfl) (hrn w.drew rfl) h62 hfit
          obtain ⟨μ', w', hw', hS, hSt, hv⟩ := grow_sound (z := z) (size := i.size) (c := grownCap w (len + m) c' el) (el := el) (n := len + m) S1 hf1 horel hrel hzs hpos
            (by rw [hol, hnl, Nat.add_mul]) (grownCap_ge w (len + m) c' el) (grownCap_le_maxLen w (len + m) c' el (by unfold maxLen; omega))
          exact ⟨μ', _, w', by rw [hrun, hw'], hS, hSt, hv⟩
        split at e
        · rename_i hroom
          split at e
          · rename_i hm0
            subst hm0
            cases e
            have hn0 : news' = [] := by
              have := hrel.1
              simp only [hnl, Nat.zero_mul] at this
              exact List.eq_nil_of_length_eq_zero this.symm
            subst hn0
            have fin : ∀ (b' : Option Addr) (c' : Nat), s' = .slice b' len c' → cap ≤ c' → ∃ μ' r' w', (Builtin.append_ #[t, tx] ty #[s', x']).run P w = .ok r' w' ∧ Sim μ' h w' ∧ Step μ h w μ' h w' ∧ VRel μ' (.slice base len cap) r' := by
              rintro b' c' rfl hc
              refine ⟨μ, .slice b' (len + 0) c', w, run_append_in hu htx hd hi hlen (by omega) (hrn w rfl) (fun a _ => rfl) (fun _ => rfl), S, .same_world, hs⟩
            cases hs with
            | flat h => exact fin _ _ rfl (Nat.le_refl _)
            | slice h => exact fin _ _ rfl (Nat.le_refl _)
            | hid h _ hc => exact fin _ _ rfl hc
            | hemp h => exact fin _ _ rfl (Nat.le_refl _)
            | zer => exact fin _ _ rfl (Nat.le_refl _)
          · rename_i hm0
            split at e
            · rename_i b off sp
              simp only [Option.map_eq_some_iff, Prod.mk.injEq] at e
              obtain ⟨h1, hst, rfl, rfl⟩ := e
              cases hs with
              | flat h => simp [flat] at h
              | slice hL =>
                obtain ⟨w', hrun, hS, hSt⟩ := place hL hst rfl hroom
                exact ⟨μ, _, w', hrun, hS, hSt, .slice hL⟩
              | hid hL hl hc hmx g1 g2 =>
                obtain ⟨w', hrun, hS, hSt⟩ := place hL hst rfl (by omega)
                exact ⟨μ, _, w', hrun, hS, hSt, .hid hL hroom hc hmx g1 g2⟩
              | hemp hL => omega
              | zer => omega
            · cases e
        · rename_i hroom
          split at e
          · split at e
            · rename_i h0
              subst h0
              simp only [Option.some.injEq, Prod.mk.injEq] at e
              obtain ⟨rfl, rfl⟩ := e
              have hs' := hs.flat_eq rfl
              have := grow (olds := []) (olds' := []) (h1 := h) S (by simpa using hf) (by simp) (LRel.nil μ) (by intro w' _; simp [Builtin.firstCells]) hs' hroom
              simpa using this
            · cases e
          · rename_i b off sp
            split at e
            · cases e
            · rename_i olds holds
              split at e
              · cases e
              · rename_i hol
                have hol' : olds.length = len * i.size := Decidable.not_not.1 hol
                obtain ⟨olds', hro, horel⟩ := firstA_any S hs holds (by intro m' h; cases h; exact Nat.le_refl _) P
                split at e
                · simp only [Option.some.injEq, Prod.mk.injEq] at e
                  obtain ⟨rfl, rfl⟩ := e
                  cases hs with
                  | flat h => simp [flat] at h
                  | slice hL => exact grow S hf hol' horel hro rfl hroom
                · rename_i zz
                  split at e
                  · rename_i hc
                    simp only [Bool.and_eq_true, decide_eq_true_eq] at hc
                    obtain ⟨⟨rfl, hb⟩, hlive⟩ := hc
                    obtain ⟨k, hk⟩ := Option.isSome_iff_exists.1 hlive
                    simp only [Option.some.injEq, Prod.mk.injEq] at e
                    obtain ⟨rfl, rfl⟩ := e
                    obtain ⟨S1, St1⟩ := S.kill hb (h.lt_of_get hk)
                    have hf1 : Free μ (h.kill b) ((h.kill b).alloc (olds ++ news)) := hf
                    generalize hq : i.size = q at hs
                    cases hs with
                    | flat h => simp [flat] at h
                    | zer => omega
                    | hid hL hl hc hmx g1 g2 =>
                      rename_i cap' L
                      subst hq
                      by_cases hin : len + m ≤ cap'
                      · have hkl : L.len = k.length := by
                          obtain ⟨L', arr, T, fr, e1, e2, _⟩ := S.new b k hb hk
                          rw [hL] at e1; cases e1; exact e2
                        have hls : len * i.size ≤ cap * i.size := Nat.mul_le_mul_right _ hl
                        have hms : (len + m) * i.size ≤ cap' * i.size := Nat.mul_le_mul_right _ hin
                        have hadd : (len + m) * i.size = len * i.size + m * i.size := Nat.add_mul _ _ _
                        have holds' : olds = (k.drop off).take (len * i.size) := by
                          unfold firstA at holds
                          simp only [hk] at holds
                          split at holds
                          · rename_i h0; cases holds; rw [h0]; rfl
                          · split at holds
                            · cases holds; rfl
                            · cases holds
                        subst holds'
                        obtain ⟨μ', w', hrun, hS, hSt, hμ⟩ := S.regrow (P := P) (off := off) (n1 := len * i.size) hb hk hL (by omega) hrel hone (by omega) hf
                        refine ⟨μ', .slice (some ⟨L.blk, L.off + off, none⟩) (len + m) cap', w', run_append_in hu htx hd hi hlen hin (hrn w rfl) ?_ (by intro h; cases h), hS, hSt, ?_⟩
                        · intro a ha
                          cases ha
                          rw [Addr.add_lit]; exact hrun
                        · have := VRel.hid (μ := μ') (b := h.next) (off := 0) (len := len + m) (cap := len + m) (cap' := cap') (s := i.size) hμ (Nat.le_refl _) hin hmx (by simp only; omega) (by simp only; omega)
                          simpa using this
                      · obtain ⟨μ', r', w', hrun, hS, hSt, hv⟩ := grow S1 hf1 hol' horel hro rfl hin
                        exact ⟨μ', r', w', hrun, hS, St1.trans hSt, hv⟩
                    | hemp hL =>
                      subst hq
                      obtain ⟨μ', r', w', hrun, hS, hSt, hv⟩ := grow S1 hf1 hol' horel hro rfl (by omega)
                      exact ⟨μ', r', w', hrun, hS, St1.trans hSt, hv⟩
                  · cases e
  · cases e


theorem copy_sound {dT sT ty el : TypeId} {size : Nat} {d d' s s' r : Value} {h' : Heap} (hu : P.underlying dT = some (.slice el)) (hsz : sizeT P el = some size)
    (S : Sim μ h w) (hd : VRel μ d d') (hs : VRel μ s s') (e : copyA size d s h = some (r, h')) :
    ∃ w', (Builtin.copy_ #[dT, sT] ty #[d', s']).run P w = .ok r w' ∧ Sim μ h' w' ∧ Step μ h w μ h' w' ∧ ∃ n : Nat, r = .int .i64 n := by
  unfold copyA at e
  split at e
  · rename_i base dLen dCap m hm
    have hlen := run_lenOf (P := P) (w := w) hs hm
    simp only at e
    split at e
    · cases e
    · rename_i news hnews
      obtain ⟨news', hrn, hrel⟩ := firstA_any S hs hnews (by intro m' h; rw [hm] at h; cases h; exact Nat.min_le_left _ _) P
      obtain ⟨b', c', rfl, hb'⟩ := hd.nilslice
      have head : ∀ w', (∀ a, b' = some a → (storeCells a news').run P w = .ok () w') → (b' = none → w' = w) →
          (Builtin.copy_ #[dT, sT] ty #[.slice b' dLen c', s']).run P w = .ok (.int .i64 (min m dLen : Nat)) w' := by
        intro w' hs hn
        have e0 : (#[dT, sT] : Array TypeId)[0]? = some dT := rfl
        have e2 : (#[.slice b' dLen c', s'] : Array Value)[0]? = some (.slice b' dLen c') := rfl
        have e3 : (#[.slice b' dLen c', s'] : Array Value)[1]? = some s' := rfl
        unfold Builtin.copy_
        simp only [e0, e2, e3, Sem.run_bind, run_underlying hu, Result.andThen_ok, hlen, run_sizeT w hsz, Nat.min_def]
        have hrn0 := hrn w rfl
        rw [Nat.min_def] at hrn0
        rw [hrn0]
        cases b' with
        | none => simp [hn rfl, goInt]
        | some a => simp [hs a rfl, goInt]
      split at e
      · rename_i h0
        cases e
        have hn0 : news' = [] := by
          have h1 := hrel.1
          have : news = [] := by
            unfold firstA at hnews
            rw [h0] at hnews
            split at hnews
            · simpa using hnews.symm
            · simpa using hnews.symm
            · simp only [Option.some.injEq] at hnews
              rw [← hnews]
              simp
            · cases hnews
          subst this
          exact List.eq_nil_of_length_eq_zero h1.symm
        subst hn0
        exact ⟨w, head w (fun _ _ => rfl) (fun _ => rfl), S, .same_world, _, rfl⟩
      · rename_i h0
        split at e
        · cases e
        · rename_i b off sp
          simp only [Option.map_eq_some_iff, Prod.mk.injEq] at e
          obtain ⟨h1, hst, rfl, rfl⟩ := e
          obtain ⟨L, w', hL, hrun, hS, hSt⟩ := stL_sound (P := P) S hrel hst
          have hb2 : b' = some ⟨L.blk, L.off + off, none⟩ := by
            cases hd with
            | flat h => simp [flat] at h
            | slice h => rw [h] at hL; cases hL; rfl
            | hid h => rw [h] at hL; cases hL; rfl
            | hemp h => simp at h0
            | zer => simp at h0
          refine ⟨w', head w' ?_ (by intro h; rw [hb2] at h; cases h), hS, hSt, _, rfl⟩
          intro a ha
          rw [hb2] at ha; cases ha; exact hrun
  · cases e

theorem clear_sound {t ty el : TypeId} {size : Nat} {d d' r : Value} {h' : Heap} (hu : P.underlying t = some (.slice el)) 
    (S : Sim μ h w) (hd : VRel μ d d') (e : clearA P el size d h = some (r, h')) :
    ∃ w', (Builtin.clear_ #[t] ty #[d']).run P w = .ok r w' ∧ Sim μ h' w' ∧ Step μ h w μ h' w' ∧ r = undef := by
  have e0 : (#[t] : Array TypeId)[0]? = some t := rfl
  have e2 : ∀ v : Value, (#[v] : Array Value)[0]? = some v := fun _ => rfl
  unfold clearA at e
  split at e
  · cases e
    rw [hd.flat_eq rfl]
    refine ⟨w, ?_, S, .same_world, rfl⟩
    simp [Builtin.clear_, run_underlying hu, undef]
  · rename_i b off sp n c
    split at e
    · rename_i h0
      subst h0
      cases e
      obtain ⟨b', c', rfl, hb'⟩ := hd.nilslice
      refine ⟨w, ?_, S, .same_world, rfl⟩
      cases b' <;> simp [Builtin.clear_, run_underlying hu, undef]
    · rename_i h0
      split at e
      · rename_i z hz
        split at e
        · rename_i hc
          simp only [Bool.and_eq_true, decide_eq_true_eq] at hc
          obtain ⟨⟨hfl, hzn⟩, hpos⟩ := hc
          simp only [Option.map_eq_some_iff, Prod.mk.injEq] at e
          obtain ⟨h1, hst, rfl, rfl⟩ := e
          have hzz : (Builtin.zeroCells z.cells n).toList = zeros z.cells.toList n := by
            rw [← range_zeros z.cells (by omega)]
            simp [Builtin.zeroCells]
          obtain ⟨L, w', hL, hrun, hS, hSt⟩ := stL_sound (P := P) S (LRel.of_flat (μ := μ) (l := zeros z.cells.toList n) (by
              simp only [flatAll, List.all_eq_true, zeros, List.mem_flatMap] at hfl ⊢
              rintro x ⟨_, _, hx⟩; exact hfl x hx)) hst
          have hb2 : ∃ c', d' = .slice (some ⟨L.blk, L.off + off, none⟩) n c' := by
            cases hd with
            | flat h => simp [flat] at h
            | slice h => rw [h] at hL; cases hL; exact ⟨_, rfl⟩
            | hid h => rw [h] at hL; cases hL; exact ⟨_, rfl⟩
            | hemp h => exact absurd rfl h0
            | zer => exact absurd rfl h0
          obtain ⟨c', rfl⟩ := hb2
          refine ⟨w', ?_, hS, hSt, rfl⟩
          obtain ⟨n, rfl⟩ : ∃ n', n = n' + 1 := ⟨n - 1, by omega⟩
          unfold Builtin.clear_
          simp only [e0, e2, Sem.run_bind, run_underlying hu, Result.andThen_ok, run_zeroT w hz, hzz, hrun, Sem.run_pure]
          rfl
        · cases e
      · cases e
  · cases e

theorem len_sound {t ty : TypeId} {x x' r : Value} (hx : VRel μ x x') (e : lenOfT P t x = some r) : (Builtin.len_ #[t] ty #[x']).run P w = .ok r w ∧ flat r = true := by
  unfold lenOfT at e
  split at e
  · rename_i hu; cases e; rw [hx.flat_eq rfl]; exact ⟨by simp [Builtin.len_, run_underlying hu, goInt], rfl⟩
  · rename_i n el _ _ hu; cases e; exact ⟨by simp [Builtin.len_, run_underlying hu, goInt], rfl⟩
  · rename_i arr hu
    split at e
    · rename_i ha; cases e; exact ⟨by simp [Builtin.len_, run_underlying hu, run_underlying ha, goInt], rfl⟩
    · cases e
  · rename_i hu
    cases e
    obtain ⟨b', c', rfl, _⟩ := hx.nilslice
    exact ⟨by simp [Builtin.len_, run_underlying hu, goInt], rfl⟩
  · cases e

theorem max_fold : ∀ (l : List Value) (v r : Value), minmax true v l = some r → (l.foldlM Builtin.max2 v).run P w = .ok r w ∧ (flatAll l = true → flat v = true → flat r = true)
  | [], v, r, e => by cases e; exact ⟨rfl, fun _ h => h⟩
  | x :: l, v, r, e => by
    unfold minmax at e
    split at e
    · rename_i h; cases h
    · rename_i k a k' b rest heq
      cases heq
      split at e
      · rename_i hk
        subst hk
        obtain ⟨h1, h2⟩ := max_fold l _ r e
        refine ⟨?_, fun hl _ => h2 ?_ rfl⟩
        · simp only [List.foldlM_cons, Sem.run_bind, Builtin.max2, Sem.run_pure, Result.andThen_ok]
          simpa using h1
        · simp only [flatAll, List.all_cons, Bool.and_eq_true] at hl ⊢; exact hl.2
      · cases e
    · cases e
theorem min_fold : ∀ (l : List Value) (v r : Value), minmax false v l = some r → (l.foldlM Builtin.min2 v).run P w = .ok r w ∧ (flatAll l = true → flat v = true → flat r = true)
  | [], v, r, e => by cases e; exact ⟨rfl, fun _ h => h⟩
  | x :: l, v, r, e => by
    unfold minmax at e
    split at e
    · rename_i h; cases h
    · rename_i k a k' b rest heq
      cases heq
      split at e
      · rename_i hk
        subst hk
        obtain ⟨h1, h2⟩ := min_fold l _ r e
        refine ⟨?_, fun hl _ => h2 ?_ rfl⟩
        · simp only [List.foldlM_cons, Sem.run_bind, Builtin.min2, Sem.run_pure, Result.andThen_ok]
          simpa using h1
        · simp only [flatAll, List.all_cons, Bool.and_eq_true] at hl ⊢; exact hl.2
      · cases e
    · cases e
theorem minmax_ints : ∀ {mx : Bool} {l : List Value} {v r : Value}, minmax mx v l = some r → l ≠ [] → flatAll (v :: l) = true ∧ flat r = true
  | mx, [], v, r, e, h => absurd rfl h
  | mx, x :: l, v, r, e, _ => by
    unfold minmax at e
    split at e
    · rename_i h; cases h
    · rename_i k a k' b rest heq
      cases heq
      split at e
      · cases l with
        | nil => cases e; exact ⟨rfl, rfl⟩
        | cons y l =>
          obtain ⟨h1, h2⟩ := minmax_ints e (by simp)
          simp only [flatAll, List.all_cons, Bool.and_eq_true] at h1 ⊢
          exact ⟨⟨rfl, rfl, h1.2⟩, h2⟩
      · cases e
    · cases e

end ops
end Go.Abs

namespace Go.Abs

mutual
/-- All blocks that a value leads to have numbers below n. -/
def bdV (n : Nat) : Value → Bool
  | .pointer (some a) => a.block < n
  | .slice (some a) _ _ => a.block < n
  | .map (some _) => false
  | .agg ⟨l⟩ => bdL n l
  | .tuple ⟨l⟩ => bdL n l
  | .func _ ⟨l⟩ ⟨r⟩ => bdL n l && bdL n r
  | .iface _ v => bdV n v
  | _ => true
def bdL (n : Nat) : List Value → Bool
  | [] => true
  | v :: l => bdV n v && bdL n l
end

theorem bdL_iff {n : Nat} : ∀ {l : List Value}, bdL n l = true ↔ ∀ x ∈ l, bdV n x = true
  | [] => by simp [bdL]
  | v :: l => by simp [bdL, bdL_iff (l := l)]

mutual
theorem bdV_mono {n m : Nat} (h : n ≤ m) : ∀ {v : Value}, bdV n v = true → bdV m v = true
  | .pointer none, _ => rfl
  | .pointer (some a), e => by simp only [bdV, decide_eq_true_eq] at e ⊢; omega
  | .slice none _ _, _ => rfl
  | .slice (some a) _ _, e => by simp only [bdV, decide_eq_true_eq] at e ⊢; omega
  | .map none, _ => rfl
  | .map (some _), e => by simp [bdV] at e
  | .chan none, _ => rfl
  | .chan (some _), e => rfl
  | .agg ⟨l⟩, e => by simp only [bdV] at e ⊢; exact bdL_mono h e
  | .tuple ⟨l⟩, e => by simp only [bdV] at e ⊢; exact bdL_mono h e
  | .func _ ⟨l⟩ ⟨r⟩, e => by
    simp only [bdV, Bool.and_eq_true] at e ⊢
    exact ⟨bdL_mono h e.1, bdL_mono h e.2⟩
  | .iface _ v, e => by simp only [bdV] at e ⊢; exact bdV_mono h e
  | .bool _, _ => rfl
  | .int _ _, _ => rfl
  | .float _ _, _ => rfl
  | .complex _ _ _, _ => rfl
  | .string _, _ => rfl
  | .nilFunc, _ => rfl
  | .nilIface, _ => rfl
theorem bdL_mono {n m : Nat} (h : n ≤ m) : ∀ {l : List Value}, bdL n l = true → bdL m l = true
  | [], _ => rfl
  | v :: l, e => by
    simp only [bdL, Bool.and_eq_true] at e ⊢
    exact ⟨bdV_mono h e.1, bdL_mono h e.2⟩
end

theorem bdV_flat {n : Nat} {v : Value} (h : flat v = true) : bdV n v = true := by
  cases v with
  | pointer a => cases a <;> first | rfl | (simp [flat] at h)
  | slice a => cases a <;> first | rfl | (simp [flat] at h)
  | map a => cases a <;> first | rfl | (simp [flat] at h)
  | chan a => cases a <;> first | rfl | (simp [flat] at h)
  | func f a b =>
    cases f <;> simp [flat] at h
    obtain ⟨rfl, rfl⟩ := h
    rfl
  | agg a => simp [flat] at h
  | tuple a => simp [flat] at h
  | iface t v => simp [flat] at h
  | _ => rfl
theorem bdL_flat {n : Nat} {l : List Value} (h : flatAll l = true) : bdL n l = true := bdL_iff.2 fun x hx => bdV_flat (List.all_eq_true.1 h x hx)
theorem bdL_append {n : Nat} {a b : List Value} (ha : bdL n a = true) (hb : bdL n b = true) : bdL n (a ++ b) = true := by
  rw [bdL_iff] at *
  intro x hx
  rcases List.mem_append.1 hx with h | h
  · exact ha x h
  · exact hb x h
theorem bdL_take {n k : Nat} {a : List Value} (ha : bdL n a = true) : bdL n (a.take k) = true := by
  rw [bdL_iff] at *
  exact fun x hx => ha x (List.mem_of_mem_take hx)
theorem bdL_drop {n k : Nat} {a : List Value} (ha : bdL n a = true) : bdL n (a.drop k) = true := by
  rw [bdL_iff] at *
  exact fun x hx => ha x (List.mem_of_mem_drop hx)
theorem bdL_splice {n off : Nat} {a b : List Value} (ha : bdL n a = true) (hb : bdL n b = true) : bdL n (splice a off b) = true :=
  bdL_append (bdL_append (bdL_take ha) hb) (bdL_drop ha)
theorem bdL_get {n i : Nat} {a : List Value} {x : Value} (ha : bdL n a = true) (hx : a[i]? = some x) : bdV n x = true := bdL_iff.1 ha x (List.mem_of_getElem? hx)
theorem bdL_set {n i : Nat} {a : List Value} {x : Value} (ha : bdL n a = true) (hx : bdV n x = true) : bdL n (a.set i x) = true := by
  rw [bdL_iff] at *
  intro y hy
  rcases List.mem_or_eq_of_mem_set hy with h | h
  · exact ha y h
  · subst h; exact hx
theorem bdL_getD {n i : Nat} {a : List Value} (ha : bdL n a = true) : bdV n (a.getD i undef) = true := by
  rw [List.getD_eq_getElem?_getD]
  cases h : a[i]? with
  | none => rfl
  | some x => exact bdL_get ha h
theorem bdV_agg {n : Nat} {a : Array Value} : bdV n (.agg a) = bdL n a.toList := by obtain ⟨l⟩ := a; rfl
theorem bdV_tuple {n : Nat} {a : Array Value} : bdV n (.tuple a) = bdL n a.toList := by obtain ⟨l⟩ := a; rfl
theorem bdL_cells {n : Nat} {v : Value} (h : bdV n v = true) : bdL n v.cells.toList = true := by
  cases v with
  | agg a => rw [bdV_agg] at h; exact h
  | _ => simpa [Value.cells, bdL] using h

/-- The part of a map below a number. -/
def Mu.cut (μ : Mu) (n : Nat) : Mu := fun b => if b < n then μ b else none
theorem Mu.cut_some {μ : Mu} {n b : Nat} {L : Loc} (h : μ b = some L) (hb : b < n) : μ.cut n b = some L := by simp [Mu.cut, hb, h]
theorem Mu.cut_le {μ : Mu} {n b : Nat} {L : Loc} (h : μ.cut n b = some L) : μ b = some L ∧ b < n := by
  unfold Mu.cut at h
  split at h
  · exact ⟨h, by assumption⟩
  · cases h

theorem VRel.cut {μ : Mu} {n : Nat} {v v' : Value} (h : VRel μ v v') (hb : bdV n v = true) : VRel (μ.cut n) v v' := by
  have arr : ∀ {xs ys : Array Value}, bdL n xs.toList = true → (∀ (i : Nat) (x y : Value), xs[i]? = some x → ys[i]? = some y → bdV n x = true → VRel (μ.cut n) x y) → ∀ (i : Nat) (x y : Value), xs[i]? = some x → ys[i]? = some y → VRel (μ.cut n) x y := by
    intro xs ys hl ih i x y hx hy
    exact ih i x y hx hy (bdL_get (i := i) hl (by simpa using hx))
  induction h with
  | flat h => exact .flat h
  | ptr h => simp only [bdV, decide_eq_true_eq] at hb; exact .ptr (Mu.cut_some h hb)
  | slice h => simp only [bdV, decide_eq_true_eq] at hb; exact .slice (Mu.cut_some h hb)
  | hid h a b c d e => simp only [bdV, decide_eq_true_eq] at hb; exact .hid (Mu.cut_some h hb) a b c d e
  | hemp h => simp only [bdV, decide_eq_true_eq] at hb; exact .hemp (Mu.cut_some h hb)
  | zer => exact .zer
  | agg hs _ ih => rw [bdV_agg] at hb; exact .agg hs (arr hb ih)
  | tuple hs _ ih => rw [bdV_tuple] at hb; exact .tuple hs (arr hb ih)
  | @func f a b c d h1 _ h3 _ i1 i2 =>
    obtain ⟨la⟩ := a
    obtain ⟨lc⟩ := c
    simp only [bdV, Bool.and_eq_true] at hb
    exact .func h1 (arr hb.1 i1) h3 (arr hb.2 i2)
  | iface _ ih => simp only [bdV] at hb; exact .iface (ih hb)
theorem LRel.cut {μ : Mu} {n : Nat} {v v' : List Value} (h : LRel μ v v') (hb : bdL n v = true) : LRel (μ.cut n) v v' :=
  ⟨h.1, fun i x y hx hy => (h.2 i x y hx hy).cut (bdL_get hb hx)⟩

theorem CRel.cut {μ : Mu} {n : Nat} {v v' : List Value} (h : CRel μ v v') (hb : bdL n v = true) : CRel (μ.cut n) v v' :=
  ⟨h.1, fun i x y hx hy hh => (h.2 i x y hx hy hh).cut (bdL_get hb hx)⟩

/-- The cells of all living blocks lead to numbers that are given. -/
def HeapBd (h : Heap) : Prop := ∀ b k, h.get b = some k → bdL h.next k = true

theorem Sim.cut {μ : Mu} {h : Heap} {w : World} (s : Sim μ h w) (hb : HeapBd h) : Sim (μ.cut h.next) h w := by
  have hle := h.n0_le_next
  refine ⟨?_, ?_, ?_, s.size, ?_⟩
  · intro b cs hbn hc
    obtain ⟨L, arr, T, fr, h1, h2, h3, h4, h5⟩ := s.old b cs hbn hc
    refine ⟨L, arr, T, fr, Mu.cut_some h1 (by omega), h2, h3, h4, h5.cut (hb b cs ?_)⟩
    unfold Heap.get
    rw [if_pos hbn]; exact hc
  · intro b k hbn hg
    obtain ⟨L, arr, T, fr, h1, h2, h3, h4, h5, h6, h7, h8⟩ := s.new b k hbn hg
    exact ⟨L, arr, T, fr, Mu.cut_some h1 (h.lt_of_get hg), h2, h3, h4, h5, h6, h7, h8.cut (hb b k hg)⟩
  · intro b b' k k' L L' h1 h2 h3 h4 h5 h6 h7
    exact s.inj b b' k k' L L' h1 h2 h3 h4 h5 (Mu.cut_le h6).1 (Mu.cut_le h7).1
  · intro b hbn
    obtain ⟨L, h1, h2⟩ := s.low b hbn
    exact ⟨L, Mu.cut_some h1 (by omega), h2⟩

theorem HeapBd.alloc {h : Heap} {k : Blk} (hb : HeapBd h) (hk : bdL (h.next + 1) k = true) : HeapBd (h.alloc k) := by
  intro b k' hg
  rw [Heap.get_alloc] at hg
  rw [Heap.next_alloc]
  split at hg
  · cases hg; exact hk
  · exact bdL_mono (by omega) (hb b k' hg)
theorem HeapBd.put {h : Heap} {b : Nat} {x : Option Blk} (hb : HeapBd h) (h0 : h.n0 ≤ b) (hn : b < h.next) (hk : ∀ k, x = some k → bdL h.next k = true) : HeapBd (h.put b x) := by
  intro c k' hg
  rw [h.get_put h0 hn] at hg
  rw [Heap.next_put]
  split at hg
  · exact hk _ hg
  · exact hb c k' hg
theorem HeapBd.stL {b off : Nat} {xs : List Value} {h h' : Heap} (hb : HeapBd h) (hx : bdL h.next xs = true) (e : stL b off xs h = some h') : HeapBd h' := by
  unfold Abs.stL at e
  split at e
  · rename_i k hk
    split at e
    · rename_i hc
      simp only [Bool.and_eq_true, decide_eq_true_eq] at hc
      cases e
      exact hb.put hc.1.1 (h.lt_of_get hk) (fun k' hk' => by cases hk'; exact bdL_splice (hb b k hk) hx)
    · cases e
  · cases e

section ops
variable {P : Program} {h h' : Heap} {v : Value}

theorem bd_first {size n : Nat} {x : Value} {cs : List Value} (hb : HeapBd h) (e : firstA size n x h = some cs) : bdL h.next cs = true := by
  unfold firstA at e
  split at e
  · split at e <;> cases e; rfl
  · split at e
    · cases e; rfl
    · split at e
      · rename_i k hk
        split at e
        · cases e; exact bdL_take (bdL_drop (hb _ k hk))
        · cases e
      · cases e
  · cases e
    exact bdL_flat (by rw [flatAll, List.all_eq_true]; intro x hx; obtain ⟨b, _, rfl⟩ := List.mem_map.1 hx; rfl)
  · cases e

theorem bd_fill {n : Nat} : ∀ {ts : List (Nat × Nat × Value)} {cells out : List Value}, bdL n cells = true → (∀ t ∈ ts, bdV n t.2.2 = true) → fillL cells ts = some out → bdL n out = true
  | [], cells, out, hc, _, e => by simp only [fillL, Option.some.injEq] at e; subst e; exact hc
  | (off, k, v) :: ts, cells, out, hc, ht, e => by
    simp only [fillL] at e
    split at e
    · exact bd_fill (ts := ts) (bdL_splice hc (bdL_cells (ht (off, k, v) (by simp)))) (fun t hm => ht t (by simp [hm])) e
    · cases e

theorem flat_zeros {z : List Value} {n : Nat} (h : flatAll z = true) : flatAll (zeros z n) = true := by
  simp only [flatAll, List.all_eq_true, zeros, List.mem_flatMap] at h ⊢
  rintro x ⟨_, _, hx⟩; exact h x hx

theorem bd_append {size by_ : Nat} {s x : Value} (hb : HeapBd h) (hs : bdV h.next s = true) (e : appendA size by_ s x h = some (v, h')) : bdV h'.next v = true ∧ HeapBd h' := by
  unfold appendA at e
  split at e
  · rename_i base len cap m hm
    split at e
    · cases e
    · rename_i news hnews
      have hn := bd_first hb hnews
      split at e
      · cases e
      · split at e
        · split at e
          · cases e; exact ⟨hs, hb⟩
          · split at e
            · simp only [Option.map_eq_some_iff, Prod.mk.injEq] at e
              obtain ⟨h1, hst, rfl, rfl⟩ := e
              have hgr : h1.next = h.next := by
                unfold stL at hst
                split at hst
                · split at hst
                  · cases hst; rfl
                  · cases hst
                · cases hst
              exact ⟨by rw [hgr]; simpa [bdV] using hs, hb.stL hn hst⟩
            · cases e
        · split at e
          · split at e
            · simp only [Option.some.injEq, Prod.mk.injEq] at e
              obtain ⟨rfl, rfl⟩ := e
              exact ⟨by simp [bdV], hb.alloc (bdL_mono (by omega) hn)⟩
            · cases e
          · split at e
            · cases e
            · rename_i olds holds
              have ho := bd_first hb holds
              split at e
              · cases e
              · split at e
                · simp only [Option.some.injEq, Prod.mk.injEq] at e
                  obtain ⟨rfl, rfl⟩ := e
                  exact ⟨by simp [bdV], hb.alloc (bdL_mono (by omega) (bdL_append ho hn))⟩
                · split at e
                  · rename_i hc
                    simp only [Bool.and_eq_true, decide_eq_true_eq] at hc
                    obtain ⟨k, hk⟩ := Option.isSome_iff_exists.1 hc.2
                    simp only [Option.some.injEq, Prod.mk.injEq] at e
                    obtain ⟨rfl, rfl⟩ := e
                    have hkl : HeapBd (h.kill _) := hb.put hc.1.2 (h.lt_of_get hk) (fun k' hk' => by cases hk')
                    exact ⟨by simp [bdV], hkl.alloc (bdL_mono (by simp) (bdL_append ho hn))⟩
                  · cases e
  · cases e

theorem bd_ld {t : TypeId} {x : Value} (hb : HeapBd h) (e : ld P t x h = some (v, h')) : bdV h'.next v = true ∧ HeapBd h' := by
  unfold ld at e
  split at e
  · unfold ldN at e
    split at e
    · split at e
      · rename_i k hk
        split at e
        · simp only [Option.some.injEq, Prod.mk.injEq] at e
          obtain ⟨rfl, rfl⟩ := e
          exact ⟨by rw [bdV_agg]; exact bdL_take (bdL_drop (hb _ k hk)), hb⟩
        · cases e
      · cases e
    · cases e
  · unfold ld1 at e
    split at e
    · split at e
      · rename_i k hk
        split at e
        · rename_i c hc
          split at e
          · simp only [Option.some.injEq, Prod.mk.injEq] at e
            obtain ⟨rfl, rfl⟩ := e
            exact ⟨bdL_get (hb _ k hk) hc, hb⟩
          · cases e
        · cases e
      · cases e
    · cases e
  · cases e

theorem bd_st {t : TypeId} {x y : Value} (hb : HeapBd h) (hy : bdV h.next y = true) (e : st P t x y h = some (v, h')) : bdV h'.next v = true ∧ HeapBd h' := by
  unfold st at e
  split at e
  · unfold stN at e
    split at e
    · split at e
      · simp only [Option.map_eq_some_iff, Prod.mk.injEq] at e
        obtain ⟨h1, hst, rfl, rfl⟩ := e
        exact ⟨rfl, hb.stL (bdL_cells hy) hst⟩
      · cases e
    · cases e
  · cases e

theorem bd_sliceSl {n size : Nat} {x r : Value} {lo hi mx : Option Value} (hx : bdV n x = true) (e : sliceSl size x lo hi mx = some r) : bdV n r = true := by
  unfold sliceSl at e
  repeat' split at e
  all_goals first
    | (cases e; done)
    | (cases e; first | rfl | (simpa [bdV] using hx))
theorem bd_sliceArr {n k size : Nat} {x r : Value} {lo hi mx : Option Value} (hx : bdV n x = true) (e : sliceArr k size x lo hi mx = some r) : bdV n r = true := by
  unfold sliceArr at e
  repeat' split at e
  all_goals first
    | (cases e; done)
    | (cases e; simpa [bdV] using hx)
theorem bd_slice {n : Nat} {t : TypeId} {x r : Value} {lo hi mx : Option Value} (hx : bdV n x = true) (e : sliceA P t x lo hi mx = some r) : bdV n r = true := by
  unfold sliceA at e
  split at e
  · simp only [Option.bind_eq_some_iff] at e
    obtain ⟨z, _, e⟩ := e
    exact bd_sliceArr hx e
  · split at e
    · simp only [Option.bind_eq_some_iff] at e
      obtain ⟨z, _, e⟩ := e
      exact bd_sliceArr hx e
    · cases e
  · split at e
    · cases e
    · simp only [Option.bind_eq_some_iff] at e
      obtain ⟨z, _, e⟩ := e
      exact bd_sliceSl hx e
  · split at e
    · exact bd_sliceSl hx e
    · cases e
  · cases e
theorem bd_addP {n k : Nat} {x r : Value} (hx : bdV n x = true) (e : addP x k = some r) : bdV n r = true := by
  unfold addP at e
  split at e
  · cases e; simpa [bdV, ptr] using hx
  · cases e
theorem bd_fieldAt {n : Nat} {t : TypeId} {x r : Value} {i : Nat} (hx : bdV n x = true) (e : fieldAtA P t x i = some r) : bdV n r = true := by
  unfold fieldAtA at e
  repeat' split at e
  all_goals first
    | (cases e; done)
    | exact bd_addP hx e
theorem bd_indexAt {n : Nat} {t : TypeId} {x ix r : Value} (hx : bdV n x = true) (e : indexAtA P t x ix = some r) : bdV n r = true := by
  unfold indexAtA at e
  split at e
  · simp only [Option.bind_eq_some_iff] at e
    obtain ⟨z, _, e⟩ := e
    unfold idxA at e
    repeat' split at e
    all_goals first
      | (cases e; done)
      | exact bd_addP hx e
  · simp only [Option.bind_eq_some_iff] at e
    obtain ⟨z, _, e⟩ := e
    unfold idxS at e
    repeat' split at e
    all_goals first
      | (cases e; done)
      | (cases e; simpa [bdV, ptr] using hx)
  · cases e
theorem bd_part {n : Nat} {t : TypeId} {cs : Array Value} {off : Nat} {r : Value} (hx : bdL n cs.toList = true) (e : partA P t cs off = some r) : bdV n r = true := by
  unfold partA at e
  split at e
  · cases e
    rw [bdV_agg]
    have : ∀ k, (cs.extract off (off + k)).toList = (cs.toList.drop off).take k := by intro k; simp
    rw [this]
    exact bdL_take (bdL_drop hx)
  · exact bdL_get (i := off) hx (by simpa using e)
  · cases e
theorem bd_field {n : Nat} {t : TypeId} {x r : Value} {i : Nat} (hx : bdV n x = true) (e : fieldA P t x i = some r) : bdV n r = true := by
  unfold fieldA at e
  split at e
  · split at e
    · rw [bdV_agg] at hx; exact bd_part hx e
    · cases e
  · cases e
theorem bd_index {n : Nat} {t : TypeId} {x ix r : Value} (hx : bdV n x = true) (e : indexA P t x ix = some r) : bdV n r = true := by
  unfold indexA at e
  split at e
  · split at e
    · simp only [Option.bind_eq_some_iff] at e
      obtain ⟨z, _, e⟩ := e
      rw [bdV_agg] at hx; exact bd_part hx e
    · cases e
  · split at e
    · simp only [Option.map_eq_some_iff] at e
      obtain ⟨b, _, rfl⟩ := e
      rfl
    · cases e
  · cases e
theorem bd_extract {n : Nat} {x r : Value} {i : Nat} (hx : bdV n x = true) (e : extractA x i = some r) : bdV n r = true := by
  unfold extractA at e
  split at e
  · rw [bdV_tuple] at hx; exact bdL_get (i := i) hx (by simpa using e)
  · cases e
theorem bd_nil {n : Nat} {x r : Value} (hx : bdV n x = true) (e : nilCheckA x = some r) : bdV n r = true := by
  unfold nilCheckA at e
  split at e <;> cases e <;> exact hx
theorem bd_build {n : Nat} {t : TypeId} {ps : List (Nat × Value)} {r : Value} (hx : ∀ p ∈ ps, bdV n p.2 = true) (e : buildA P t ps = some r) : bdV n r = true := by
  unfold buildA at e
  split at e
  · split at e
    · rename_i hf
      simp only [Bool.and_eq_true] at hf
      split at e
      · rename_i ts hts
        simp only [Option.map_eq_some_iff] at e
        obtain ⟨cs, hcs, rfl⟩ := e
        rw [bdV_agg]
        refine bd_fill (bdL_flat hf.1) ?_ hcs
        have key : ∀ {fs : Array Field} {ps : List (Nat × Value)} {ts}, (∀ p ∈ ps, bdV n p.2 = true) → fieldPlaces P fs ps = some ts → ∀ t ∈ ts, bdV n t.2.2 = true := by
          intro fs ps
          induction ps with
          | nil => intro ts _ h; simp [fieldPlaces] at h; subst h; simp
          | cons p ps ih =>
            intro ts hp h
            unfold fieldPlaces at h
            rw [List.mapM_cons] at h
            simp only [bind, Option.bind_eq_some_iff, pure, Option.some.injEq] at h
            obtain ⟨a, ha, l, hl, rfl⟩ := h
            split at ha
            · simp only [Option.map_eq_some_iff] at ha
              obtain ⟨k, _, rfl⟩ := ha
              intro t ht
              rcases List.mem_cons.1 ht with rfl | ht
              · exact hp p (by simp)
              · exact ih (fun q hq => hp q (by simp [hq])) hl t ht
            · cases ha
        exact key hx hts
      · cases e
    · cases e
  · split at e
    · split at e
      · rename_i hf
        simp only [Option.map_eq_some_iff] at e
        obtain ⟨cs, hcs, rfl⟩ := e
        rw [bdV_agg]
        refine bd_fill (bdL_flat hf) ?_ hcs
        intro t ht
        obtain ⟨p, hp, rfl⟩ := List.mem_map.1 ht
        exact hx p hp
      · cases e
    · cases e
  · cases e

theorem bd_conv {s d : TypeId} {x : Value} (hb : HeapBd h) (hx : bdV h.next x = true) (e : convA P s d x h = some (v, h')) : bdV h'.next v = true ∧ HeapBd h' := by
  unfold convA at e
  repeat' split at e
  all_goals first
    | (cases e; done)
    | (simp only [Option.some.injEq, Prod.mk.injEq] at e
       obtain ⟨rfl, rfl⟩ := e
       first
         | exact ⟨rfl, hb⟩
         | exact ⟨hx, hb⟩
         | exact ⟨by simp [bdV], hb.alloc (bdL_flat (by rw [flatAll, List.all_eq_true]; intro x hx; obtain ⟨b, _, rfl⟩ := List.mem_map.1 hx; rfl))⟩)
theorem bd_make {t : TypeId} {l c : Value} (hb : HeapBd h) (e : makeA P t l c h = some (v, h')) : bdV h'.next v = true ∧ HeapBd h' := by
  unfold makeA at e
  split at e
  · split at e
    · split at e
      · rename_i hc
        simp only [Bool.and_eq_true, decide_eq_true_eq] at hc
        simp only [Option.some.injEq, Prod.mk.injEq] at e
        obtain ⟨rfl, rfl⟩ := e
        exact ⟨by simp [bdV], hb.alloc (bdL_flat (flat_zeros hc.1.1.2))⟩
      · cases e
    · cases e
  · cases e
theorem bd_buildSlice {t : TypeId} {len : Nat} {ps : List (Nat × Value)} (hb : HeapBd h) (hx : ∀ p ∈ ps, bdV h.next p.2 = true) (e : buildSliceA P t len ps h = some (v, h')) : bdV h'.next v = true ∧ HeapBd h' := by
  unfold buildSliceA at e
  split at e
  · split at e
    · split at e
      · rename_i hc
        simp only [Bool.and_eq_true, decide_eq_true_eq] at hc
        split at e
        · rename_i cs hcs
          simp only [Option.some.injEq, Prod.mk.injEq] at e
          obtain ⟨rfl, rfl⟩ := e
          refine ⟨by simp [bdV], hb.alloc (bdL_mono (Nat.le_succ _) (bd_fill (bdL_flat (flat_zeros hc.1.1.1.1)) ?_ hcs))⟩
          intro t ht
          obtain ⟨p, hp, rfl⟩ := List.mem_map.1 ht
          exact hx p hp
        · cases e
      · cases e
    · cases e
  · cases e
theorem bd_minmax {n : Nat} {mx : Bool} : ∀ {l : List Value} {x r : Value}, bdV n x = true → minmax mx x l = some r → bdV n r = true
  | [], x, r, hx, e => by cases e; exact hx
  | y :: l, x, r, hx, e => by
    unfold minmax at e
    split at e
    · rename_i h; cases h
    · rename_i k a k' b rest heq
      cases heq
      split at e
      · exact bd_minmax (l := l) rfl e
      · cases e
    · cases e
theorem bd_builtin {b : Builtin} {ts : List TypeId} {args : List Value} (hb : HeapBd h) (ha : bdL h.next args = true) (e : builtinA P b ts args h = some (v, h')) : bdV h'.next v = true ∧ HeapBd h' := by
  unfold builtinA at e
  split at e
  · simp only [bdL, Bool.and_eq_true] at ha
    repeat' split at e
    all_goals first
      | (cases e; done)
      | exact bd_append hb ha.1 e
  · split at e
    · simp only [Option.bind_eq_some_iff] at e
      obtain ⟨n, _, e⟩ := e
      unfold copyA at e
      split at e
      · simp only at e
        split at e
        · cases e
        · rename_i news hn
          split at e
          · cases e; exact ⟨rfl, hb⟩
          · split at e
            · cases e
            · simp only [Option.map_eq_some_iff, Prod.mk.injEq] at e
              obtain ⟨h1, hst, rfl, rfl⟩ := e
              exact ⟨rfl, hb.stL (bd_first hb hn) hst⟩
      · cases e
    · cases e
  · split at e
    · simp only [Option.bind_eq_some_iff] at e
      obtain ⟨n, _, e⟩ := e
      unfold clearA at e
      split at e
      · cases e; exact ⟨rfl, hb⟩
      · split at e
        · cases e; exact ⟨rfl, hb⟩
        · split at e
          · split at e
            · rename_i hc
              simp only [Bool.and_eq_true, decide_eq_true_eq] at hc
              simp only [Option.map_eq_some_iff, Prod.mk.injEq] at e
              obtain ⟨h1, hst, rfl, rfl⟩ := e
              exact ⟨rfl, hb.stL (bdL_flat (flat_zeros hc.1.1)) hst⟩
            · cases e
          · cases e
      · cases e
    · cases e
  · simp only [Option.map_eq_some_iff, Prod.mk.injEq] at e
    obtain ⟨r, hr, rfl, rfl⟩ := e
    unfold lenOfT at hr
    repeat' split at hr
    all_goals first
      | (cases hr; done)
      | (cases hr; exact ⟨rfl, hb⟩)
  · simp only [bdL, Bool.and_eq_true] at ha
    simp only [Option.map_eq_some_iff, Prod.mk.injEq] at e
    obtain ⟨r, hr, rfl, rfl⟩ := e
    exact ⟨bd_minmax ha.1 hr, hb⟩
  · simp only [bdL, Bool.and_eq_true] at ha
    simp only [Option.map_eq_some_iff, Prod.mk.injEq] at e
    obtain ⟨r, hr, rfl, rfl⟩ := e
    exact ⟨bd_minmax ha.1 hr, hb⟩
  · cases e
end ops
end Go.Abs

namespace Go.Abs

/-- A summary of calls says what the model's calls do. -/
structure CSound (P : Program) (C : CallF) : Prop where
  fn : ∀ f args h v h', C f args h = some (v, h') → ∃ fn, P.funcs[f]? = some fn ∧ (fn.name == "runtime.NumGoroutine") = false ∧ fn.body.isNone = false
  grow : ∀ f args h v h', C f args h = some (v, h') → h.next ≤ h'.next ∧ h'.n0 = h.n0 ∧ h'.old = h.old
  bd : ∀ f args h v h', C f args h = some (v, h') → bdL h.next args = true → HeapBd h → bdV h'.next v = true ∧ HeapBd h'
  run : ∀ f args h v h', C f args h = some (v, h') → bdL h.next args = true → HeapBd h → P.globals.size ≤ h.n0 → ∀ μ w args', Sim μ h w → Free μ h h' → LRel μ args args' →
    Calls P f args'.toArray w fun e w' => ∃ μ' v', e = .returned v' ∧ Sim μ' h' w' ∧ Step μ h w μ' h' w' ∧ VRel μ' v v'

/-- Constants and variables that an operation names are such as the machine knows. -/
def opdOk (P : Program) : Operand → Bool
  | .const v => flat v
  | .global g => g < P.globals.size
  | _ => true
def operOk (P : Program) (o : Oper) : Bool := o.op.operands.toList.all (opdOk P)

section ops
variable {P : Program} {C : CallF} {μ : Mu} {h : Heap} {w : World}

theorem undef_rel : VRel μ undef undef := VRel.undef μ

/-- What is to be shown of an operation. -/
def Good (P : Program) (o : Oper) (a : Act) (μ : Mu) (h : Heap) (w : World) (v : Value) (h' : Heap) : Prop :=
  ∀ (K : Act → World → Prop) (Q : Exit → Act → World → Prop), (∀ μ' v' w', Sim μ' h' w' → Step μ h w μ' h' w' → VRel μ' v v' → K (a.put o.dst v') w') → o.wp P a w K Q

theorem good_value {o : Oper} {a : Act} {v : Value} {h' : Heap} {s : Sem Value} (ho : execOp a.eval o = (do pure (.value (← s)))) 
    (e : ∃ μ' v' w', s.run P w = .ok v' w' ∧ Sim μ' h' w' ∧ Step μ h w μ' h' w' ∧ VRel μ' v v') : Good P o a μ h w v h' := by
  intro K Q hK
  obtain ⟨μ', v', w', hr, hS, hSt, hv⟩ := e
  unfold Oper.wp
  rw [ho]
  simp only [Sem.run_bind, hr, Result.andThen_ok, Sem.run_pure, Oper.upon]
  exact hK μ' v' w' hS hSt hv
theorem good_skip {o : Oper} {a : Act} {v : Value} {h' : Heap} {s : Sem Unit} (ho : execOp a.eval o = (do s; pure .skip))
    (e : v = undef ∧ ∃ w', s.run P w = .ok () w' ∧ Sim μ h' w' ∧ Step μ h w μ h' w') : Good P o a μ h w v h' := by
  intro K Q hK
  obtain ⟨rfl, w', hr, hS, hSt⟩ := e
  unfold Oper.wp
  rw [ho]
  simp only [Sem.run_bind, hr, Result.andThen_ok, Sem.run_pure, Oper.upon]
  exact hK μ undef w' hS hSt undef_rel
theorem good_pure {o : Oper} {a : Act} {v : Value} {s : Sem Value} (S : Sim μ h w) (ho : execOp a.eval o = (do pure (.value (← s))))
    (e : ∃ v', s.run P w = .ok v' w ∧ VRel μ v v') : Good P o a μ h w v h := by
  obtain ⟨v', hr, hv⟩ := e
  exact good_value ho ⟨μ, v', w, hr, S, .same_world, hv⟩

theorem pairs_rel {ρ ρ' : Operand → Value} {parts : Array (Nat × Operand)} (hρ : ∀ x ∈ (parts.toList.map (·.2)), VRel μ (ρ x) (ρ' x)) :
    (parts.toList.map fun (i, x) => (i, ρ x)).length = (parts.map fun (i, x) => (i, ρ' x)).size ∧
    ∀ (i : Nat) (x y : Nat × Value), (parts.toList.map fun (i, x) => (i, ρ x))[i]? = some x → (parts.map fun (i, x) => (i, ρ' x)).toList[i]? = some y → x.1 = y.1 ∧ VRel μ x.2 y.2 := by
  refine ⟨by simp, fun i x y hx hy => ?_⟩
  rw [Array.toList_map] at hy
  rw [List.getElem?_map] at hx hy
  cases hp : parts.toList[i]? with
  | none => rw [hp] at hx; cases hx
  | some p =>
    rw [hp] at hx hy
    simp only [Option.map_some, Option.some.injEq] at hx hy
    subst hx hy
    exact ⟨rfl, hρ _ (List.mem_map.2 ⟨p, List.mem_of_getElem? hp, rfl⟩)⟩

theorem opt_rel {ρ ρ' : Operand → Value} {x : Option Operand} (hρ : ∀ y, x = some y → VRel μ (ρ y) (ρ' y)) : ORel μ (x.map ρ) (x.map ρ') := by
  cases x with
  | none => exact .inl ⟨rfl, rfl⟩
  | some y => exact .inr ⟨_, _, rfl, rfl, hρ y rfl⟩

theorem list_rel {ρ ρ' : Operand → Value} : ∀ {l : List Operand}, (∀ x ∈ l, VRel μ (ρ x) (ρ' x)) → LRel μ (l.map ρ) (l.map ρ')
  | [], _ => LRel.nil μ
  | x :: l, h => LRel.cons (h x (by simp)) (list_rel fun y hy => h y (by simp [hy]))

theorem builtin_exec {o : Oper} {a : Act} {c : Call} {b : Builtin} (ho : o.op = .call c) (hc : c.callee = .builtin b) :
    execOp a.eval o = builtin b c.argTypes o.type (c.args.map fun | .const _ => true | _ => false) (c.args.map a.eval) := by
  unfold execOp
  rw [ho]
  simp only
  unfold resolve
  rw [hc]
  rfl

theorem array_of_list {α : Type} {x : Array α} {l : List α} (h : x.toList = l) : x = l.toArray := by
  rw [← h]

theorem elemT_some {t el : TypeId} (h : elemT P t = some el) : P.underlying t = some (.slice el) := by
  unfold elemT at h
  split at h
  · cases h; assumption
  · cases h
theorem VRel.func_iff {f : Fn} {x y : Array Value} {v : Value} (hv : VRel μ (.func f x y) v) : ∃ x' y', v = .func f x' y' ∧ LRel μ x.toList x'.toList ∧ LRel μ y.toList y'.toList := by
  cases hv with
  | flat h =>
    cases f <;> simp [Abs.flat] at h
    obtain ⟨rfl, rfl⟩ := h
    exact ⟨_, _, rfl, LRel.nil μ, LRel.nil μ⟩
  | func h1 h2 h3 h4 =>
    exact ⟨_, _, rfl, ⟨by simpa using h1, fun i a b ha hb => h2 i a b (by simpa using ha) (by simpa using hb)⟩, ⟨by simpa using h3, fun i a b ha hb => h4 i a b (by simpa using ha) (by simpa using hb)⟩⟩

theorem opA_sound (hC : CSound P C) {o : Oper} {ρ : Operand → Value} {a : Act} {v : Value} {h' : Heap} (S : Sim μ h w) (hf : Free μ h h')
    (hρ : ∀ x ∈ o.op.operands.toList, VRel μ (ρ x) (a.eval x)) (hg : P.globals.size ≤ h.n0) (hbd : ∀ c f, o.op = .call c → c.callee = .value f → (∀ x ∈ o.op.operands.toList, bdV h.next (ρ x) = true) ∧ HeapBd h)
    (e : opA P C o ρ h = some (v, h')) : Good P o a μ h w v h' := by
  have pure_of : ∀ {r : Option Value} {v : Value} {h' : Heap}, r.map (fun v => (v, h)) = some (v, h') → r = some v ∧ h' = h := by
    intro r v h' e
    simp only [Option.map_eq_some_iff, Prod.mk.injEq] at e
    obtain ⟨x, rfl, rfl, rfl⟩ := e
    exact ⟨rfl, rfl⟩
  have hop : ∀ op, o.op = op → (∀ x ∈ op.operands.toList, VRel μ (ρ x) (a.eval x)) := fun op h => h ▸ hρ
  unfold opA at e
  simp only at e
  split at e
  · rename_i x heq
    cases e
    exact good_pure S (s := pure (a.eval x)) (by unfold execOp; rw [heq]; try rfl) ⟨_, rfl, hop _ heq x (by simp [Op.operands])⟩
  · rename_i x heq
    cases e
    exact good_pure S (s := pure (a.eval x)) (by unfold execOp; rw [heq]; try rfl) ⟨_, rfl, hop _ heq x (by simp [Op.operands])⟩
  · rename_i c x y heq
    split at e
    · rename_i t ht
      cases e
      have hc := hop _ heq c (by simp [Op.operands])
      rw [ht] at hc
      refine good_pure S (s := do pure (if ← asBool (a.eval c) then a.eval x else a.eval y)) (by unfold execOp; rw [heq]; simp) ⟨if t then a.eval x else a.eval y, ?_, ?_⟩
      · rw [hc.bool]; cases t <;> simp [asBool]
      · cases t
        · exact hop _ heq y (by simp [Op.operands])
        · exact hop _ heq x (by simp [Op.operands])
    · cases e
  · rename_i t heq
    exact good_value (s := Instr.alloc t true (.tuple #[])) (by unfold execOp; rw [heq]; try rfl) (zero_sound S hf e)
  · rename_i t x heq
    exact good_value (s := Instr.box t (a.eval x)) (by unfold execOp; rw [heq]; try rfl) (box_sound S hf (hop _ heq x (by simp [Op.operands])) e)
  · rename_i t parts heq
    obtain ⟨e2, rfl⟩ := pure_of e
    have hp := pairs_rel (parts := parts) (fun x hx => hop _ heq x (by simpa [Op.operands] using hx))
    exact good_pure S (s := Instr.build t (parts.map fun (i, x) => (i, a.eval x))) (by unfold execOp; rw [heq]; try rfl) (build_sound hp.1 hp.2 e2)
  · rename_i t len parts heq
    have hp := pairs_rel (parts := parts) (fun x hx => hop _ heq x (by simpa [Op.operands] using hx))
    exact good_value (s := Instr.buildSlice t len (parts.map fun (i, x) => (i, a.eval x))) (by unfold execOp; rw [heq]; try rfl) (buildSlice_sound S hf hp.1 hp.2 e)
  · rename_i t x heq
    obtain ⟨rfl, r', hr, hv⟩ := ld_sound (P := P) S (hop _ heq x (by simp [Op.operands])) e
    exact good_pure S (s := Instr.loadAt t (a.eval x)) (by unfold execOp; rw [heq]; try rfl) ⟨r', hr, hv⟩
  · rename_i t x y heq
    exact good_skip (s := Instr.storeAt t (a.eval x) (a.eval y)) (by unfold execOp; rw [heq]; try rfl) (st_sound S (hop _ heq x (by simp [Op.operands])) (hop _ heq y (by simp [Op.operands])) e)
  · rename_i x heq
    obtain ⟨e2, rfl⟩ := pure_of e
    obtain ⟨hv, hx⟩ := nilCheck_rel (hop _ heq x (by simp [Op.operands])) e2
    refine good_pure S (s := pure (a.eval x)) ?_ ⟨_, rfl, hv⟩
    unfold execOp
    rw [heq]
    rcases hx with ⟨b, hx⟩ | ⟨f, b, c, hx⟩
    · simp only [hx]; rfl
    · simp only [hx]; rfl
  · rename_i op t x y u heq
    obtain ⟨e2, rfl⟩ := pure_of e
    have hx := hop _ heq x (by simp [Op.operands])
    have hy := hop _ heq y (by simp [Op.operands])
    refine good_pure S (s := (do eqGuard op t x y (a.eval x) (a.eval y); binOp op t (a.eval x) (a.eval y))) (by unfold execOp; rw [heq]; try rfl) ⟨v, bin_sound hx hy e2, .flat (bin_flat e2)⟩
  · rename_i op t x heq
    obtain ⟨e2, rfl⟩ := pure_of e
    refine good_pure S (s := Op.unary op (a.eval x)) (by unfold execOp; rw [heq]; try rfl) ⟨v, un_sound (hop _ heq x (by simp [Op.operands])) e2, .flat (un_flat e2)⟩
  · rename_i s d x heq
    exact good_value (s := convert s d (a.eval x)) (by unfold execOp; rw [heq]; try rfl) (conv_sound S hf (hop _ heq x (by simp [Op.operands])) e)
  · rename_i t l c heq
    exact good_value (s := Instr.makeSlice t (a.eval l) (a.eval c)) (by unfold execOp; rw [heq]; try rfl) (make_sound S hf (hop _ heq l (by simp [Op.operands])) (hop _ heq c (by simp [Op.operands])) e)
  · rename_i t x lo hi mx heq
    obtain ⟨e2, rfl⟩ := pure_of e
    exact good_pure S (s := Instr.sliceAt t (a.eval x) (lo.map a.eval) (hi.map a.eval) (mx.map a.eval)) (by unfold execOp; rw [heq]; try rfl)
      (slice_sound (hop _ heq x (by simp [Op.operands])) (opt_rel fun y hy => hop _ heq y (by subst hy; simp [Op.operands])) (opt_rel fun y hy => hop _ heq y (by subst hy; simp [Op.operands])) (opt_rel fun y hy => hop _ heq y (by subst hy; simp [Op.operands])) e2)
  · rename_i t x i heq
    obtain ⟨e2, rfl⟩ := pure_of e
    exact good_pure S (s := Instr.fieldAt t (a.eval x) i) (by unfold execOp; rw [heq]; try rfl) (fieldAt_sound (hop _ heq x (by simp [Op.operands])) e2)
  · rename_i t x i heq
    obtain ⟨e2, rfl⟩ := pure_of e
    exact good_pure S (s := Instr.field t (a.eval x) i) (by unfold execOp; rw [heq]; try rfl) (field_sound (hop _ heq x (by simp [Op.operands])) e2)
  · rename_i t x i heq
    obtain ⟨e2, rfl⟩ := pure_of e
    exact good_pure S (s := Instr.indexAt t (a.eval x) (a.eval i)) (by unfold execOp; rw [heq]; try rfl) (indexAt_sound (hop _ heq x (by simp [Op.operands])) (hop _ heq i (by simp [Op.operands])) e2)
  · rename_i t x i heq
    obtain ⟨e2, rfl⟩ := pure_of e
    exact good_pure S (s := Instr.index t (a.eval x) (a.eval i)) (by unfold execOp; rw [heq]; try rfl) (index_sound (hop _ heq x (by simp [Op.operands])) (hop _ heq i (by simp [Op.operands])) e2)
  · rename_i t i heq
    obtain ⟨e2, rfl⟩ := pure_of e
    exact good_pure S (s := Instr.extract (a.eval t) i) (by unfold execOp; rw [heq]; try rfl) (extract_sound (hop _ heq t (by simp [Op.operands])) e2)
  · rename_i c heq
    have hargs : ∀ x ∈ c.args.toList, VRel μ (ρ x) (a.eval x) := fun x hx => hop _ heq x (by
      simp only [Op.operands, Call.operands, Array.toList_append, List.mem_append]; exact .inr hx)
    split at e
    · rename_i b hcb
      have hex := builtin_exec (a := a) heq hcb
      unfold builtinA at e
      split at e
      · rename_i _ _ _ s x t tx ha ht
        obtain ⟨os, l, hos, rfl, hl⟩ := List.map_eq_cons_iff.1 ha
        obtain ⟨ox, l, rfl, rfl, hl2⟩ := List.map_eq_cons_iff.1 hl
        obtain rfl := List.map_eq_nil_iff.1 hl2
        have ec : c.args.map a.eval = #[a.eval os, a.eval ox] := by rw [array_of_list hos]; simp
        have et := array_of_list ht
        have hs := hargs os (by rw [hos]; simp)
        have hx := hargs ox (by rw [hos]; simp)
        split at e
        · rename_i el hel
          have hu := elemT_some hel
          split at e
          · rename_i n by_ z d hn hby hz hd
            split at e
            · cases e
            · rename_i hc
              simp only [Bool.or_eq_true, Bool.not_eq_true', decide_eq_true_eq, not_or, decide_eq_false_iff_not, Decidable.not_not, Bool.not_eq_true] at hc
              refine good_value (s := Builtin.append_ #[t, tx] o.type #[a.eval os, a.eval ox]) ?_ (append_sound hu hd hc.1.1 hn hby hz hc.1.2 (by omega) S hf hs hx e)
              rw [hex, ec, et]; rfl
          · cases e
        · cases e
      · rename_i _ _ _ d s t tx ha ht
        obtain ⟨os, l, hos, rfl, hl⟩ := List.map_eq_cons_iff.1 ha
        obtain ⟨ox, l, rfl, rfl, hl2⟩ := List.map_eq_cons_iff.1 hl
        obtain rfl := List.map_eq_nil_iff.1 hl2
        have ec : c.args.map a.eval = #[a.eval os, a.eval ox] := by rw [array_of_list hos]; simp
        have et := array_of_list ht
        have hs := hargs os (by rw [hos]; simp)
        have hx := hargs ox (by rw [hos]; simp)
        split at e
        · rename_i el hel
          have hu := elemT_some hel
          simp only [Option.bind_eq_some_iff] at e
          obtain ⟨n, hn, e⟩ := e
          obtain ⟨w', hrun, hS, hSt, k, rfl⟩ := copy_sound (P := P) (sT := tx) (ty := o.type) hu hn S hs hx e
          refine good_value (s := Builtin.copy_ #[t, tx] o.type #[a.eval os, a.eval ox]) ?_ ⟨μ, _, w', hrun, hS, hSt, .flat rfl⟩
          rw [hex, ec, et]; rfl
        · cases e
      · rename_i _ _ _ d t ha ht
        obtain ⟨os, l, hos, rfl, hl⟩ := List.map_eq_cons_iff.1 ha
        obtain rfl := List.map_eq_nil_iff.1 hl
        have ec : c.args.map a.eval = #[a.eval os] := by rw [array_of_list hos]; simp
        have et := array_of_list ht
        have hs := hargs os (by rw [hos]; simp)
        split at e
        · rename_i el hel
          have hu := elemT_some hel
          simp only [Option.bind_eq_some_iff] at e
          obtain ⟨n, hn, e⟩ := e
          obtain ⟨w', hrun, hS, hSt, rfl⟩ := clear_sound (P := P) (ty := o.type) hu S hs e
          refine good_value (s := Builtin.clear_ #[t] o.type #[a.eval os]) ?_ ⟨μ, _, w', hrun, hS, hSt, undef_rel⟩
          rw [hex, ec, et]; rfl
        · cases e
      · rename_i _ _ _ x t ha ht
        obtain ⟨os, l, hos, rfl, hl⟩ := List.map_eq_cons_iff.1 ha
        obtain rfl := List.map_eq_nil_iff.1 hl
        have ec : c.args.map a.eval = #[a.eval os] := by rw [array_of_list hos]; simp
        have et := array_of_list ht
        have hs := hargs os (by rw [hos]; simp)
        obtain ⟨e2, rfl⟩ := pure_of e
        obtain ⟨hr, hfl⟩ := len_sound (P := P) (w := w) (ty := o.type) hs e2
        refine good_pure S (s := Builtin.len_ #[t] o.type #[a.eval os]) ?_ ⟨_, hr, .flat hfl⟩
        rw [hex, ec, et]; rfl
      · rename_i _ _ _ x y r ha
        obtain ⟨e2, rfl⟩ := pure_of e
        obtain ⟨hfl, hfr⟩ := minmax_ints e2 (by simp)
        have hl := list_rel hargs
        rw [ha] at hl
        have hq := hl.flat_eq hfl
        obtain ⟨hr, _⟩ := max_fold (P := P) (w := w) _ _ _ e2
        refine good_pure S (s := Builtin.max_ c.argTypes o.type (c.args.map a.eval)) (by rw [hex]; rfl) ⟨_, ?_, .flat hfr⟩
        unfold Builtin.max_
        rw [Array.toList_map, hq]
        exact hr
      · rename_i _ _ _ x y r ha
        obtain ⟨e2, rfl⟩ := pure_of e
        obtain ⟨hfl, hfr⟩ := minmax_ints e2 (by simp)
        have hl := list_rel hargs
        rw [ha] at hl
        have hq := hl.flat_eq hfl
        obtain ⟨hr, _⟩ := min_fold (P := P) (w := w) _ _ _ e2
        refine good_pure S (s := Builtin.min_ c.argTypes o.type (c.args.map a.eval)) (by rw [hex]; rfl) ⟨_, ?_, .flat hfr⟩
        unfold Builtin.min_
        rw [Array.toList_map, hq]
        exact hr
      · cases e
    · rename_i f hcv
      have hfv : VRel μ (ρ f) (a.eval f) := hop _ heq f (by simp [Op.operands, Call.operands, hcv])
      unfold callA at e
      split at e
      · rename_i i first captured hfe
        rw [hfe] at hfv
        obtain ⟨first', captured', hfe', h1, h2⟩ := hfv.func_iff
        obtain ⟨fn, hfn, hname, hbody⟩ := hC.fn _ _ _ _ _ e
        have hall := (h1.append (list_rel hargs)).append h2
        obtain ⟨hbo, hbh⟩ := hbd c f heq hcv
        rw [heq] at hbo
        have hba : bdL h.next (first.toList ++ c.args.toList.map ρ ++ captured.toList) = true := by
          have hff := hbo f (by simp [Op.operands, Call.operands, hcv])
          rw [hfe] at hff
          obtain ⟨lf⟩ := first
          obtain ⟨lc⟩ := captured
          simp only [bdV, Bool.and_eq_true] at hff
          refine bdL_append (bdL_append hff.1 ?_) hff.2
          rw [bdL_iff]
          intro y hy
          obtain ⟨x, hx, rfl⟩ := List.mem_map.1 hy
          exact hbo x (by simp only [Op.operands, Call.operands, Array.toList_append, List.mem_append]; exact .inr hx)
        have hcalls := hC.run _ _ _ _ _ e hba hbh hg μ w _ S hf hall
        intro K Q hK
        unfold Oper.wp execOp
        rw [heq]
        simp only
        have hres : (do let d ← resolve a.eval c o.type; invoke d.target d.args : Sem Next).run P w = .ok (.enter i ((first'.toList ++ c.args.toList.map a.eval ++ captured'.toList).toArray)) w := by
          unfold resolve
          rw [hcv]
          simp only [hfe', Deferred.ofValue, Sem.run_bind, Sem.run_pure, Result.andThen_ok, invoke, callFunc, run_program, hfn, hname, hbody, Bool.false_eq_true, if_false]
          congr 2
          apply Array.ext'
          simp
        rw [hres]
        simp only [Oper.upon]
        refine hcalls.mono ?_
        rintro e w' ⟨μ', v', rfl, hS, hSt, hv⟩
        exact hK μ' v' w' hS hSt hv
      · cases e
    · cases e
  · cases e

end ops
end Go.Abs

