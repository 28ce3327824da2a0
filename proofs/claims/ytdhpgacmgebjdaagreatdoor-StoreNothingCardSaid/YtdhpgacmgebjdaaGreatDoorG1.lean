/-
  The abstract machine: heap, values, operations and code as plain functions; nothing is proved here.
  Conditions: none (definitions).
  The abstract machine: the tree of blocks and the heap as maps; how abstract values and heaps stand to the model's.
  Conditions: none (definitions and lemmas).
  The abstract machine: reading, writing and making memory, as the model does it.
  Conditions: none (lemmas).
  The abstract machine: each operation but calls and builtins, as the model does it.
  Conditions: none (lemmas).
-/
import Derived.Orders
import Derived.Scope
import Derived.WalkKit
namespace Go.Abs

/-- A block: its cells. -/
abbrev Blk := List Value

/-- How a piece of code ends. -/
inductive Ex where
  | normal | ret | exit (id : Nat)
  deriving DecidableEq

/-- Objects other than cells: a map (keys, values, births) and its clock; an iterator over a map; a loop over a function: its state, the jump that waits, the frame's values, the parameters and the code. -/
inductive MObj where
  | map (es : List (Value × Value × Nat)) (clock : Nat)
  | iter (m : Option Nat) (since : Nat) (seen : List Nat) (stepped : Nat)
  | loop (st : LoopState) (pend : Option Ex) (tmps : List Value) (params : List Tmp) (assign body : Code)
inductive BB where
  | cells (k : Blk)
  | obj (o : MObj)
def BB.blk : BB → Option Blk
  | .cells k => some k
  | .obj _ => none

/-- A tree of blocks, by number. -/
inductive Tr where
  | nil
  | node (l : Tr) (v : Option BB) (r : Tr)

/-! The tree's functions are written with bare recursors: the kernel runs them. -/
noncomputable section
def Tr.get (t : Tr) : Nat → Option BB :=
  Tr.rec (motive := fun _ => Nat → Option BB) (fun _ => none) (fun _ v _ il ir n => Nat.rec (motive := fun _ => Option BB) v (fun m _ => Bool.rec (motive := fun _ => Option BB) (il (Nat.div m 2)) (ir (Nat.div m 2)) (Nat.beq (Nat.mod m 2) 1)) n) t
def Tr.setF (f : Nat) (t : Tr) (n : Nat) (x : Option BB) : Tr :=
  Nat.rec (motive := fun _ => Tr → Nat → Tr) (fun t _ => t)
    (fun _ ih t n => Tr.rec (motive := fun _ => Tr)
      (Nat.rec (motive := fun _ => Tr) (.node .nil x .nil) (fun m _ => Bool.rec (motive := fun _ => Tr) (.node (ih .nil (Nat.div m 2)) none .nil) (.node .nil none (ih .nil (Nat.div m 2))) (Nat.beq (Nat.mod m 2) 1)) n)
      (fun l v r _ _ => Nat.rec (motive := fun _ => Tr) (.node l x r) (fun m _ => Bool.rec (motive := fun _ => Tr) (.node (ih l (Nat.div m 2)) v r) (.node l v (ih r (Nat.div m 2))) (Nat.beq (Nat.mod m 2) 1)) n) t) f t n

def Tr.set (t : Tr) (n : Nat) (x : Option BB) : Tr := Tr.setF (n + 1) t n x

/-- Blocks below n0 are those of the world in which the run began, as far as 'old' shows them; nobody writes there. -/
structure Heap where
  n0 : Nat
  old : Nat → Option (List Value)
  new : Tr
  cnt : Nat

def Heap.next (h : Heap) : Nat := h.n0 + h.cnt
/-- A block, of cells or another; the cells of a block of cells. -/
def Heap.getB (h : Heap) (b : Nat) : Option BB :=
  Heap.rec (motive := fun _ => Option BB) (fun n0 old new cnt => Bool.rec (motive := fun _ => Option BB) (Bool.rec (motive := fun _ => Option BB) none (new.get (Nat.sub b n0)) (Nat.blt b (Nat.add n0 cnt))) ((old b).map .cells) (Nat.blt b n0)) h
theorem Heap.getB_eq (h : Heap) (b : Nat) : h.getB b = if b < h.n0 then (h.old b).map .cells else if b < h.n0 + h.cnt then h.new.get (b - h.n0) else none := by
  show Bool.rec (motive := fun _ => Option BB) (Bool.rec (motive := fun _ => Option BB) none (h.new.get (Nat.sub b h.n0)) (Nat.blt b (Nat.add h.n0 h.cnt))) ((h.old b).map .cells) (Nat.blt b h.n0) = _
  have k : ∀ m n : Nat, Nat.blt m n = decide (m < n) := by
    intro m n
    cases h : Nat.blt m n with
    | true => rw [decide_eq_true (by simpa using h)]
    | false => rw [decide_eq_false]; intro hh; rw [show Nat.blt m n = true by simpa using hh] at h; cases h
  rw [k, k]
  by_cases h1 : b < h.n0
  · rw [decide_eq_true h1, if_pos h1]
  · rw [decide_eq_false h1, if_neg h1]
    by_cases h2 : b < h.n0 + h.cnt
    · rw [if_pos h2]
      have : decide (b < Nat.add h.n0 h.cnt) = true := decide_eq_true h2
      rw [this]; rfl
    · rw [if_neg h2]
      have : decide (b < Nat.add h.n0 h.cnt) = false := decide_eq_false h2
      rw [this]
def Heap.get (h : Heap) (b : Nat) : Option Blk := (h.getB b).bind BB.blk
def Heap.put (h : Heap) (b : Nat) (x : Option BB) : Heap := Heap.rec (motive := fun _ => Heap) (fun n0 old new cnt => ⟨n0, old, new.set (b - n0) x, cnt⟩) h
def Heap.set (h : Heap) (b : Nat) (x : Blk) : Heap := h.put b (some (.cells x))
def Heap.setO (h : Heap) (b : Nat) (x : MObj) : Heap := h.put b (some (.obj x))
def Heap.kill (h : Heap) (b : Nat) : Heap := h.put b none
def Heap.allocB (h : Heap) (x : BB) : Heap := Heap.rec (motive := fun _ => Heap) (fun n0 old new cnt => ⟨n0, old, new.set cnt (some x), cnt + 1⟩) h
def Heap.alloc (h : Heap) (x : Blk) : Heap := h.allocB (.cells x)

abbrev Out := Option (Value × Heap)

/-- Values of one cell that lead to no memory. -/
def flat : Value → Bool
  | .bool _ | .int _ _ | .float _ _ | .complex _ _ _ | .string _ | .pointer none | .slice none _ _ | .map none | .chan none | .nilFunc | .nilIface => true
  | .func (.func _) f c => f.isEmpty && c.isEmpty
  | _ => false

def flatAll (l : List Value) : Bool := l.all flat

/-- Values that lead to no memory. -/
def ground : Value → Bool
  | .agg cs => flatAll cs.toList
  | v => flat v

def aggT (P : Program) (t : TypeId) : Option Bool :=
  match P.underlying t with
  | some (.struct _) | some (.array _ _) => some true
  | some _ => some false
  | none => none
def sizeT (P : Program) (t : TypeId) : Option Nat := (P.info? t).map (·.size)
def bytesT (P : Program) (t : TypeId) : Option Nat := (P.info? t).map (·.bytes)
def zeroT (P : Program) (t : TypeId) : Option Value := (P.info? t).bind (·.zero)
def elemT (P : Program) (t : TypeId) : Option TypeId :=
  match P.underlying t with
  | some (.slice e) => some e
  | _ => none

def splice (l : List Value) (off : Nat) (xs : List Value) : List Value := l.take off ++ xs ++ l.drop (off + xs.length)

def ptr (b off : Nat) : Value := .pointer (some ⟨b, off, none⟩)

/-- A cell of old memory that nobody has told anything of. -/
def isHole : Value → Bool
  | .chan (some _) => true
  | _ => false
def noHoles (l : List Value) : Bool := l.all fun v => !(isHole v)

def ld1 (v : Value) (h : Heap) : Out :=
  match v with
  | .pointer (some ⟨b, off, none⟩) =>
    match h.get b with
    | some k => match k[off]? with
      | some c => if isHole c = false then some (c, h) else none
      | none => none
    | none => none
  | _ => none

def ldN (n : Nat) (v : Value) (h : Heap) : Out :=
  match v with
  | .pointer (some ⟨b, off, none⟩) =>
    match h.get b with
    | some k => if off + n ≤ k.length ∧ noHoles ((k.drop off).take n) = true then some (.agg ((k.drop off).take n).toArray, h) else none
    | none => none
  | _ => none

def ld (P : Program) (t : TypeId) (v : Value) (h : Heap) : Out :=
  match aggT P t, sizeT P t with
  | some true, some n => ldN n v h
  | some false, some _ => ld1 v h
  | _, _ => none

def oneCells (l : List Value) : Bool := l.all Value.oneCell'

/-- Cells are written behind one another. -/
def stL (b off : Nat) (xs : List Value) (h : Heap) : Option Heap :=
  match h.get b with
  | some k => if h.n0 ≤ b && (off + xs.length ≤ k.length) && oneCells xs then some (h.set b (splice k off xs)) else none
  | none => none

def stN (n : Nat) (v x : Value) (h : Heap) : Out :=
  match v with
  | .pointer (some ⟨b, off, none⟩) =>
    if x.cells.size = n then (stL b off x.cells.toList h).map fun h' => (undef, h') else none
  | _ => none

def st (P : Program) (t : TypeId) (v x : Value) (h : Heap) : Out :=
  match sizeT P t with
  | some n => stN n v x h
  | none => none

def newRow (cells : List Value) (h : Heap) : Value × Heap := (ptr h.next 0, h.alloc cells)

def box (v : Value) (h : Heap) : Out := if oneCells v.cells.toList then some (newRow v.cells.toList h) else none

def zero (P : Program) (t : TypeId) (h : Heap) : Out :=
  match zeroT P t with
  | some z => if flatAll z.cells.toList then some (newRow z.cells.toList h) else none
  | none => none

/-- Parts laid into a row of cells: place, size, value. -/
def fillL : List Value → List (Nat × Nat × Value) → Option (List Value)
  | cells, [] => some cells
  | cells, (off, n, v) :: rest =>
    if v.cells.size = n && (off + n ≤ cells.length) then fillL (splice cells off v.cells.toList) rest else none

def fieldPlaces (P : Program) (fs : Array Field) (parts : List (Nat × Value)) : Option (List (Nat × Nat × Value)) :=
  parts.mapM fun x =>
    match fs[x.1]? with
    | some f => (sizeT P f.type).map fun n => (f.offset, n, x.2)
    | none => none

def allSizes (P : Program) (fs : Array Field) : Bool := fs.toList.all fun f => (sizeT P f.type).isSome

def buildA (P : Program) (t : TypeId) (parts : List (Nat × Value)) : Option Value :=
  match zeroT P t, P.underlying t with
  | some z, some (.struct fs) =>
    if flatAll z.cells.toList && allSizes P fs then
      match fieldPlaces P fs parts with
      | some ps => (fillL z.cells.toList ps).map fun cs => .agg cs.toArray
      | none => none
    else none
  | some z, some (.array _ e) =>
    match sizeT P e with
    | some n => if flatAll z.cells.toList then (fillL z.cells.toList (parts.map fun x => (x.1 * n, n, x.2))).map fun cs => .agg cs.toArray else none
    | none => none
  | _, _ => none

def zeros (z : List Value) (n : Nat) : List Value := (List.range n).flatMap fun _ => z

def buildSliceA (P : Program) (t : TypeId) (len : Nat) (parts : List (Nat × Value)) (h : Heap) : Out :=
  match elemT P t with
  | some e => match sizeT P e, zeroT P e with
    | some n, some z =>
      if flatAll z.cells.toList && z.cells.size = n && 0 < n && len * n ≤ 16777216 && oneCells (parts.flatMap fun x => x.2.cells.toList) then
        match fillL (zeros z.cells.toList len) (parts.map fun x => (x.1 * n, n, x.2)) with
        | some cs => some (.slice (some ⟨h.next, 0, none⟩) len len, h.alloc cs)
        | none => none
      else none
    | _, _ => none
  | none => none

def nilCheckA : Value → Option Value
  | .pointer (some a) => some (.pointer (some a))
  | .func (.func f) x c => some (.func (.func f) x c)
  | .func (.yield l) x c => some (.func (.yield l) x c)
  | _ => none

def bitsA (op : BinOp) (k : IntKind) (x y : Int) : Option Value :=
  let a := BitVec.ofInt k.bits x
  let b := BitVec.ofInt k.bits y
  match op with
  | .and => some (.int k (k.wrap (a &&& b).toNat))
  | .or => some (.int k (k.wrap (a ||| b).toNat))
  | .xor => some (.int k (k.wrap (a ^^^ b).toNat))
  | .andNot => some (.int k (k.wrap (a &&& ~~~b).toNat))
  | _ => none

def binI (op : BinOp) (k k' : IntKind) (a b : Int) : Option Value :=
  match op with
  | .shl => if b < 0 then none else some (.int k (k.wrap (a * 2 ^ (min b.toNat k.bits))))
  | .shr => if b < 0 then none else some (.int k (a.fdiv (2 ^ (min b.toNat k.bits))))
  | op => if k ≠ k' then none else
    match op with
    | .add => some (.int k (k.wrap (a + b)))
    | .sub => some (.int k (k.wrap (a - b)))
    | .mul => some (.int k (k.wrap (a * b)))
    | .quo => if b = 0 then none else some (.int k (k.wrap (a.tdiv b)))
    | .rem => if b = 0 then none else some (.int k (a.tmod b))
    | .eql => some (.bool (a == b))
    | .neq => some (.bool (a != b))
    | .lss => some (.bool (a < b))
    | .leq => some (.bool (a ≤ b))
    | .gtr => some (.bool (a > b))
    | .geq => some (.bool (a ≥ b))
    | op => bitsA op k a b

/-- A program of the model that looks at nothing and changes nothing. -/
def pureRun {α : Type} (P : Program) : Sem α → Option α
  | .pure a => some a
  | .program k => pureRun P (k P)
  | _ => none

def binA (P : Program) (op : BinOp) (t : TypeId) (x y : Value) : Option Value :=
  match x, y with
  | .int k a, .int k' b => binI op k k' a b
  | .pointer a, .pointer b =>
    match P.underlying t, a, b, op with
    | some (.pointer _), none, b, .eql => some (.bool b.isNone)
    | some (.pointer _), none, b, .neq => some (.bool !b.isNone)
    | some (.pointer _), some _, none, .eql => some (.bool false)
    | some (.pointer _), some _, none, .neq => some (.bool true)
    | _, _, _, _ => none
  | .slice a _ _, .slice b _ _ =>
    match P.underlying t, a, b, op with
    | some (.slice _), none, b, .eql => some (.bool b.isNone)
    | some (.slice _), none, b, .neq => some (.bool !b.isNone)
    | some (.slice _), some _, none, .eql => some (.bool false)
    | some (.slice _), some _, none, .neq => some (.bool true)
    | _, _, _, _ => none
  | .map a, .map b =>
    match P.underlying t, a, b, op with
    | some (.map _ _), none, b, .eql => some (.bool b.isNone)
    | some (.map _ _), none, b, .neq => some (.bool !b.isNone)
    | some (.map _ _), some _, none, .eql => some (.bool false)
    | some (.map _ _), some _, none, .neq => some (.bool true)
    | _, _, _, _ => none
  | x, y => if ground x && ground y then
      match pureRun P (binOp op t x y) with
      | some r => if flat r then some r else none
      | none => none
    else none

/-- The guard in front of an equality: of use for interfaces alone. -/
def eqOk (P : Program) (op : BinOp) (t : TypeId) (x y : Value) : Bool :=
  match op, x, y with
  | .eql, .agg _, .agg _ | .neq, .agg _, .agg _ => !(P.eqGuardType P.depth t)
  | .eql, .nilIface, .nilIface | .neq, .nilIface, .nilIface => false
  | _, _, _ => true

def bin (P : Program) (op : BinOp) (t : TypeId) (x y : Value) : Option Value := if eqOk P op t x y then binA P op t x y else none

def unA (op : UnOp) (x : Value) : Option Value :=
  match op, x with
  | .neg, .int k n => some (.int k (k.wrap (0 - n)))
  | .xor, .int k n => bitsA .xor k (if k.signed then -1 else k.max) n
  | .not, .bool b => some (.bool !b)
  | _, _ => none

/-- The cells of a slice, or the bytes of a string; n of them from the first. -/
def firstA (size n : Nat) (x : Value) (h : Heap) : Option (List Value) :=
  match x with
  | .slice none _ _ => if n = 0 then some [] else none
  | .slice (some ⟨b, off, _⟩) _ _ =>
    if n * size = 0 then some [] else
    match h.get b with
    | some k => if off + n * size ≤ k.length ∧ noHoles ((k.drop off).take (n * size)) = true then some ((k.drop off).take (n * size)) else none
    | none => none
  | .string s => some ((s.extract 0 n).data.toList.map fun b => .int .u8 b.toNat)
  | _ => none

def lenA : Value → Option Nat
  | .slice _ n _ => some n
  | .string s => some s.size
  | _ => none

def asByte : Value → Option UInt8
  | .int .u8 n => some (UInt8.ofNat n.toNat)
  | _ => none

def convA (P : Program) (src dst : TypeId) (x : Value) (h : Heap) : Out :=
  match P.underlying src, P.underlying dst, x with
  | some _, some (.int k), .int _ n => some (.int k (k.wrap n), h)
  | some _, some .string, .string s => some (.string s, h)
  | some _, some (.slice e), .string s =>
    match P.underlying e with
    | some (.int .u8) => if s.size ≤ 140737488355328 then some (.slice (some ⟨h.next, 0, some 1⟩) s.size s.size, h.alloc (s.data.toList.map fun b => .int .u8 b.toNat)) else none
    | _ => none
  | some (.slice _), some (.slice e), .slice (some a) n c =>
    match P.underlying e with
    | some (.int .u8) => if src = dst && h.n0 ≤ a.block && (h.get a.block).isSome && !(a.spot == some 0) then some (.slice (some a) n c, h) else none
    | _ => none
  | some (.slice e), some .string, .slice a n c =>
    match P.underlying e with
    | some (.int .u8) =>
      match firstA 1 n (.slice a n c) h with
      | some l => match l.mapM asByte with
        | some bs => some (.string ⟨bs.toArray⟩, h)
        | none => none
      | none => none
    | _ => none
  | _, _, _ => none

def makeA (P : Program) (t : TypeId) (len cap : Value) (h : Heap) : Out :=
  match elemT P t, len, cap with
  | some e, .int .i64 l, .int .i64 c =>
    match sizeT P e, bytesT P e, zeroT P e with
    | some n, some by_, some z =>
      if 0 ≤ l && l ≤ c && c ≤ 9223372036854775807 && by_ * c ≤ 281474976710656 && flatAll z.cells.toList && z.cells.size = n && 0 < n then
        some (.slice (some ⟨h.next, 0, none⟩) l.toNat c.toNat, h.alloc (zeros z.cells.toList c.toNat))
      else none
    | _, _, _ => none
  | _, _, _ => none

/-- An optional bound of a slice expression. -/
def boundA (d : Nat) (y : Nat) : Option Value → Option Nat
  | none => some d
  | some (.int _ i) => if 0 ≤ i ∧ i ≤ y then some i.toNat else none
  | some _ => none

def boundsA (len cap : Nat) (lo hi mx : Option Value) : Option (Nat × Nat × Nat) :=
  match boundA cap cap mx with
  | some m =>
    match hi, mx with
    | none, some _ => none
    | _, _ =>
      match boundA len m hi with
      | some h => match boundA 0 h lo with
        | some l => some (l, h, m)
        | none => none
      | none => none
  | none => none

def sliceArr (n size : Nat) (x : Value) (lo hi mx : Option Value) : Option Value :=
  match x with
  | .pointer (some ⟨b, off, none⟩) =>
    match boundsA n n lo hi mx with
    | some (l, h, m) => some (.slice (some ⟨b, if m = l then off else off + l * size, none⟩) (h - l) (m - l))
    | none => none
  | _ => none

def sliceSl (size : Nat) (x : Value) (lo hi mx : Option Value) : Option Value :=
  match x with
  | .slice none len cap =>
    match boundsA len cap lo hi mx with
    | some (l, h, m) => some (.slice none (h - l) (m - l))
    | none => none
  | .slice (some ⟨b, off, none⟩) len cap =>
    match boundsA len cap lo hi mx with
    | some (l, h, m) => some (.slice (some ⟨b, if m = l then off else off + l * size, none⟩) (h - l) (m - l))
    | none => none
  | .slice (some ⟨b, off, some s⟩) len cap =>
    match mx with
    | some u => match boundsA len cap lo hi (some u) with
      | some (l, h, m) => if s = size ∧ s ≠ 0 then (if m = l then some (.slice (some ⟨b, off, some s⟩) 0 0) else some (.slice (some ⟨b, off + l * size, none⟩) (h - l) (m - l))) else none
      | none => none
    | none => match boundsA len cap lo hi none with
      | some (l, h, m) => if s = size ∧ s ≠ 0 then some (.slice (some ⟨b, off + l * size, some s⟩) (h - l) (m - l)) else if s = 0 ∧ len = 0 ∧ cap = 0 then some (.slice (some ⟨b, off, some 0⟩) 0 0) else none
      | none => none
  | .string s =>
    match mx with
    | some _ => none
    | none => match boundsA s.size s.size lo hi none with
      | some (l, h, _) => some (.string (s.extract l h))
      | none => none
  | _ => none

def sliceA (P : Program) (t : TypeId) (x : Value) (lo hi mx : Option Value) : Option Value :=
  match P.underlying t with
  | some (.array n e) => (sizeT P e).bind fun z => sliceArr n z x lo hi mx
  | some (.pointer arr) => match P.underlying arr with
    | some (.array n e) => (sizeT P e).bind fun z => sliceArr n z x lo hi mx
    | _ => none
  | some (.slice e) => match x with
    | .string _ => none
    | x => (sizeT P e).bind fun z => sliceSl z x lo hi mx
  | some .string => match x with
    | .string s => sliceSl 1 (.string s) lo hi mx
    | _ => none
  | _ => none

def addP (v : Value) (n : Nat) : Option Value :=
  match v with
  | .pointer (some ⟨b, off, none⟩) => some (ptr b (off + n))
  | _ => none

def fieldAtA (P : Program) (t : TypeId) (x : Value) (i : Nat) : Option Value :=
  match P.underlying t with
  | some (.struct fs) => match fs[i]? with
    | some f => match sizeT P f.type with
      | some n => if n = 0 then none else addP x f.offset
      | none => none
    | none => none
  | _ => none

def idxA (n size : Nat) (v ix : Value) : Option Value :=
  match ix with
  | .int _ i => if 0 ≤ i ∧ i < n then addP v (i.toNat * size) else none
  | _ => none

def idxS (size : Nat) (v ix : Value) : Option Value :=
  match v, ix with
  | .slice (some ⟨b, off, _⟩) len _, .int _ i => if 0 ≤ i ∧ i < len then some (ptr b (off + i.toNat * size)) else none
  | _, _ => none

def indexAtA (P : Program) (t : TypeId) (x ix : Value) : Option Value :=
  match P.underlying t with
  | some (.array n e) => (sizeT P e).bind fun z => idxA n z x ix
  | some (.slice e) => (sizeT P e).bind fun z => idxS z x ix
  | _ => none

def partA (P : Program) (t : TypeId) (cs : Array Value) (off : Nat) : Option Value :=
  match aggT P t, sizeT P t with
  | some true, some n => some (.agg (cs.extract off (off + n)))
  | some false, some _ => cs[off]?
  | _, _ => none

def fieldA (P : Program) (t : TypeId) (x : Value) (i : Nat) : Option Value :=
  match P.underlying t, x with
  | some (.struct fs), .agg cs => match fs[i]? with
    | some f => partA P f.type cs f.offset
    | none => none
  | _, _ => none

def indexA (P : Program) (t : TypeId) (x ix : Value) : Option Value :=
  match P.underlying t, x, ix with
  | some (.array n e), .agg cs, .int _ i => if 0 ≤ i ∧ i < n then (sizeT P e).bind fun z => partA P e cs (i.toNat * z) else none
  | some .string, .string s, .int _ i => if 0 ≤ i then (s[i.toNat]?).map fun b => .int .u8 b.toNat else none
  | _, _, _ => none

def extractA (t : Value) (i : Nat) : Option Value :=
  match t with
  | .tuple vs => vs[i]?
  | _ => none

/-- append: in place where the room is known; else into a new block: the old one of a slice with hidden capacity is gone then. -/
def appendA (size by_ : Nat) (s x : Value) (h : Heap) : Out :=
  match s, lenA x with
  | .slice base len cap, some m =>
    match firstA size m x h with
    | none => none
    | some news =>
      if !(oneCells news) || !((len + m) * by_ ≤ 140737488355328) || !(len + m ≤ 4611686018427387904) || news.length ≠ m * size then none else
      if len + m ≤ cap then
        if m = 0 then some (s, h) else
        match base with
        | some ⟨b, off, _⟩ => (stL b (off + len * size) news h).map fun h' => (.slice base (len + m) cap, h')
        | none => none
      else
        match base with
        | none => if len = 0 then some (.slice (some ⟨h.next, 0, some size⟩) (len + m) (len + m), h.alloc news) else none
        | some ⟨b, off, sp⟩ =>
          match firstA size len s h with
          | none => none
          | some olds =>
            if olds.length ≠ len * size then none else
            match sp with
            | none => some (.slice (some ⟨h.next, 0, some size⟩) (len + m) (len + m), h.alloc (olds ++ news))
            | some z => if z = size && h.n0 ≤ b && (h.get b).isSome then some (.slice (some ⟨h.next, 0, some size⟩) (len + m) (len + m), (h.kill b).alloc (olds ++ news)) else none
  | _, _ => none

def copyA (size : Nat) (d s : Value) (h : Heap) : Out :=
  match d, lenA s with
  | .slice base dLen _, some m =>
    let n := min m dLen
    match firstA size n s h with
    | none => none
    | some news =>
      if n = 0 then some (.int .i64 n, h) else
      match base with
      | none => none
      | some ⟨b, off, _⟩ => (stL b off news h).map fun h' => (.int .i64 n, h')
  | _, _ => none

def clearA (P : Program) (e : TypeId) (size : Nat) (d : Value) (h : Heap) : Out :=
  match d with
  | .slice none _ _ => some (undef, h)
  | .slice (some ⟨b, off, _⟩) n _ =>
    if n = 0 then some (undef, h) else
    match zeroT P e with
    | some z => if flatAll z.cells.toList && z.cells.size = size && 0 < size then (stL b off (zeros z.cells.toList n) h).map fun h' => (undef, h') else none
    | none => none
  | _ => none

def lenOfT (P : Program) (t : TypeId) (x : Value) : Option Value :=
  match P.underlying t, x with
  | some .string, .string s => some (.int .i64 s.size)
  | some (.array n _), _ => some (.int .i64 n)
  | some (.pointer arr), _ => match P.underlying arr with
    | some (.array n _) => some (.int .i64 n)
    | _ => none
  | some (.slice _), .slice _ n _ => some (.int .i64 n)
  | _, _ => none

def minmax (mx : Bool) : Value → List Value → Option Value
  | v, [] => some v
  | .int k x, .int k' y :: rest => if k = k' then minmax mx (.int k (if (if mx then y > x else y < x) then y else x)) rest else none
  | _, _ => none

/-! Maps. -/
def mapT (P : Program) (t : TypeId) : Option (TypeId × TypeId) :=
  match P.underlying t with
  | some (.map k e) => some (k, e)
  | _ => none

/-- Does a value have the shape of a key's type, and no interface in it? -/
def keyOk (P : Program) : Nat → TypeId → Value → Bool
  | 0, _, _ => false
  | n + 1, t, v =>
    match P.underlying t, v with
    | some (.interface _), _ => false
    | some (.array len e), .agg cs =>
      match sizeT P e with
      | some z => (List.range len).all fun i => match partA P e cs (i * z) with
        | some x => keyOk P n e x
        | none => false
      | none => false
    | some (.struct fs), .agg cs => fs.toList.all fun f => match partA P f.type cs f.offset with
        | some x => keyOk P n f.type x
        | none => false
    | some (.array _ _), _ | some (.struct _), _ => false
    | some _, _ => true
    | none, _ => false

/-- Are two keys equal? -/
def eqA (P : Program) (t : TypeId) (x y : Value) : Option Bool := if ground x && ground y then pureRun P (Op.equal t x y) else none

/-- The entry of a key: its place and its value. -/
def findA (P : Program) (t : TypeId) (k : Value) : List (Value × Value × Nat) → Nat → Option (Option (Nat × Value))
  | [], _ => some none
  | e :: es, i => match eqA P t k e.1 with
    | some true => some (some (i, e.2.1))
    | some false => findA P t k es (i + 1)
    | none => none

/-- The entries of a map. -/
def entriesA (x : Value) (h : Heap) : Option (List (Value × Value × Nat)) :=
  match x with
  | .map none => some []
  | .map (some b) => match h.getB b with
    | some (.obj (.map es _)) => some es
    | _ => none
  | _ => none

def lookupA (P : Program) (t : TypeId) (x k : Value) (ok : Bool) (h : Heap) : Out :=
  match mapT P t, entriesA x h with
  | some (kt, et), some es =>
    if keyOk P 10000 kt k && ground k then
      match findA P kt k es 0, zeroT P et with
      | some (some (_, v)), some _ => some (if ok then .tuple #[v, .bool true] else v, h)
      | some none, some z => if ground z then some (if ok then .tuple #[z, .bool false] else z, h) else none
      | _, _ => none
    else none
  | _, _ => none

def mapUpdateA (P : Program) (t : TypeId) (m k v : Value) (h : Heap) : Out :=
  match mapT P t, m with
  | some (kt, _), .map (some b) => match h.getB b with
    | some (.obj (.map es clock)) =>
      if keyOk P 10000 kt k && ground k then
        match findA P kt k es 0 with
        | some (some (i, _)) => match es[i]? with
          | some x => if Instr.sameBits 10000 x.1 k then some (undef, h.setO b (.map (es.set i (k, v, x.2.2)) clock)) else none
          | none => none
        | some none => some (undef, h.setO b (.map (es ++ [(k, v, clock)]) (clock + 1)))
        | none => none
      else none
    | _ => none
  | _, _ => none

/-- m[k] op= v: the entry is made where it is not there; its value and its stamp. -/
def mapEntryA (P : Program) (t : TypeId) (m k : Value) (h : Heap) : Out :=
  match mapT P t, m with
  | some (kt, et), .map (some b) => match h.getB b with
    | some (.obj (.map es clock)) =>
      if keyOk P 10000 kt k && ground k then
        match findA P kt k es 0 with
        | some (some (i, v)) => match es[i]? with
          | some x => if Instr.sameBits 10000 x.1 k then some (.tuple #[v, goInt x.2.2], h.setO b (.map (es.set i (k, x.2.1, x.2.2)) clock)) else none
          | none => none
        | some none => match zeroT P et with
          | some z => if ground z then some (.tuple #[z, goInt clock], h.setO b (.map (es ++ [(k, z, clock)]) (clock + 1))) else none
          | none => none
        | none => none
      else none
    | _ => none
  | _, _ => none

def entryStoreA (m s v : Value) (h : Heap) : Out :=
  match m, s with
  | .map (some b), .int _ n => match h.getB b with
    | some (.obj (.map es clock)) =>
      match es.findIdx? (fun e => (e.2.2 : Int) == n) with
      | some i => match es[i]? with
        | some x => some (undef, h.setO b (.map (es.set i (x.1, v, x.2.2)) clock))
        | none => none
      | none => none
    | _ => none
  | _, _ => none

def makeMapA (r : Option Value) (P : Program) (t : TypeId) (h : Heap) : Out :=
  match r with
  | none => some (.map (some h.next), h.allocB (.obj (.map [] 0)))
  | some (.int _ _) => if (mapT P t).isSome then some (.map (some h.next), h.allocB (.obj (.map [] 0))) else none
  | some _ => none

def rangeA (P : Program) (t : TypeId) (x : Value) (h : Heap) : Out :=
  match mapT P t, x with
  | some _, .map none => some (ptr h.next 0, h.allocB (.obj (.iter none 0 [] 0)))
  | some _, .map (some b) => match h.getB b with
    | some (.obj (.map _ clock)) => some (ptr h.next 0, h.allocB (.obj (.iter (some b) clock [] clock)))
    | _ => none
  | _, _ => none

/-- What may come next: an entry, or the end. -/
def candsA (es : List (Value × Value × Nat)) (since : Nat) (seen : List Nat) (last : Nat) : Option (List (Option (Value × Value × Nat))) :=
  if !seen.isEmpty && !es.isEmpty && es.all (fun e => decide (last ≤ e.2.2)) then none else
  let left := es.filter fun e => !seen.contains e.2.2
  let old := left.filter fun e => decide (e.2.2 < since)
  let new := left.filter fun e => decide (since ≤ e.2.2)
  some ((if old.isEmpty then [none] else []) ++ (old ++ new).map some)

/-- A step of an iterator to a given candidate. -/
def stepTo (r m since : Nat) (seen : List Nat) (clock : Nat) (c : Option (Value × Value × Nat)) (h : Heap) : Value × Heap :=
  match c with
  | some e => (.tuple #[.bool true, e.1, e.2.1], h.setO r (.iter (some m) since (seen ++ [e.2.2]) clock))
  | none => (.tuple #[.bool false], h)

/-- The outcomes of a step. -/
def nextsA (it : Value) (h : Heap) : Option (List (Value × Heap)) :=
  match it with
  | .pointer (some ⟨r, 0, none⟩) => match h.getB r with
    | some (.obj (.iter none _ _ _)) => some [(.tuple #[.bool false], h)]
    | some (.obj (.iter (some m) since seen last)) => match h.getB m with
      | some (.obj (.map es clock)) => (candsA es since seen last).map fun l => l.map fun c => stepTo r m since seen clock c h
      | _ => none
    | _ => none
  | _ => none

/-- A step that has one outcome alone. -/
def nextA (it : Value) (str : Bool) (h : Heap) : Out :=
  if str then none else
  match nextsA it h with
  | some [r] => some r
  | _ => none

/-- The entry at which an iterator stands. -/
def entryA (it : Value) (h : Heap) : Out :=
  match it with
  | .pointer (some ⟨r, 0, none⟩) => match h.getB r with
    | some (.obj (.iter (some m) _ seen last)) => match seen.getLast?, h.getB m with
      | some stamp, some (.obj (.map es clock)) =>
        if clock = last then (es.find? fun e => e.2.2 == stamp).map fun e => (.tuple #[e.1, e.2.1], h) else none
      | _, _ => none
    | _ => none
  | _ => none

def deleteA (P : Program) (t : TypeId) (m k : Value) (h : Heap) : Out :=
  match mapT P t with
  | some (kt, _) =>
    if keyOk P 10000 kt k && ground k then
      match m with
      | .map none => some (undef, h)
      | .map (some b) => match h.getB b with
        | some (.obj (.map es clock)) => match findA P kt k es 0 with
          | some (some (i, _)) => some (undef, h.setO b (.map (es.eraseIdx i) clock))
          | some none => some (undef, h.setO b (.map es clock))
          | none => none
        | _ => none
      | _ => none
    else none
  | none => none

def mapLenA (x : Value) (h : Heap) : Option Value := (entriesA x h).map fun es => .int .i64 es.length

def mapClearA (x : Value) (h : Heap) : Out :=
  match x with
  | .map none => some (undef, h)
  | .map (some b) => match h.getB b with
    | some (.obj (.map _ clock)) => some (undef, h.setO b (.map [] clock))
    | _ => none
  | _ => none

def isIntT : TypeDesc → Bool
  | .int _ => true
  | _ => false

def builtinA (P : Program) (b : Builtin) (ts : List TypeId) (args : List Value) (h : Heap) : Out :=
  match b, args, ts with
  | .append, [s, x], [t, tx] =>
    match elemT P t with
    | some e => match sizeT P e, bytesT P e, zeroT P e, P.underlying tx with
      | some n, some by_, some z, some d =>
        if isIntT d || !(z.cells.size = n) || n = 0 then none else appendA n by_ s x h
      | _, _, _, _ => none
    | none => none
  | .copy, [d, s], [t, _] => match elemT P t with
    | some e => (sizeT P e).bind fun n => copyA n d s h
    | none => none
  | .clear, [d], [t] => match elemT P t with
    | some e => (sizeT P e).bind fun n => clearA P e n d h
    | none => if (mapT P t).isSome then mapClearA d h else none
  | .len, [x], [t] => match lenOfT P t x with
    | some v => some (v, h)
    | none => if (mapT P t).isSome then (mapLenA x h).map fun v => (v, h) else none
  | .delete, [m, k], t :: _ => deleteA P t m k h
  | .max, v :: u :: r, _ => (minmax true v (u :: r)).map fun v => (v, h)
  | .min, v :: u :: r, _ => (minmax false v (u :: r)).map fun v => (v, h)
  | _, _, _ => none

abbrev CallF := FuncId → List Value → Heap → Out

/-- A function that hands a value on to a loop's body bears a number of its own. -/
def yid (P : Program) (l : Nat) : FuncId := P.funcs.size + l

def callA (P : Program) (C : CallF) (f : Value) (args : List Value) (h : Heap) : Out :=
  match f with
  | .func (.func i) first captured => if i < P.funcs.size then C i (first.toList ++ args ++ captured.toList) h else none
  | .func (.yield l) first _ => C (yid P l) (first.toList ++ args) h
  | _ => none

def ifaceA (P : Program) (t : TypeId) (x : Value) : Option Value :=
  match P.underlying t with
  | some (.interface _) => none
  | some _ => some (.iface t x)
  | none => none

/-- The value in an interface, where it is of the type that is asked for. -/
def assertA (P : Program) (asserted : TypeId) (ok : Bool) (x : Value) : Option Value :=
  match P.underlying asserted with
  | some (.interface _) => none
  | some _ => match x with
    | .iface t v => if t = asserted then some (if ok then .tuple #[v, .bool true] else v) else none
    | _ => none
  | none => none

/-- One operation. -/
def opA (P : Program) (C : CallF) (o : Oper) (ρ : Operand → Value) (h : Heap) : Out :=
  let pu (v : Option Value) : Out := v.map fun v => (v, h)
  match o.op with
  | .move x | .assign x => some (ρ x, h)
  | .pick c a b => match ρ c with
    | .bool t => some (if t then ρ a else ρ b, h)
    | _ => none
  | .alloc t => zero P t h
  | .box _ x => box (ρ x) h
  | .build t parts => pu (buildA P t (parts.toList.map fun (i, x) => (i, ρ x)))
  | .buildSlice t len parts => buildSliceA P t len (parts.toList.map fun (i, x) => (i, ρ x)) h
  | .load t x => ld P t (ρ x) h
  | .store t x v => st P t (ρ x) (ρ v) h
  | .nilCheck x => pu (nilCheckA (ρ x))
  | .binOp op t x y _ => pu (bin P op t (ρ x) (ρ y))
  | .unOp op _ x => pu (unA op (ρ x))
  | .convert s d x => convA P s d (ρ x) h
  | .makeSlice t l c => makeA P t (ρ l) (ρ c) h
  | .slice t x lo hi mx => pu (sliceA P t (ρ x) (lo.map ρ) (hi.map ρ) (mx.map ρ))
  | .fieldAddr t x i => pu (fieldAtA P t (ρ x) i)
  | .field t x i => pu (fieldA P t (ρ x) i)
  | .indexAddr t x i => pu (indexAtA P t (ρ x) (ρ i))
  | .index t x i => pu (indexA P t (ρ x) (ρ i))
  | .extract t i => pu (extractA (ρ t) i)
  | .makeFunc f first captured => match f with
    | .yield _ => none
    | f => some (.func f (first.map ρ) (captured.map ρ), h)
  | .makeInterface t x => pu (ifaceA P t (ρ x))
  | .typeAssert x _ t ok => pu (assertA P t ok (ρ x))
  | .makeMap t r => makeMapA (r.map ρ) P t h
  | .lookup t x k ok => lookupA P t (ρ x) (ρ k) ok h
  | .mapUpdate t m k v | .insert t m k v => mapUpdateA P t (ρ m) (ρ k) (ρ v) h
  | .mapEntry t m k => mapEntryA P t (ρ m) (ρ k) h
  | .entryStore _ m s v => entryStoreA (ρ m) (ρ s) (ρ v) h
  | .range t x => rangeA P t (ρ x) h
  | .next it str => nextA (ρ it) str h
  | .entry it => entryA (ρ it) h
  | .call c =>
    let args := c.args.toList.map ρ
    match c.callee with
    | .builtin b => builtinA P b c.argTypes.toList args h
    | .value f => callA P C (ρ f) args h
    | .invoke _ _ => none
  | _ => none

abbrev Env := List Value

def ev (e : Env) : Operand → Value
  | .tmp t => e.getD t undef
  | .const v => v
  | .global g => ptr g 0
  | .func f => .func (.func f) #[] #[]

def putD (e : Env) (d : Option Tmp) (v : Value) : Env :=
  match d with
  | some t => e.set t v
  | none => e

def yieldA (ops : Array Oper) (e : Env) (j : Nat) : Option Bool :=
  match ((ops[j]?).bind (·.dst)).bind (e[·]?) with
  | some (.bool b) => some b
  | _ => none

def wantA (ops : Array Oper) (o : Oper) (e : Env) : Bool :=
  match o.guard with
  | none => true
  | some (j, want) => yieldA ops e j == some want

def stepA (P : Program) (C : CallF) (ops : Array Oper) (o : Oper) (e : Env) (h : Heap) : Option (Env × Heap) :=
  if wantA ops o e then
    match opA P C o (ev e) h with
    | some (v, h') => some (putD e o.dst v, h')
    | none => none
  else some (putD e o.dst undef, h)

def opsA (P : Program) (C : CallF) (ops : Array Oper) : List Oper → Env → Heap → Option (Env × Heap)
  | [], e, h => some (e, h)
  | o :: rest, e, h => match stepA P C ops o e h with
    | some (e', h') => opsA P C ops rest e' h'
    | none => none

/-- Does an operation look at memory (read), make some (alloc), change it or call (eff), or nothing of these? -/
inductive Kd where
  | pure | read | alloc | eff
  deriving DecidableEq

def kindOf (P : Program) (o : Oper) : Kd :=
  match o.op with
  | .move _ | .assign _ | .pick .. | .build .. | .nilCheck _ | .binOp .. | .unOp .. | .slice .. | .fieldAddr .. | .field .. | .indexAddr .. | .index .. | .extract .. | .makeFunc .. | .makeInterface .. | .typeAssert .. => .pure
  | .load .. => .read
  | .lookup .. | .entry _ => .read
  | .alloc _ | .box .. | .buildSlice .. | .makeSlice .. | .makeMap .. => .alloc
  | .convert _ d _ => match P.underlying d with
    | some (.int _) => .read
    | some .string => .read
    | _ => .eff
  | .call c => match c.callee with
    | .builtin .len | .builtin .max | .builtin .min => .read
    | _ => .eff
  | _ => .eff

def opTmps (o : Oper) : List Tmp := o.op.operands.toList.filterMap fun | .tmp t => some t | _ => none
def guardTmp (ops : Array Oper) (o : Oper) : List Tmp :=
  match o.guard with
  | some (j, _) => ((ops[j]?).bind (·.dst)).toList
  | none => []
/-- All temporaries that an operation names. -/
def namesA (ops : Array Oper) (o : Oper) : List Tmp := o.dst.toList ++ opTmps o ++ guardTmp ops o

def befM (ops : Array Oper) : Array Nat := Region.before ops
def befB (m : Array Nat) (i j : Nat) : Bool := (m.getD i 0).testBit j

/-- The text's order, but that what makes memory stands as late as can be. -/
def lateGo (P : Program) (m : Array Nat) : List (Nat × Oper) → List (Nat × Oper) → List (Nat × Oper)
  | [], pend => pend
  | x :: rest, pend =>
    if kindOf P x.2 = .alloc then lateGo P m rest (pend ++ [x])
    else pend.filter (fun a => befB m x.1 a.1) ++ x :: lateGo P m rest (pend.filter fun a => !befB m x.1 a.1)
def late0 (P : Program) (ops : Array Oper) : List (Nat × Oper) := lateGo P (befM ops) (ops.toList.zipIdx.map fun x => (x.2, x.1)) []
/-- Does an operation, and all that it hangs on, make nothing and change nothing? -/
def early (P : Program) (ops : Array Oper) (m : Array Nat) (x : Nat × Oper) : Bool :=
  (kindOf P x.2 == .pure || kindOf P x.2 == .read) && ops.toList.zipIdx.all fun y => !(befB m x.1 y.2) || kindOf P y.1 == .pure || kindOf P y.1 == .read
/-- Another order: what makes nothing and hangs on nothing that does, stands first. -/
def late1 (P : Program) (ops : Array Oper) : List (Nat × Oper) :=
  let l := ops.toList.zipIdx.map fun x => (x.2, x.1)
  l.filter (early P ops (befM ops)) ++ lateGo P (befM ops) (l.filter fun x => !early P ops (befM ops) x) []

def clash (P : Program) (ops : Array Oper) (x y : Nat × Oper) : Bool :=
  (match y.2.dst with | some t => (namesA ops x.2).contains t | none => false) ||
  (match x.2.dst with | some t => (namesA ops y.2).contains t | none => false) ||
  (kindOf P x.2 == .eff && kindOf P y.2 == .eff) ||
  -- x stands ahead of y: what makes memory must not stand ahead of an effect that does not hang on it
  (kindOf P x.2 == .alloc && kindOf P y.2 == .eff)
/-- Nor, where that can be had, ahead of a reader. -/
def clashS (P : Program) (ops : Array Oper) (x y : Nat × Oper) : Bool := clash P ops x y || (kindOf P x.2 == .alloc && kindOf P y.2 == .read)

def pairsOk (r : (Nat × Oper) → (Nat × Oper) → Bool) : List (Nat × Oper) → Bool
  | [] => true
  | x :: rest => rest.all (r x) && pairsOk r rest

/-- What must be so of a region's text, so that one order stands for every order. l: the operations in that order, with their places in the text. -/
def statOk (P : Program) (ops : Array Oper) (l : List (Nat × Oper)) : Bool :=
  let m := befM ops
  l.length == ops.size &&
  l.all (fun x => (ops[x.1]?).isSome && (match x.2.guard with | some (j, _) => befB m x.1 j | none => true)) &&
  (ops.toList.zipIdx.all fun x => x.1.after.all fun e => !Region.binds .any e || e.on < x.2) &&
  -- y behind x: not the same, x does not hang on y, and where they clash y hangs on x
  pairsOk (fun x y => x.1 != y.1 && !befB m x.1 y.1 && (befB m y.1 x.1 || !clash P ops x y)) l

def statS (P : Program) (ops : Array Oper) (l : List (Nat × Oper)) : Bool :=
  let m := befM ops
  l.length == ops.size &&
  l.all (fun x => (ops[x.1]?).isSome && (match x.2.guard with | some (j, _) => befB m x.1 j | none => true)) &&
  (ops.toList.zipIdx.all fun x => x.1.after.all fun e => !Region.binds .any e || e.on < x.2) &&
  pairsOk (fun x y => x.1 != y.1 && !befB m x.1 y.1 && (befB m y.1 x.1 || !clashS P ops x y)) l
/-- The order that is run. -/
def late (P : Program) (ops : Array Oper) : List (Nat × Oper) :=
  match statS P ops (late0 P ops) with
  | true => late0 P ops
  | false => late1 P ops

/-- One operation of a run in the text's order: what stood before it, its value, and whether it ran. -/
structure Tr1 where
  e : Env
  h : Heap
  v : Value
  ran : Bool

def traceA (P : Program) (C : CallF) (ops : Array Oper) : List (Nat × Oper) → Env → Heap → Option (List Tr1 × Env × Heap)
  | [], e, h => some ([], e, h)
  | (_, o) :: rest, e, h =>
    if wantA ops o e then
      match opA P C o (ev e) h with
      | some (v, h') => match traceA P C ops rest (putD e o.dst v) h' with
        | some (l, r) => some (⟨e, h, v, true⟩ :: l, r)
        | none => none
      | none => none
    else
      match traceA P C ops rest (putD e o.dst undef) h with
      | some (l, r) => some (⟨e, h, undef, false⟩ :: l, r)
      | none => none

mutual
def veq : Value → Value → Bool
  | .bool a, .bool b => a == b
  | .int k a, .int j b => k == j && a == b
  | .string a, .string b => a.data == b.data
  | .pointer a, .pointer b => a == b
  | .slice a l c, .slice b m d => a == b && l == m && c == d
  | .map a, .map b => a == b
  | .chan a, .chan b => a == b
  | .nilFunc, .nilFunc => true
  | .nilIface, .nilIface => true
  | .float k a, .float j b => k == j && a == b
  | .complex k a b, .complex j c d => k == j && a == c && b == d
  | .agg ⟨a⟩, .agg ⟨b⟩ => veqL a b
  | .tuple ⟨a⟩, .tuple ⟨b⟩ => veqL a b
  | .func f ⟨a⟩ ⟨b⟩, .func g ⟨c⟩ ⟨d⟩ => f == g && veqL a c && veqL b d
  | .iface t a, .iface u b => t == u && veq a b
  | _, _ => false
def veqL : List Value → List Value → Bool
  | [], [] => true
  | a :: x, b :: y => veq a b && veqL x y
  | _, _ => false
end

def same (r : Out) (v : Value) : Bool :=
  match r with
  | some (x, _) => veq x v
  | none => false

/-- Room for blocks that are not there. -/
def Heap.pad : Nat → Heap → Heap
  | 0, h => h
  | c + 1, h => ((Heap.pad c h).alloc []).kill (Heap.pad c h).next
/-- A heap, and beside it the block that was made between two others. -/
def Heap.plus (ran : Bool) (h a b : Heap) : Heap :=
  if ran then match b.getB a.next with
    | some k => (Heap.pad (a.next - h.next) h).allocB k
    | none => h
  else h
/-- The blocks that a reader names and that are made between an effect and it. -/
def madeIn (P : Program) (l : List (Nat × Oper)) (x : Nat × Nat) : List Nat :=
  if x.2 < x.1 then (List.range x.1).filter fun r => decide (x.2 ≤ r) && match l[r]?, l[x.1]? with
    | some y, some z => kindOf P y.2 == .alloc && (match y.2.dst with | some t => (opTmps z.2).contains t | none => false)
    | _, _ => false
  else []
def plusStep (rs : List Bool) (hs : List Heap) (h : Heap) (r : Nat) : Heap :=
  match rs[r]?, hs[r]?, hs[r + 1]? with
  | some q, some a, some b => Heap.plus q h a b
  | _, _, _ => h
/-- The heap in which a reader might stand. -/
def heapAt (rs : List Bool) (hs : List Heap) (mk : List Nat) (i : Nat) : Option Heap := (hs[i]?).map fun h => mk.foldl (plusStep rs hs) h

/-- Beside what must a reader be looked at: an effect, or what makes memory and stands ahead. -/
def hard (P : Program) (y : Oper) (q p : Nat) : Bool := kindOf P y == .eff || (kindOf P y == .alloc && Nat.blt q p)
/-- What an operation that reads finds is the same wherever the order lets it stand. -/
def dynOk (P : Program) (C : CallF) (ops : Array Oper) (l : List (Nat × Oper)) (tr : List Tr1) (hEnd : Heap) : Bool :=
  let m := befM ops
  let hs := tr.map (·.h) ++ [hEnd]
  let lt := (l.zip tr).zipIdx
  lt.all fun x => !(kindOf P x.1.1.2 == .read && x.1.2.ran) ||
    (l.zipIdx.filter fun y => hard P y.1.2 y.2 x.2).all fun y => befB m x.1.1.1 y.1.1 || befB m y.1.1 x.1.1.1 ||
      match heapAt (tr.map (·.ran)) hs (madeIn P l (x.2, y.2)) (if y.2 < x.2 then y.2 else y.2 + 1) with
      | some h => same (opA P C x.1.1.2 (ev x.1.2.e) h) x.1.2.v
      | none => false

def regionA (P : Program) (C : CallF) (ops : Array Oper) (draw : Bool) (e : Env) (h : Heap) : Option (Env × Heap) :=
  if draw then
    if statOk P ops (late P ops) then
      match traceA P C ops (late P ops) e h with
      | some (tr, e', h') => if dynOk P C ops (late P ops) tr h' then some (e', h') else none
      | none => none
    else none
  else opsA P C ops ops.toList e h

def iter (step : Env → Heap → Option (Ex × Env × Heap)) : Nat → Env → Heap → Option (Ex × Env × Heap)
  | 0, _, _ => none
  | n + 1, e, h => match step e h with
    | some (.normal, e', h') => iter step n e' h'
    | r => r

/-- More rounds than any loop of a terminating call goes. -/
def rounds : Nat := 18446744073709551616

/-- Is there a body? -/
def hasBody (P : Program) (i : FuncId) : Bool :=
  match P.funcs[i]? with
  | some fn => fn.body.isSome && !(fn.name == "runtime.NumGoroutine")
  | none => false

/-- Behind a loop over a function: the jump that waits. -/
def endLoopA (l : Nat) (e : Env) (h : Heap) : Option (Ex × Env × Heap) :=
  match h.getB l with
  | some (.obj (.loop st pend tmps params assign body)) =>
    if st = .busy then none else some (pend.getD .normal, e, h.setO l (.loop .exhausted pend tmps params assign body))
  | _ => none

/-- A piece of code. -/
def codeA (P : Program) (C : CallF) : Code → Env → Heap → Option (Ex × Env × Heap)
  | .skip, e, h => some (.normal, e, h)
  | .region _ ops draw, e, h => match regionA P C ops draw e h with
    | some (e', h') => some (.normal, e', h')
    | none => none
  | .seq a b, e, h => match codeA P C a e h with
    | some (.normal, e', h') => codeA P C b e' h'
    | r => r
  | .cond c a b, e, h => match ev e c with
    | .bool true => codeA P C a e h
    | .bool false => codeA P C b e h
    | _ => none
  | .block id b, e, h => match codeA P C b e h with
    | some (.exit i, e', h') => some (if i = id then .normal else .exit i, e', h')
    | r => r
  | .loop b, e, h => iter (codeA P C b) rounds e h
  | .exit i, e, h => some (.exit i, e, h)
  | .scope b, e, h => codeA P C b e h
  | .label _, e, h => some (.normal, e, h)
  | .ret, e, h => some (.ret, e, h)
  | .rangeFunc g params assign body, e, h =>
    match ev e g with
    | .func (.func i) first captured =>
      if hasBody P i = true then
        match C i (first.toList ++ [.func (.yield h.next) #[] #[]] ++ captured.toList) (h.allocB (.obj (.loop .ready none e params.toList assign body))) with
        | some (_, h2) => endLoopA h.next e h2
        | none => none
      else none
    | _ => none
  | .goto _, _, _ => none
  | .refuse _, _, _ => none

def resultA (P : Program) (r : ResultVar) (e : Env) (h : Heap) : Option Value :=
  match r with
  | .tmp t => some (e.getD t undef)
  | .cell a t => (ld P t (e.getD a undef) h).map (·.1)

def resultsA (P : Program) (rs : List ResultVar) (e : Env) (h : Heap) : Out :=
  match rs with
  | [r] => (resultA P r e h).map fun v => (v, h)
  | rs => (rs.mapM fun r => resultA P r e h).map fun vs => (.tuple vs.toArray, h)

def bodyA (P : Program) (C : CallF) (fn : Func) (args : List Value) (h : Heap) : Out :=
  match fn.body with
  | none => none
  | some c => match codeA P C c (args ++ List.replicate (fn.ntmps - args.length) undef) h with
    | some (.normal, e, h') | some (.ret, e, h') => resultsA P fn.results.toList e h'
    | _ => none

/-- Constants and variables that an operation names are such as the machine knows. -/
def opdOk (P : Program) : Operand → Bool
  | .const v => flat v
  | .global g => g < P.globals.size
  | _ => true
def operOk (P : Program) (o : Oper) : Bool := o.op.operands.toList.all (opdOk P)
def codeOk (P : Program) : Code → Bool
  | .skip | .exit _ | .label _ | .ret => true
  | .region _ ops _ => ops.toList.all (operOk P)
  | .seq a b => codeOk P a && codeOk P b
  | .cond c a b => opdOk P c && codeOk P a && codeOk P b
  | .block _ b | .loop b | .scope b => codeOk P b
  | .rangeFunc g _ _ _ => opdOk P g
  | .goto _ | .refuse _ => false

/-- The frame of a round: the values that came in the parameters' places. -/
def putAll : Env → List (Tmp × Value) → Env
  | e, [] => e
  | e, (t, v) :: l => putAll (e.set t v) l

/-- A round has ended: the loop's record, and whether to go on. -/
def endRoundA (l : Nat) (x : Ex) (h : Heap) : Out :=
  match h.getB l with
  | some (.obj (.loop _ _ tmps params assign body)) =>
    some (.bool (x == .normal), h.setO l (.loop (if x = .normal then .ready else .done) (if x = .normal then none else some x) tmps params assign body))
  | _ => none

/-- A round of a loop over a function. -/
def roundA (P : Program) (C : CallF) (l : Nat) (args : List Value) (h : Heap) : Out :=
  match h.getB l with
  | some (.obj (.loop _ _ tmps params assign body)) =>
    if args.length = params.length ∧ codeOk P assign = true ∧ codeOk P body = true then
      match codeA P C assign (putAll tmps (params.zip args)) h with
      | some (.normal, e1, h1) => match h1.getB l with
        | some (.obj (.loop .ready p1 t1 q1 a1 b1)) =>
          match codeA P C body e1 (h1.setO l (.loop .busy p1 t1 q1 a1 b1)) with
          | some (x, _, h2) => endRoundA l x h2
          | none => none
        | _ => none
      | _ => none
    else none
  | _ => none

end
end Go.Abs

namespace Go.Abs
noncomputable section

theorem Tr.get_nil (n : Nat) : Tr.nil.get n = none := rfl
theorem Tr.get_zero (l : Tr) (v : Option BB) (r : Tr) : (Tr.node l v r).get 0 = v := rfl
theorem Tr.get_odd (l : Tr) (v : Option BB) (r : Tr) {m : Nat} (h : m % 2 = 0) : (Tr.node l v r).get (m + 1) = l.get (m / 2) := by
  show Bool.rec (motive := fun _ => Option BB) (l.get (m / 2)) (r.get (m / 2)) (Nat.beq (m % 2) 1) = _
  rw [h]; rfl
theorem Tr.get_even (l : Tr) (v : Option BB) (r : Tr) {m : Nat} (h : m % 2 = 1) : (Tr.node l v r).get (m + 1) = r.get (m / 2) := by
  show Bool.rec (motive := fun _ => Option BB) (l.get (m / 2)) (r.get (m / 2)) (Nat.beq (m % 2) 1) = _
  rw [h]; rfl
theorem Tr.setF_nil_zero (f : Nat) (x : Option BB) : Tr.setF (f + 1) .nil 0 x = .node .nil x .nil := rfl
theorem Tr.setF_nil_odd (f : Nat) (x : Option BB) {m : Nat} (h : m % 2 = 0) : Tr.setF (f + 1) .nil (m + 1) x = .node (Tr.setF f .nil (m / 2) x) none .nil := by
  show Bool.rec (motive := fun _ => Tr) (.node (Tr.setF f .nil (m / 2) x) none .nil) (.node .nil none (Tr.setF f .nil (m / 2) x)) (Nat.beq (m % 2) 1) = _
  rw [h]; rfl
theorem Tr.setF_nil_even (f : Nat) (x : Option BB) {m : Nat} (h : m % 2 = 1) : Tr.setF (f + 1) .nil (m + 1) x = .node .nil none (Tr.setF f .nil (m / 2) x) := by
  show Bool.rec (motive := fun _ => Tr) (.node (Tr.setF f .nil (m / 2) x) none .nil) (.node .nil none (Tr.setF f .nil (m / 2) x)) (Nat.beq (m % 2) 1) = _
  rw [h]; rfl
theorem Tr.setF_zero (f : Nat) (l : Tr) (v : Option BB) (r : Tr) (x : Option BB) : Tr.setF (f + 1) (.node l v r) 0 x = .node l x r := rfl
theorem Tr.setF_odd (f : Nat) (l : Tr) (v : Option BB) (r : Tr) (x : Option BB) {m : Nat} (h : m % 2 = 0) : Tr.setF (f + 1) (.node l v r) (m + 1) x = .node (Tr.setF f l (m / 2) x) v r := by
  show Bool.rec (motive := fun _ => Tr) (.node (Tr.setF f l (m / 2) x) v r) (.node l v (Tr.setF f r (m / 2) x)) (Nat.beq (m % 2) 1) = _
  rw [h]; rfl
theorem Tr.setF_even (f : Nat) (l : Tr) (v : Option BB) (r : Tr) (x : Option BB) {m : Nat} (h : m % 2 = 1) : Tr.setF (f + 1) (.node l v r) (m + 1) x = .node l v (Tr.setF f r (m / 2) x) := by
  show Bool.rec (motive := fun _ => Tr) (.node (Tr.setF f l (m / 2) x) v r) (.node l v (Tr.setF f r (m / 2) x)) (Nat.beq (m % 2) 1) = _
  rw [h]; rfl
theorem Tr.get_setF : ∀ (f : Nat) (t : Tr) (n : Nat) (x : Option BB) (m : Nat), n < f → (Tr.setF f t n x).get m = if m = n then x else t.get m
  | 0, _, _, _, _, h => by omega
  | f + 1, .nil, 0, x, 0, h => rfl
  | f + 1, .nil, 0, x, m + 1, h => by
    rw [Tr.setF_nil_zero, if_neg (by omega), Tr.get_nil]
    by_cases hm : m % 2 = 0
    · rw [Tr.get_odd _ _ _ hm, Tr.get_nil]
    · rw [Tr.get_even _ _ _ (by omega), Tr.get_nil]
  | f + 1, .nil, n + 1, x, 0, h => by
    rw [if_neg (by omega), Tr.get_nil]
    by_cases hn : n % 2 = 0
    · rw [Tr.setF_nil_odd f x hn, Tr.get_zero]
    · rw [Tr.setF_nil_even f x (by omega), Tr.get_zero]
  | f + 1, .nil, n + 1, x, m + 1, h => by
    rw [Tr.get_nil]
    by_cases hn : n % 2 = 0
    · rw [Tr.setF_nil_odd f x hn]
      by_cases hm : m % 2 = 0
      · rw [Tr.get_odd _ _ _ hm, Tr.get_setF f .nil (n / 2) x (m / 2) (by omega), Tr.get_nil]
        by_cases e : m = n
        · rw [if_pos (by omega), if_pos (by omega)]
        · rw [if_neg (by omega), if_neg (by omega)]
      · rw [Tr.get_even _ _ _ (by omega), Tr.get_nil, if_neg (by omega)]
    · rw [Tr.setF_nil_even f x (by omega)]
      by_cases hm : m % 2 = 0
      · rw [Tr.get_odd _ _ _ hm, Tr.get_nil, if_neg (by omega)]
      · rw [Tr.get_even _ _ _ (by omega), Tr.get_setF f .nil (n / 2) x (m / 2) (by omega), Tr.get_nil]
        by_cases e : m = n
        · rw [if_pos (by omega), if_pos (by omega)]
        · rw [if_neg (by omega), if_neg (by omega)]
  | f + 1, .node l v r, 0, x, 0, h => rfl
  | f + 1, .node l v r, 0, x, m + 1, h => by
    rw [Tr.setF_zero, if_neg (by omega)]
    by_cases hm : m % 2 = 0
    · rw [Tr.get_odd _ _ _ hm, Tr.get_odd _ _ _ hm]
    · rw [Tr.get_even _ _ _ (by omega), Tr.get_even _ _ _ (by omega)]
  | f + 1, .node l v r, n + 1, x, 0, h => by
    rw [if_neg (by omega), Tr.get_zero]
    by_cases hn : n % 2 = 0
    · rw [Tr.setF_odd f l v r x hn, Tr.get_zero]
    · rw [Tr.setF_even f l v r x (by omega), Tr.get_zero]
  | f + 1, .node l v r, n + 1, x, m + 1, h => by
    by_cases hn : n % 2 = 0
    · rw [Tr.setF_odd f l v r x hn]
      by_cases hm : m % 2 = 0
      · rw [Tr.get_odd _ _ _ hm, Tr.get_odd _ _ _ hm, Tr.get_setF f l (n / 2) x (m / 2) (by omega)]
        by_cases e : m = n
        · rw [if_pos (by omega), if_pos (by omega)]
        · rw [if_neg (by omega), if_neg (by omega)]
      · rw [Tr.get_even _ _ _ (by omega), Tr.get_even _ _ _ (by omega), if_neg (by omega)]
    · rw [Tr.setF_even f l v r x (by omega)]
      by_cases hm : m % 2 = 0
      · rw [Tr.get_odd _ _ _ hm, Tr.get_odd _ _ _ hm, if_neg (by omega)]
      · rw [Tr.get_even _ _ _ (by omega), Tr.get_even _ _ _ (by omega), Tr.get_setF f r (n / 2) x (m / 2) (by omega)]
        by_cases e : m = n
        · rw [if_pos (by omega), if_pos (by omega)]
        · rw [if_neg (by omega), if_neg (by omega)]

theorem Tr.get_set (t : Tr) (n : Nat) (x : Option BB) (m : Nat) : (t.set n x).get m = if m = n then x else t.get m :=
  Tr.get_setF _ _ _ _ _ (by omega)

section
variable (h : Heap)
@[simp] theorem Heap.next_put (b : Nat) (x : Option BB) : (h.put b x).next = h.next := rfl
@[simp] theorem Heap.next_set (b : Nat) (x : Blk) : (h.set b x).next = h.next := rfl
@[simp] theorem Heap.next_kill (b : Nat) : (h.kill b).next = h.next := rfl
@[simp] theorem Heap.next_allocB (x : BB) : (h.allocB x).next = h.next + 1 := rfl
@[simp] theorem Heap.n0_allocB (x : BB) : (h.allocB x).n0 = h.n0 := rfl
@[simp] theorem Heap.old_allocB (x : BB) : (h.allocB x).old = h.old := rfl
@[simp] theorem Heap.next_alloc (x : Blk) : (h.alloc x).next = h.next + 1 := rfl
@[simp] theorem Heap.n0_put (b : Nat) (x : Option BB) : (h.put b x).n0 = h.n0 := rfl
@[simp] theorem Heap.n0_set (b : Nat) (x : Blk) : (h.set b x).n0 = h.n0 := rfl
@[simp] theorem Heap.n0_kill (b : Nat) : (h.kill b).n0 = h.n0 := rfl
@[simp] theorem Heap.n0_alloc (x : Blk) : (h.alloc x).n0 = h.n0 := rfl
@[simp] theorem Heap.old_put (b : Nat) (x : Option BB) : (h.put b x).old = h.old := rfl
@[simp] theorem Heap.old_set (b : Nat) (x : Blk) : (h.set b x).old = h.old := rfl
@[simp] theorem Heap.next_setO (b : Nat) (x : MObj) : (h.setO b x).next = h.next := rfl
@[simp] theorem Heap.n0_setO (b : Nat) (x : MObj) : (h.setO b x).n0 = h.n0 := rfl
@[simp] theorem Heap.old_setO (b : Nat) (x : MObj) : (h.setO b x).old = h.old := rfl
@[simp] theorem Heap.old_kill (b : Nat) : (h.kill b).old = h.old := rfl
@[simp] theorem Heap.old_alloc (x : Blk) : (h.alloc x).old = h.old := rfl
theorem Heap.n0_le_next : h.n0 ≤ h.next := Nat.le_add_right _ _

theorem Heap.getB_allocB (x : BB) (c : Nat) : (h.allocB x).getB c = if c = h.next then some x else h.getB c := by
  simp only [Heap.getB_eq]; unfold Heap.allocB Heap.next
  dsimp only
  by_cases h1 : c < h.n0
  · simp only [h1, if_true]
    rw [if_neg (by omega)]
  · rw [if_neg h1, if_neg h1]
    by_cases h2 : c = h.n0 + h.cnt
    · subst h2
      simp [Tr.get_set]
    · rw [if_neg h2]
      by_cases h3 : c < h.n0 + h.cnt
      · rw [if_pos (by omega), if_pos h3, Tr.get_set, if_neg (by omega)]
      · rw [if_neg (by omega), if_neg h3]
theorem Heap.getB_alloc (x : Blk) (c : Nat) : (h.alloc x).getB c = if c = h.next then some (.cells x) else h.getB c := h.getB_allocB _ _
theorem Heap.get_alloc (x : Blk) (c : Nat) : (h.alloc x).get c = if c = h.next then some x else h.get c := by
  unfold Heap.get
  rw [h.getB_alloc]
  split <;> rfl

theorem Heap.getB_put {b : Nat} (hb : h.n0 ≤ b) (hn : b < h.next) (x : Option BB) (c : Nat) : (h.put b x).getB c = if c = b then x else h.getB c := by
  unfold Heap.next at hn
  simp only [Heap.getB_eq]; unfold Heap.put
  dsimp only
  by_cases h1 : c < h.n0
  · rw [if_pos h1, if_pos h1, if_neg (by omega)]
  · rw [if_neg h1, if_neg h1]
    by_cases h3 : c < h.n0 + h.cnt
    · rw [if_pos h3, if_pos h3, Tr.get_set]
      by_cases h2 : c = b
      · subst h2; simp
      · rw [if_neg h2, if_neg (by omega)]
    · rw [if_neg h3, if_neg h3, if_neg (by omega)]
theorem Heap.get_put {b : Nat} (hb : h.n0 ≤ b) (hn : b < h.next) (x : Option BB) (c : Nat) : (h.put b x).get c = if c = b then x.bind BB.blk else h.get c := by
  unfold Heap.get
  rw [h.getB_put hb hn]
  split <;> rfl

theorem Heap.lt_of_getB {b : Nat} {k : BB} (hg : h.getB b = some k) : b < h.next := by
  rw [Heap.getB_eq] at hg
  unfold Heap.next
  split at hg
  · omega
  · split at hg
    · omega
    · cases hg
theorem Heap.getB_of_get {b : Nat} {k : Blk} (hg : h.get b = some k) : h.getB b = some (.cells k) := by
  unfold Heap.get at hg
  cases hb : h.getB b with
  | none => rw [hb] at hg; cases hg
  | some x =>
    rw [hb] at hg
    cases x with
    | cells k' => cases hg; rfl
    | obj o => cases hg
theorem Heap.get_of_getB {b : Nat} {k : Blk} (hg : h.getB b = some (.cells k)) : h.get b = some k := by
  unfold Heap.get
  rw [hg]
  rfl
theorem Heap.lt_of_get {b : Nat} {k : Blk} (hg : h.get b = some k) : b < h.next := h.lt_of_getB (h.getB_of_get hg)

end

theorem Heap.get_set_same {h : Heap} {b : Nat} {k : Blk} (hb : h.n0 ≤ b) (hg : h.get b = some k) (x : Blk) : (h.set b x).get b = some x := by
  unfold Heap.set; rw [h.get_put hb (h.lt_of_get hg), if_pos rfl]; rfl
theorem Heap.get_set_other {h : Heap} {b c : Nat} (hb : h.n0 ≤ b) (hn : b < h.next) (x : Blk) (hc : c ≠ b) : (h.set b x).get c = h.get c := by
  unfold Heap.set; rw [h.get_put hb hn]; simp [hc]
theorem Heap.getB_set_same {h : Heap} {b : Nat} {k : Blk} (hb : h.n0 ≤ b) (hg : h.get b = some k) (x : Blk) : (h.set b x).getB b = some (.cells x) := by
  unfold Heap.set; rw [h.getB_put hb (h.lt_of_get hg), if_pos rfl]
theorem Heap.getB_set_other {h : Heap} {b c : Nat} (hb : h.n0 ≤ b) (hn : b < h.next) (x : Blk) (hc : c ≠ b) : (h.set b x).getB c = h.getB c := by
  unfold Heap.set; rw [h.getB_put hb hn, if_neg hc]
theorem Heap.getB_setO_same {h : Heap} {b : Nat} {k : BB} (hb : h.n0 ≤ b) (hg : h.getB b = some k) (x : MObj) : (h.setO b x).getB b = some (.obj x) := by
  unfold Heap.setO; rw [h.getB_put hb (h.lt_of_getB hg), if_pos rfl]
theorem Heap.getB_setO_other {h : Heap} {b c : Nat} (hb : h.n0 ≤ b) (hn : b < h.next) (x : MObj) (hc : c ≠ b) : (h.setO b x).getB c = h.getB c := by
  unfold Heap.setO; rw [h.getB_put hb hn, if_neg hc]
/-- Objects other than cells are new. -/
theorem Heap.n0_of_obj {h : Heap} {b : Nat} {o : MObj} (hg : h.getB b = some (.obj o)) : h.n0 ≤ b := by
  rw [Heap.getB_eq] at hg
  split at hg
  · simp only [Option.map_eq_some_iff] at hg
    obtain ⟨_, _, h2⟩ := hg
    cases h2
  · omega
theorem Heap.get_of_obj {h : Heap} {b : Nat} {o : MObj} (hg : h.getB b = some (.obj o)) : h.get b = none := by
  unfold Heap.get; rw [hg]; rfl
theorem Heap.get_setO {h : Heap} {b : Nat} {o : MObj} (hg : h.getB b = some (.obj o)) (x : MObj) (c : Nat) : (h.setO b x).get c = h.get c := by
  by_cases e : c = b
  · subst e
    rw [Heap.get_of_obj (h.getB_setO_same (h.n0_of_obj hg) hg x), h.get_of_obj hg]
  · unfold Heap.get
    rw [h.getB_setO_other (h.n0_of_obj hg) (h.lt_of_getB hg) x e]
theorem Heap.getB_allocB_some {h : Heap} {b : Nat} {k : BB} (hg : h.getB b = some k) (x : BB) : (h.allocB x).getB b = some k := by
  rw [h.getB_allocB, if_neg (by have := h.lt_of_getB hg; omega)]; exact hg
theorem Heap.get_alloc_some {h : Heap} {b : Nat} {k : Blk} (hg : h.get b = some k) (x : Blk) : (h.alloc x).get b = some k := by
  rw [h.get_alloc, if_neg (by have := h.lt_of_get hg; omega)]; exact hg

/-- Where an abstract block lies: concrete block, its first cell, the concrete block's cells, its own cells. -/
structure Loc where
  blk : Nat
  off : Nat
  ext : Nat
  len : Nat

abbrev Mu := Nat → Option Loc

/-- A function's name: a loop's body bears the loop's record. -/
def FRel (μ : Mu) : Fn → Fn → Prop
  | .yield l, g => ∃ L, μ l = some L ∧ g = .yield L.blk
  | f, g => g = f
theorem FRel.mono {μ μ' : Mu} {f g : Fn} (h : FRel μ f g) (hm : ∀ b L, μ b = some L → μ' b = some L) : FRel μ' f g := by
  cases f with
  | yield l => obtain ⟨L, h1, h2⟩ := h; exact ⟨L, hm _ _ h1, h2⟩
  | _ => exact h
theorem FRel.func {μ : Mu} {i : FuncId} : FRel μ (.func i) (.func i) := rfl

inductive VRel (μ : Mu) : Value → Value → Prop
  | flat {v : Value} (h : flat v = true) : VRel μ v v
  | ptr {b off : Nat} {L : Loc} (h : μ b = some L) : VRel μ (.pointer (some ⟨b, off, none⟩)) (.pointer (some ⟨L.blk, L.off + off, none⟩))
  | slice {b off len cap : Nat} {L : Loc} (h : μ b = some L) : VRel μ (.slice (some ⟨b, off, none⟩) len cap) (.slice (some ⟨L.blk, L.off + off, none⟩) len cap)
  | hid {b off len cap cap' s : Nat} {L : Loc} (h : μ b = some L) (hl : len ≤ cap) (hc : cap ≤ cap') (hm : cap' ≤ maxLen) (h1 : off + cap * s = L.len)
      (h2 : L.off + off + cap' * s ≤ L.ext) : VRel μ (.slice (some ⟨b, off, some s⟩) len cap) (.slice (some ⟨L.blk, L.off + off, none⟩) len cap')
  | hemp {b off s O : Nat} {L : Loc} (h : μ b = some L) : VRel μ (.slice (some ⟨b, off, some s⟩) 0 0) (.slice (some ⟨L.blk, O, none⟩) 0 0)
  | map {b : Nat} {L : Loc} (h : μ b = some L) : VRel μ (.map (some b)) (.map (some L.blk))
  | zer {b off : Nat} {a : Addr} : VRel μ (.slice (some ⟨b, off, some 0⟩) 0 0) (.slice (some a) 0 0)
  | agg {xs ys : Array Value} (hs : xs.size = ys.size) (h : ∀ (i : Nat) (x y : Value), xs[i]? = some x → ys[i]? = some y → VRel μ x y) : VRel μ (.agg xs) (.agg ys)
  | tuple {xs ys : Array Value} (hs : xs.size = ys.size) (h : ∀ (i : Nat) (x y : Value), xs[i]? = some x → ys[i]? = some y → VRel μ x y) : VRel μ (.tuple xs) (.tuple ys)
  | func {f g : Fn} {a b c d : Array Value} (hf : FRel μ f g) (h1 : a.size = b.size) (h2 : ∀ (i : Nat) (x y : Value), a[i]? = some x → b[i]? = some y → VRel μ x y)
      (h3 : c.size = d.size) (h4 : ∀ (i : Nat) (x y : Value), c[i]? = some x → d[i]? = some y → VRel μ x y) : VRel μ (.func f a c) (.func g b d)
  | iface {t : TypeId} {x y : Value} (h : VRel μ x y) : VRel μ (.iface t x) (.iface t y)

theorem VRel.undef (μ : Mu) : VRel μ undef undef := .tuple rfl (by intro i x y h; simp at h)

theorem VRel.mono {μ μ' : Mu} {v v' : Value} (h : VRel μ v v') (hm : ∀ b L, μ b = some L → μ' b = some L) : VRel μ' v v' := by
  induction h with
  | flat h => exact .flat h
  | ptr h => exact .ptr (hm _ _ h)
  | slice h => exact .slice (hm _ _ h)
  | hid h hl hc hx h1 h2 => exact .hid (hm _ _ h) hl hc hx h1 h2
  | hemp h => exact .hemp (hm _ _ h)
  | map h => exact .map (hm _ _ h)
  | zer => exact .zer
  | agg hs _ ih => exact .agg hs ih
  | tuple hs _ ih => exact .tuple hs ih
  | func hf h1 _ h3 _ i1 i2 => exact .func (hf.mono hm) h1 i1 h3 i2
  | iface _ ih => exact .iface ih

/-- Lists, place by place. -/
def LRel (μ : Mu) (xs ys : List Value) : Prop := xs.length = ys.length ∧ ∀ (i : Nat) (x y : Value), xs[i]? = some x → ys[i]? = some y → VRel μ x y

theorem LRel.mono {μ μ' : Mu} {v v' : List Value} (h : LRel μ v v') (hm : ∀ b L, μ b = some L → μ' b = some L) : LRel μ' v v' :=
  ⟨h.1, fun i x y hx hy => (h.2 i x y hx hy).mono hm⟩
theorem LRel.nil (μ : Mu) : LRel μ [] [] := ⟨rfl, by simp⟩
theorem LRel.cons {μ : Mu} {x y : Value} {xs ys : List Value} (h : VRel μ x y) (ht : LRel μ xs ys) : LRel μ (x :: xs) (y :: ys) := by
  refine ⟨by simp [ht.1], fun i a b ha hb => ?_⟩
  cases i with
  | zero => simp at ha hb; subst ha hb; exact h
  | succ i => simp at ha hb; exact ht.2 i a b ha hb
theorem LRel.head {μ : Mu} {x y : Value} {xs ys : List Value} (h : LRel μ (x :: xs) (y :: ys)) : VRel μ x y := h.2 0 x y rfl rfl
theorem LRel.tail {μ : Mu} {x y : Value} {xs ys : List Value} (h : LRel μ (x :: xs) (y :: ys)) : LRel μ xs ys :=
  ⟨by have := h.1; simpa using this, fun i a b ha hb => h.2 (i + 1) a b ha hb⟩
theorem LRel.get {μ : Mu} {xs ys : List Value} (h : LRel μ xs ys) {i : Nat} {x : Value} (hx : xs[i]? = some x) : ∃ y, ys[i]? = some y ∧ VRel μ x y := by
  have hi : i < ys.length := by rw [← h.1]; exact (List.getElem?_eq_some_iff.1 hx).1
  exact ⟨ys[i], List.getElem?_eq_getElem hi, h.2 i x _ hx (List.getElem?_eq_getElem hi)⟩
theorem LRel.getD {μ : Mu} {xs ys : List Value} (h : LRel μ xs ys) (i : Nat) : VRel μ (xs.getD i Go.undef) (ys.getD i Go.undef) := by
  rw [List.getD_eq_getElem?_getD, List.getD_eq_getElem?_getD]
  cases hx : xs[i]? with
  | none =>
    have : ys[i]? = none := by rw [List.getElem?_eq_none_iff] at hx ⊢; rw [← h.1]; exact hx
    rw [this]; exact VRel.undef μ
  | some x =>
    obtain ⟨y, hy, hv⟩ := h.get hx
    rw [hy]; exact hv
theorem LRel.append {μ : Mu} {a b c d : List Value} (h : LRel μ a b) (k : LRel μ c d) : LRel μ (a ++ c) (b ++ d) := by
  refine ⟨by simp [h.1, k.1], fun i x y hx hy => ?_⟩
  by_cases hi : i < a.length
  · rw [List.getElem?_append_left hi] at hx
    rw [List.getElem?_append_left (h.1 ▸ hi)] at hy
    exact h.2 i x y hx hy
  · rw [List.getElem?_append_right (by omega)] at hx
    rw [List.getElem?_append_right (by rw [← h.1]; omega), ← h.1] at hy
    exact k.2 _ x y hx hy
theorem LRel.take {μ : Mu} {a b : List Value} (h : LRel μ a b) (n : Nat) : LRel μ (a.take n) (b.take n) := by
  refine ⟨by simp [h.1], fun i x y hx hy => ?_⟩
  rw [List.getElem?_take] at hx hy
  split at hx
  · rename_i hi; rw [if_pos hi] at hy; exact h.2 i x y hx hy
  · cases hx
theorem LRel.drop {μ : Mu} {a b : List Value} (h : LRel μ a b) (n : Nat) : LRel μ (a.drop n) (b.drop n) := by
  refine ⟨by simp [h.1], fun i x y hx hy => ?_⟩
  rw [List.getElem?_drop] at hx hy
  exact h.2 _ x y hx hy
theorem LRel.splice {μ : Mu} {a b c d : List Value} (h : LRel μ a b) (k : LRel μ c d) (off : Nat) : LRel μ (splice a off c) (splice b off d) := by
  unfold Abs.splice
  rw [← k.1]
  exact ((h.take off).append k).append (h.drop _)
theorem LRel.set {μ : Mu} {a b : List Value} (h : LRel μ a b) (n : Nat) {x y : Value} (hv : VRel μ x y) : LRel μ (a.set n x) (b.set n y) := by
  refine ⟨by simp [h.1], fun i u v hu hv' => ?_⟩
  rw [List.getElem?_set] at hu hv'
  by_cases e : n = i
  · subst e
    simp only [if_true] at hu hv'
    split at hu
    · rename_i hl
      simp only [Option.some.injEq] at hu
      rw [if_pos (h.1 ▸ hl)] at hv'
      simp only [Option.some.injEq] at hv'
      subst hu hv'; exact hv
    · cases hu
  · rw [if_neg e] at hu hv'; exact h.2 i u v hu hv'
theorem LRel.replicate (μ : Mu) (n : Nat) {x y : Value} (hv : VRel μ x y) : LRel μ (List.replicate n x) (List.replicate n y) := by
  refine ⟨by simp, fun i u v hu hv' => ?_⟩
  simp only [List.getElem?_replicate] at hu hv'
  split at hu
  · rename_i hi; rw [if_pos hi] at hv'; simp at hu hv'; subst hu hv'; exact hv
  · cases hu
theorem LRel.of_flat {μ : Mu} {l : List Value} (h : flatAll l = true) : LRel μ l l := by
  refine ⟨rfl, fun i x y hx hy => ?_⟩
  rw [hx] at hy; cases hy
  have := List.mem_of_getElem? hx
  exact .flat (List.all_eq_true.1 h x this)

theorem VRel.agg_iff {μ : Mu} {xs : Array Value} {v : Value} (h : VRel μ (.agg xs) v) : ∃ ys, v = .agg ys ∧ LRel μ xs.toList ys.toList := by
  cases h with
  | flat h => simp [Abs.flat] at h
  | agg hs h => exact ⟨_, rfl, by simpa using hs, fun i x y hx hy => h i x y (by simpa using hx) (by simpa using hy)⟩
theorem VRel.tuple_iff {μ : Mu} {xs : Array Value} {v : Value} (h : VRel μ (.tuple xs) v) : ∃ ys, v = .tuple ys ∧ LRel μ xs.toList ys.toList := by
  cases h with
  | flat h => simp [Abs.flat] at h
  | tuple hs h => exact ⟨_, rfl, by simpa using hs, fun i x y hx hy => h i x y (by simpa using hx) (by simpa using hy)⟩
theorem VRel.of_list_agg {μ : Mu} {xs ys : List Value} (h : LRel μ xs ys) : VRel μ (.agg xs.toArray) (.agg ys.toArray) :=
  .agg (by simpa using h.1) (fun i x y hx hy => h.2 i x y (by simpa using hx) (by simpa using hy))
theorem VRel.of_list_tuple {μ : Mu} {xs ys : List Value} (h : LRel μ xs ys) : VRel μ (.tuple xs.toArray) (.tuple ys.toArray) :=
  .tuple (by simpa using h.1) (fun i x y hx hy => h.2 i x y (by simpa using hx) (by simpa using hy))
theorem VRel.flat_eq {μ : Mu} {x v : Value} (h : VRel μ x v) (hf : Abs.flat x = true) : v = x := by
  cases h with
  | flat _ => rfl
  | func hg h1 _ h3 _ =>
    rename_i f g a b c d _ _
    cases f <;> simp [Abs.flat] at hf
    cases hg
    obtain ⟨ha, hc⟩ := hf
    subst ha hc
    have hb : b = #[] := Array.eq_empty_of_size_eq_zero (by simpa using h1.symm)
    have hd : d = #[] := Array.eq_empty_of_size_eq_zero (by simpa using h3.symm)
    rw [hb, hd]
  | _ => simp [Abs.flat] at hf
theorem LRel.flat_eq {μ : Mu} {xs ys : List Value} (h : LRel μ xs ys) (hf : flatAll xs = true) : ys = xs := by
  apply List.ext_getElem?
  intro i
  cases hx : xs[i]? with
  | none => rw [List.getElem?_eq_none_iff] at hx ⊢; rw [← h.1]; exact hx
  | some x =>
    obtain ⟨y, hy, hv⟩ := h.get hx
    rw [hy, hv.flat_eq (List.all_eq_true.1 hf x (List.mem_of_getElem? hx))]
theorem VRel.ground_eq {μ : Mu} {x v : Value} (h : VRel μ x v) (hf : ground x = true) : v = x := by
  cases x with
  | agg cs =>
    obtain ⟨ys, rfl, hl⟩ := h.agg_iff
    have := hl.flat_eq (by simpa [ground] using hf)
    rw [Array.toList_inj] at this
    rw [this]
  | _ => exact h.flat_eq (by simpa [ground] using hf)
theorem VRel.int {μ : Mu} {k : IntKind} {n : Int} {v : Value} (h : VRel μ (.int k n) v) : v = .int k n := h.flat_eq rfl
theorem VRel.bool {μ : Mu} {n : Bool} {v : Value} (h : VRel μ (.bool n) v) : v = .bool n := h.flat_eq rfl

/-- The cells of related values are related. -/
theorem VRel.cells {μ : Mu} {x y : Value} (h : VRel μ x y) : LRel μ x.cells.toList y.cells.toList := by
  cases h with
  | agg hs h => exact ⟨by simpa [Value.cells] using hs, fun i a b ha hb => h i a b (by simpa [Value.cells] using ha) (by simpa [Value.cells] using hb)⟩
  | flat h =>
    cases x <;> first | exact LRel.cons (.flat h) (LRel.nil μ) | (simp [Abs.flat] at h)
  | ptr h => exact LRel.cons (.ptr h) (LRel.nil μ)
  | slice h => exact LRel.cons (.slice h) (LRel.nil μ)
  | hid h a b c d e => exact LRel.cons (.hid h a b c d e) (LRel.nil μ)
  | hemp h => exact LRel.cons (.hemp h) (LRel.nil μ)
  | map h => exact LRel.cons (.map h) (LRel.nil μ)
  | zer => exact LRel.cons .zer (LRel.nil μ)
  | tuple a b => exact LRel.cons (.tuple a b) (LRel.nil μ)
  | func f a b c d => exact LRel.cons (.func f a b c d) (LRel.nil μ)
  | iface a => exact LRel.cons (.iface a) (LRel.nil μ)

theorem VRel.oneCell {μ : Mu} {x y : Value} (h : VRel μ x y) : y.oneCell' = x.oneCell' := by
  cases h <;> simp [Value.oneCell']
theorem LRel.oneCells {μ : Mu} {xs ys : List Value} (h : LRel μ xs ys) (ho : oneCells xs = true) : ∀ u ∈ ys, u.oneCell' = true := by
  intro u hu
  obtain ⟨i, hi⟩ := List.getElem?_of_mem hu
  have hl : i < xs.length := by rw [h.1]; exact (List.getElem?_eq_some_iff.1 hi).1
  have hx : xs[i]? = some xs[i] := List.getElem?_eq_getElem hl
  have := h.2 i _ _ hx hi
  rw [this.oneCell]
  exact List.all_eq_true.1 ho _ (List.getElem_mem hl)

/-- Cells of old memory: those that are no holes are related. -/
def CRel (μ : Mu) (xs ys : List Value) : Prop := xs.length = ys.length ∧ ∀ (i : Nat) (x y : Value), xs[i]? = some x → ys[i]? = some y → isHole x = false → VRel μ x y
theorem LRel.toC {μ : Mu} {a b : List Value} (h : LRel μ a b) : CRel μ a b := ⟨h.1, fun i x y hx hy _ => h.2 i x y hx hy⟩
theorem CRel.mono {μ μ' : Mu} {v v' : List Value} (h : CRel μ v v') (hm : ∀ b L, μ b = some L → μ' b = some L) : CRel μ' v v' :=
  ⟨h.1, fun i x y hx hy hh => (h.2 i x y hx hy hh).mono hm⟩
theorem CRel.get {μ : Mu} {xs ys : List Value} (h : CRel μ xs ys) {i : Nat} {x : Value} (hx : xs[i]? = some x) (hh : isHole x = false) : ∃ y, ys[i]? = some y ∧ VRel μ x y := by
  have hi : i < ys.length := by rw [← h.1]; exact (List.getElem?_eq_some_iff.1 hx).1
  exact ⟨ys[i], List.getElem?_eq_getElem hi, h.2 i x _ hx (List.getElem?_eq_getElem hi) hh⟩
theorem CRel.take {μ : Mu} {a b : List Value} (h : CRel μ a b) (n : Nat) : CRel μ (a.take n) (b.take n) := by
  refine ⟨by simp [h.1], fun i x y hx hy => ?_⟩
  rw [List.getElem?_take] at hx hy
  split at hx
  · rename_i hi; rw [if_pos hi] at hy; exact h.2 i x y hx hy
  · cases hx
theorem CRel.drop {μ : Mu} {a b : List Value} (h : CRel μ a b) (n : Nat) : CRel μ (a.drop n) (b.drop n) := by
  refine ⟨by simp [h.1], fun i x y hx hy => ?_⟩
  rw [List.getElem?_drop] at hx hy
  exact h.2 _ x y hx hy
theorem CRel.full {μ : Mu} {a b : List Value} (h : CRel μ a b) (hn : noHoles a = true) : LRel μ a b :=
  ⟨h.1, fun i x y hx hy => h.2 i x y hx hy (by
    have := List.all_eq_true.1 hn x (List.mem_of_getElem? hx)
    simpa using this)⟩

/-- A concrete block holds an abstract one's cells. -/
def Holds (μ : Mu) (w : World) (n0 : Nat) (b : Nat) (k : Blk) : Prop :=
  ∃ L arr T fr, μ b = some L ∧ L.len = k.length ∧ w.heap[L.blk]? = some (.cells arr T fr) ∧ arr.size = L.ext ∧ L.off + L.len ≤ L.ext ∧
    (fr.1 = fr.2 ∨ arr.size ≤ fr.1) ∧ n0 ≤ L.blk ∧ LRel μ k ((arr.toList.drop L.off).take L.len)

/-- The jump that waits, as code. -/
def exCode : Ex → Code
  | .normal => .skip
  | .ret => .ret
  | .exit i => .exit i

/-- Objects other than cells, related. -/
def MRel (μ : Mu) : MObj → Obj → Prop
  | .map es c, .map es' c' => c = c' ∧ es.length = es'.size ∧ ∀ (i : Nat) (x : Value × Value × Nat) (e : MapEntry), es[i]? = some x → es'[i]? = some e → VRel μ x.1 e.key ∧ VRel μ x.2.1 e.val ∧ x.2.2 = e.born
  | .iter m since seen st, .mapIter m' since' seen' st' => (match m, m' with | none, none => True | some a, some B => ∃ L, μ a = some L ∧ L.blk = B | _, _ => False) ∧ since = since' ∧ seen = seen'.toList ∧ st = st'
  | .loop st pend tmps params assign body, .loop r => r.state = st ∧ r.pending = pend.map exCode ∧ LRel μ tmps r.tmps.toList ∧ r.params.toList = params ∧ r.assign = assign ∧ r.body = body
  | _, _ => False
theorem MRel.mono {μ μ' : Mu} {o : MObj} {ob : Obj} (h : MRel μ o ob) (hm : ∀ b L, μ b = some L → μ' b = some L) : MRel μ' o ob := by
  cases o with
  | map es c =>
    cases ob with
    | map es' c' =>
      obtain ⟨h1, h2, h3⟩ := h
      exact ⟨h1, h2, fun i x e hx he => ⟨(h3 i x e hx he).1.mono hm, (h3 i x e hx he).2.1.mono hm, (h3 i x e hx he).2.2⟩⟩
    | _ => exact h.elim
  | iter m since seen st =>
    cases ob with
    | mapIter m' since' seen' st' =>
      obtain ⟨h1, h2⟩ := h
      refine ⟨?_, h2⟩
      cases m with
      | none => cases m' with
        | none => trivial
        | some B => exact h1
      | some a =>
        cases m' with
        | none => exact h1
        | some B =>
          obtain ⟨L, h3, h4⟩ := h1
          exact ⟨L, hm _ _ h3, h4⟩
    | _ => exact h.elim
  | loop st pend tmps params assign body =>
    cases ob with
    | loop r =>
      obtain ⟨h1, h2, h3, h4⟩ := h
      exact ⟨h1, h2, h3.mono hm, h4⟩
    | _ => exact h.elim
/-- A concrete block is an abstract one's object. -/
def HoldsO (μ : Mu) (w : World) (n0 : Nat) (b : Nat) (o : MObj) : Prop := ∃ L ob, μ b = some L ∧ w.heap[L.blk]? = some ob ∧ MRel μ o ob ∧ n0 ≤ L.blk ∧ L.off = 0

structure Sim (μ : Mu) (h : Heap) (w : World) : Prop where
  old : ∀ b cs, b < h.n0 → h.old b = some cs → ∃ L arr T fr, μ b = some L ∧ L.blk = b ∧ L.off = 0 ∧ w.heap[b]? = some (.cells arr T fr) ∧ CRel μ cs (arr.toList.take cs.length)
  new : ∀ b k, h.n0 ≤ b → h.get b = some k → Holds μ w h.n0 b k
  obj : ∀ b o, h.n0 ≤ b → h.getB b = some (.obj o) → HoldsO μ w h.n0 b o
  inj : ∀ b b' k k' L L', h.n0 ≤ b → h.n0 ≤ b' → b ≠ b' → h.getB b = some k → h.getB b' = some k' → μ b = some L → μ b' = some L' → L.blk ≠ L'.blk
  size : h.n0 ≤ w.heap.size
  low : ∀ b, b < h.n0 → ∃ L, μ b = some L ∧ L.blk = b ∧ L.off = 0

/-- The concrete block belongs to a living block of the call's own. -/
def Own (μ : Mu) (h : Heap) (B : Nat) : Prop := ∃ b k L, h.n0 ≤ b ∧ h.getB b = some k ∧ μ b = some L ∧ L.blk = B

structure Step (μ : Mu) (h : Heap) (w : World) (μ' : Mu) (h' : Heap) (w' : World) : Prop where
  ext : ∀ b, b < h.next ∨ h'.next ≤ b → μ' b = μ b
  n0 : h'.n0 = h.n0
  old : h'.old = h.old
  next : h.next ≤ h'.next
  os : w'.os = w.os
  tape : w'.tape = w.tape
  output : w'.output = w.output
  size : w.heap.size ≤ w'.heap.size
  same : ∀ B, B < w.heap.size → ¬ Own μ h B → w'.heap[B]? = w.heap[B]?
  own : ∀ B, Own μ' h' B → Own μ h B ∨ w.heap.size ≤ B
  loops : ∀ (B : Nat) (r : Loop), w.heap[B]? = some (Obj.loop r) → ∃ r', w'.heap[B]? = some (Obj.loop r')
  drawn : w.drawn ≤ w'.drawn

/-- The numbers that a run will give are not given yet. -/
def Free (μ : Mu) (h h' : Heap) : Prop := ∀ b, h.next ≤ b → b < h'.next → μ b = none

theorem Step.refl {μ : Mu} {h : Heap} {w w' : World} (ho : w'.os = w.os) (ht : w'.tape = w.tape) (hp : w'.output = w.output) (hh : w'.heap = w.heap) (hd : w.drawn ≤ w'.drawn := by first | exact Nat.le_refl _ | exact Nat.le_succ _) : Step μ h w μ h w' :=
  ⟨fun _ _ => rfl, rfl, rfl, Nat.le_refl _, ho, ht, hp, by rw [hh]; exact Nat.le_refl _, fun B _ _ => by rw [hh], fun B hB => .inl hB, fun B r hB => ⟨r, by rw [hh]; exact hB⟩, hd⟩
theorem Step.same_world {μ : Mu} {h : Heap} {w : World} : Step μ h w μ h w := Step.refl rfl rfl rfl rfl

theorem Step.trans {μ μ' μ'' : Mu} {h h' h'' : Heap} {w w' w'' : World} (a : Step μ h w μ' h' w') (b : Step μ' h' w' μ'' h'' w'') : Step μ h w μ'' h'' w'' where
  ext c hc := by
    have h1 := a.next
    have h2 := b.next
    rw [b.ext c (by omega), a.ext c (by omega)]
  n0 := b.n0.trans a.n0
  old := b.old.trans a.old
  next := Nat.le_trans a.next b.next
  os := b.os.trans a.os
  tape := b.tape.trans a.tape
  output := b.output.trans a.output
  size := Nat.le_trans a.size b.size
  same B hB hO := by
    rw [b.same B (Nat.lt_of_lt_of_le hB a.size) (fun h1 => (a.own B h1).elim hO (fun h2 => by omega))]
    exact a.same B hB hO
  own B hB := (b.own B hB).elim (fun h1 => a.own B h1) (fun h1 => .inr (Nat.le_trans a.size h1))
  loops B r hB := by
    obtain ⟨r1, h1⟩ := a.loops B r hB
    exact b.loops B r1 h1
  drawn := Nat.le_trans a.drawn b.drawn

theorem Step.mono {μ μ' : Mu} {h h' : Heap} {w w' : World} (s : Step μ h w μ' h' w') (hf : Free μ h h') : ∀ b L, μ b = some L → μ' b = some L := by
  intro b L hb
  by_cases hl : b < h.next ∨ h'.next ≤ b
  · rw [s.ext b hl]; exact hb
  · rw [hf b (by omega) (by omega)] at hb; cases hb

theorem Free.first {μ : Mu} {h h' h'' : Heap} (hf : Free μ h h'') (hn : h'.next ≤ h''.next) : Free μ h h' := fun b h1 h2 => hf b h1 (Nat.lt_of_lt_of_le h2 hn)
theorem Free.second {μ μ' : Mu} {h h' h'' : Heap} {w w' : World} (hf : Free μ h h'') (s : Step μ h w μ' h' w') : Free μ' h' h'' := fun b h1 h2 => by
  rw [s.ext b (.inr h1)]; exact hf b (Nat.le_trans s.next h1) h2

theorem Sim.read {μ : Mu} {h : Heap} {w : World} (s : Sim μ h w) {b : Nat} {k : Blk} (hg : h.get b = some k) :
    ∃ L arr T fr, μ b = some L ∧ w.heap[L.blk]? = some (.cells arr T fr) ∧ CRel μ k ((arr.toList.drop L.off).take k.length) := by
  by_cases hb : b < h.n0
  · have hg' := hg
    unfold Heap.get at hg'; simp only [Heap.getB_eq] at hg'
    rw [if_pos hb] at hg'
    cases ho : h.old b with
    | none => rw [ho] at hg'; cases hg'
    | some cs =>
      rw [ho] at hg'
      have hg' : some cs = some k := hg'
      simp only [Option.some.injEq] at hg'
      subst hg'
      obtain ⟨L, arr, T, fr, h1, h2, h3, h4, h5⟩ := s.old b cs hb ho
      exact ⟨L, arr, T, fr, h1, h2.symm ▸ h4, by rw [h3]; exact h5⟩
  · obtain ⟨L, arr, T, fr, h1, h2, h4, h5, h6, h7, h8, h9⟩ := s.new b k (by omega) hg
    exact ⟨L, arr, T, fr, h1, h4, (h2 ▸ h9 : LRel μ k _).toC⟩

/-- Where a block lies. -/
theorem Sim.place {μ : Mu} {h : Heap} {w : World} (s : Sim μ h w) {b : Nat} {k : BB} (hb : h.n0 ≤ b) (hg : h.getB b = some k) : ∃ L ob, μ b = some L ∧ w.heap[L.blk]? = some ob ∧ h.n0 ≤ L.blk := by
  cases k with
  | cells k =>
    obtain ⟨L, arr, T, fr, h1, _, h4, _, _, _, h8, _⟩ := s.new b k hb (h.get_of_getB hg)
    exact ⟨L, _, h1, h4, h8⟩
  | obj o =>
    obtain ⟨L, ob, h1, h2, _, h4, _⟩ := s.obj b o hb hg
    exact ⟨L, ob, h1, h2, h4⟩
end
end Go.Abs

namespace Go.Abs
noncomputable section

theorem cell_at {w : World} {B : Nat} {arr : Array Value} {T : TypeId} {fr : Nat × Nat} (hg : w.heap[B]? = some (.cells arr T fr)) (j : Nat) : w.cell? ⟨B, j, none⟩ = arr[j]? :=
  cell_of_row w B j arr T fr hg

theorem Sim.loadCells {μ : Mu} {h : Heap} {w : World} (s : Sim μ h w) {b off n : Nat} {k : Blk} (hg : h.get b = some k) (hn : off + n ≤ k.length) (hnh : noHoles ((k.drop off).take n) = true) (P : Program) :
    ∃ L cs, μ b = some L ∧ LRel μ ((k.drop off).take n) cs ∧ ∀ w', w'.heap = w.heap → (Go.loadCells ⟨L.blk, L.off + off, none⟩ n).run P w' = .ok cs.toArray w' := by
  obtain ⟨L, arr, T, fr, h1, h2, h3⟩ := s.read hg
  refine ⟨L, (arr.toList.drop (L.off + off)).take n, h1, ?_, ?_⟩
  · have := (h3.drop off).take n
    rw [List.drop_take, List.drop_drop, List.take_take] at this
    rw [show min n (k.length - off) = n from by omega] at this
    exact this.full hnh
  · intro w' hw'
    rw [← hw'] at h2
    have hl : ((arr.toList.drop (L.off + off)).take n).length = n := by
      have := h3.1
      simp only [List.length_take, List.length_drop, Array.length_toList] at this ⊢
      omega
    have := run_loadCells_list (P := P) w' ⟨L.blk, L.off + off, none⟩ ((arr.toList.drop (L.off + off)).take n) (fun j v hv => by
      rw [Addr.add_lit, cell_at h2]
      rw [List.getElem?_take] at hv
      split at hv
      · rw [List.getElem?_drop] at hv; simpa using hv
      · cases hv)
    rw [hl] at this
    exact this

theorem Sim.cell {μ : Mu} {h : Heap} {w : World} (s : Sim μ h w) {b off : Nat} {k : Blk} {c : Value} (hg : h.get b = some k) (hc : k[off]? = some c) (hnh : isHole c = false) :
    ∃ L c', μ b = some L ∧ w.cell? ⟨L.blk, L.off + off, none⟩ = some c' ∧ VRel μ c c' := by
  obtain ⟨L, arr, T, fr, h1, h2, h3⟩ := s.read hg
  obtain ⟨c', hc', hv⟩ := h3.get hc hnh
  refine ⟨L, c', h1, ?_, hv⟩
  rw [cell_at h2]
  rw [List.getElem?_take] at hc'
  split at hc'
  · rw [List.getElem?_drop] at hc'; simpa using hc'
  · cases hc'

theorem run_storeCells_any (P : Program) (g o : Nat) (t : TypeId) (fr : Nat × Nat) : ∀ (vs : List Value) (i : Nat) (cur : Array Value) (w : World), w.heap[g]? = some (.cells cur t fr) → (fr.1 = fr.2 ∨ cur.size ≤ fr.1) →
    o + i + vs.length ≤ cur.size → (∀ v ∈ vs, v.oneCell' = true) →
    (storeCells ⟨g, o, none⟩ vs i).run P w = .ok () (w.setRow g (splice cur.toList (o + i) vs).toArray)
  | [], i, cur, w, hg, _, _, _ => by
    simp only [storeCells, splice, List.append_nil, List.length_nil, Nat.add_zero, List.take_append_drop, Array.toArray_toList]
    rw [setRow_self w g cur t fr hg]
    rfl
  | v :: rest, i, cur, w, hg, hfr, hl, h1 => by
    have hi : o + i < cur.size := by simp at hl; omega
    have hcell : w.cell? ⟨g, o + i, none⟩ = some cur[o + i] := by simp [World.cell?, hg, hi]
    have hfro : w.frozen? ⟨g, o + i, none⟩ = false := by
      simp only [World.frozen?, hg]
      simp only [Bool.and_eq_false_iff, decide_eq_false_iff_not]
      omega
    have hst : (store ((⟨g, o, none⟩ : Addr).add i) v).run P w = .ok () (w.setRow g (cur.setIfInBounds (o + i) v)) := by
      rw [Addr.add_lit, run_store P w _ v _ (h1 v (by simp)), hcell]
      simp [hfro, setCell_eq_setRow w g (o + i) cur t fr v hg]
    have ih := run_storeCells_any P g o t fr rest (i + 1) (cur.setIfInBounds (o + i) v) (w.setRow g (cur.setIfInBounds (o + i) v)) (setRow_heap w g cur _ t _ hg) (by simpa using hfr) (by simp at hl ⊢; omega) (fun x hx => h1 x (by simp [hx]))
    simp only [storeCells, Sem.run_bind, hst, Result.andThen_ok, ih, setRow_setRow]
    congr 3
    have e := list_seg_step cur.toList (o + i) v rest (by simp at hl ⊢; omega)
    simpa [splice, Array.toList_setIfInBounds, Nat.add_assoc] using e

theorem length_splice {l xs : List Value} {off : Nat} (h : off + xs.length ≤ l.length) : (splice l off xs).length = l.length := by
  simp only [splice, List.length_append, List.length_take, List.length_drop]; omega

/-- A segment of a list written at its place within a larger one. -/
theorem splice_seg {l xs : List Value} {o off n : Nat} (h : off + xs.length ≤ n) (hl : o + n ≤ l.length) :
    ((splice l (o + off) xs).drop o).take n = splice ((l.drop o).take n) off xs := by
  unfold splice
  have e1 : (l.take (o + off)).drop o = (l.drop o).take off := by rw [List.drop_take]; congr 1; omega
  have e2 : List.drop o (l.take (o + off) ++ xs ++ l.drop (o + off + xs.length)) = (l.drop o).take off ++ xs ++ l.drop (o + off + xs.length) := by
    rw [List.append_assoc, List.drop_append_of_le_length (by simp; omega), e1, List.append_assoc]
  rw [e2, List.take_take, show min off n = off from by omega]
  have e3 : ((l.drop o).take off ++ xs).length = off + xs.length := by simp; omega
  rw [List.take_append, List.take_of_length_le (by omega), e3]
  congr 1
  rw [List.drop_take, List.drop_drop, show o + (off + xs.length) = o + off + xs.length from by omega]

/-- What is written into a block of one's own. -/
theorem Sim.storeCells {μ : Mu} {h : Heap} {w : World} (s : Sim μ h w) {b off : Nat} {k : Blk} {xs ys : List Value} (hb : h.n0 ≤ b) (hg : h.get b = some k) (hn : off + xs.length ≤ k.length)
    (hx : LRel μ xs ys) (ho : oneCells xs = true) (P : Program) :
    ∃ L w', μ b = some L ∧ (Go.storeCells ⟨L.blk, L.off + off, none⟩ ys).run P w = .ok () w' ∧ Sim μ (h.set b (splice k off xs)) w' ∧ Step μ h w μ (h.set b (splice k off xs)) w' := by
  obtain ⟨L, arr, T, fr, h1, h2, h4, h5, h6, h7, h8, h9⟩ := s.new b k hb hg
  have hlt := h.lt_of_get hg
  have hys : ys.length = xs.length := hx.1.symm
  refine ⟨L, w.setRow L.blk (splice arr.toList (L.off + off) ys).toArray, h1, ?_, ?_, ?_⟩
  · have := run_storeCells_any P L.blk (L.off + off) T fr ys 0 arr w h4 h7 (by rw [hys]; omega) (hx.oneCells ho)
    simpa using this
  · have hB : (w.setRow L.blk (splice arr.toList (L.off + off) ys).toArray).heap[L.blk]? = some (.cells (splice arr.toList (L.off + off) ys).toArray T fr) := setRow_heap w L.blk arr _ T fr h4
    have hsz : ((splice arr.toList (L.off + off) ys).toArray).size = arr.size := by
      have hal : arr.toList.length = arr.size := Array.length_toList
      rw [List.size_toArray, length_splice (by omega), hal]
    constructor
    · intro c cs hc hcs
      obtain ⟨L', arr', T', fr', g1, g2, g3, g4, g5⟩ := s.old c cs (by simpa using hc) hcs
      refine ⟨L', arr', T', fr', g1, g2, g3, ?_, g5⟩
      rw [setRow_other _ _ _ _ (by simp at hc; omega)]; exact g4
    · intro c kc hc hgc
      simp only [Heap.n0_set] at hc ⊢
      by_cases e : c = b
      · subst e
        rw [Heap.get_set_same hb hg] at hgc
        cases hgc
        refine ⟨L, _, T, fr, h1, ?_, hB, hsz.trans h5, h6, ?_, h8, ?_⟩
        · rw [length_splice hn]; exact h2
        · rcases h7 with h7 | h7
          · exact .inl h7
          · exact .inr (hsz ▸ h7)
        · rw [splice_seg (by omega) (by have hal : arr.toList.length = arr.size := Array.length_toList; omega)]
          exact h9.splice hx off
      · rw [Heap.get_set_other hb hlt _ e] at hgc
        obtain ⟨L', arr', T', fr', g1, g2, g4, g5⟩ := s.new c kc hc hgc
        refine ⟨L', arr', T', fr', g1, g2, ?_, g5⟩
        rw [setRow_other _ _ _ _ (s.inj c b _ _ L' L hc hb e (h.getB_of_get hgc) (h.getB_of_get hg) g1 h1)]; exact g4
    · intro c o hc hgc
      simp only [Heap.n0_set] at hc ⊢
      by_cases e : c = b
      · subst e
        rw [Heap.getB_set_same hb hg] at hgc
        cases hgc
      · rw [Heap.getB_set_other hb hlt _ e] at hgc
        obtain ⟨L', ob, g1, g2, g3, g4⟩ := s.obj c o hc hgc
        exact ⟨L', ob, g1, by rw [setRow_other _ _ _ _ (s.inj c b _ _ L' L hc hb e hgc (h.getB_of_get hg) g1 h1)]; exact g2, g3, g4⟩
    · intro c c' kc kc' Lc Lc' hc hc' hne hgc hgc' hm hm'
      simp only [Heap.n0_set] at hc hc'
      have fix : ∀ d kd, (h.set b (splice k off xs)).getB d = some kd → ∃ kd', h.getB d = some kd' := by
        intro d kd hd
        by_cases e : d = b
        · subst e; exact ⟨_, h.getB_of_get hg⟩
        · rw [Heap.getB_set_other hb hlt _ e] at hd; exact ⟨kd, hd⟩
      obtain ⟨k1, g1⟩ := fix c kc hgc
      obtain ⟨k2, g2⟩ := fix c' kc' hgc'
      exact s.inj c c' k1 k2 Lc Lc' hc hc' hne g1 g2 hm hm'
    · simpa [World.setRow] using s.size
    · exact s.low
  · refine ⟨fun _ _ => rfl, rfl, rfl, Nat.le_refl _, rfl, rfl, rfl, by simp [World.setRow], ?_, ?_, fun B r hB => ⟨r, by rw [setRow_other _ _ _ _ (by rintro rfl; rw [h4] at hB; cases hB)]; exact hB⟩, Nat.le_refl _⟩
    · intro B hB hO
      exact setRow_other _ _ _ _ (fun e => hO ⟨b, _, L, hb, h.getB_of_get hg, h1, e.symm⟩)
    · rintro B ⟨c, kc, Lc, hc, hgc, hm, rfl⟩
      refine .inl ?_
      simp only [Heap.n0_set] at hc
      by_cases e : c = b
      · subst e; exact ⟨c, _, Lc, hc, h.getB_of_get hg, hm, rfl⟩
      · rw [Heap.getB_set_other hb hlt _ e] at hgc; exact ⟨c, kc, Lc, hc, hgc, hm, rfl⟩

def Mu.put (μ : Mu) (b : Nat) (L : Loc) : Mu := fun c => if c = b then some L else μ c
theorem Mu.put_same (μ : Mu) (b : Nat) (L : Loc) : μ.put b L b = some L := by simp [Mu.put]
theorem Mu.put_other (μ : Mu) {b c : Nat} (L : Loc) (h : c ≠ b) : μ.put b L c = μ c := by simp [Mu.put, h]
theorem Mu.put_mono {μ : Mu} {b : Nat} {L : Loc} (h : μ b = none) : ∀ c M, μ c = some M → μ.put b L c = some M := by
  intro c M hc
  rw [Mu.put_other _ _ (by rintro rfl; rw [h] at hc; cases hc)]; exact hc

/-- A new concrete block, of which an abstract new block is the head. -/
theorem Sim.alloc {μ : Mu} {h : Heap} {w : World} (s : Sim μ h w) {k : Blk} (hf : Free μ h (h.alloc k)) {arr : Array Value} {T : TypeId} {fr : Nat × Nat} (hfr : fr.1 = fr.2 ∨ arr.size ≤ fr.1)
    (hl : k.length ≤ arr.size) (hx : LRel μ k (arr.toList.take k.length)) {w1 : World} (ho : w1.os = w.os) (ht : w1.tape = w.tape) (hp : w1.output = w.output)
    (hw : w1.heap = w.heap.push (.cells arr T fr)) (hdr : w.drawn ≤ w1.drawn := by first | exact Nat.le_refl _ | exact Nat.le_succ _) :
    Sim (μ.put h.next ⟨w.heap.size, 0, arr.size, k.length⟩) (h.alloc k) w1 ∧ Step μ h w (μ.put h.next ⟨w.heap.size, 0, arr.size, k.length⟩) (h.alloc k) w1 := by
  have hnone : μ h.next = none := hf _ (Nat.le_refl _) (by simp)
  have hm := Mu.put_mono (L := ⟨w.heap.size, 0, arr.size, k.length⟩) hnone
  have hold : ∀ B, B < w.heap.size → w1.heap[B]? = w.heap[B]? := fun B hB => by rw [hw, Array.getElem?_push, if_neg (by omega)]
  have hnew : w1.heap[w.heap.size]? = some (.cells arr T fr) := by rw [hw]; simp
  have blt : ∀ (B : Nat) (o : Obj), w.heap[B]? = some o → B < w.heap.size := fun B o hB => (Array.getElem?_eq_some_iff.1 hB).1
  have hn0 := h.n0_le_next
  refine ⟨⟨?_, ?_, ?_, ?_, ?_, fun b hb => by obtain ⟨L, h1, h2⟩ := s.low b hb; exact ⟨L, hm _ _ h1, h2⟩⟩, ⟨?_, rfl, rfl, by simp, ho, ht, hp, by rw [hw]; simp, fun B hB _ => hold B hB, ?_, fun B r hB => ⟨r, by rw [hold _ (blt _ _ hB)]; exact hB⟩, hdr⟩⟩
  · intro b cs hb hcs
    obtain ⟨L, a, T', f', g1, g2, g3, g4, g5⟩ := s.old b cs hb hcs
    exact ⟨L, a, T', f', hm _ _ g1, g2, g3, by rw [hold _ (blt _ _ g4)]; exact g4, g5.mono hm⟩
  · intro b kb hb hg
    rw [h.get_alloc] at hg
    by_cases e : b = h.next
    · subst e
      rw [if_pos rfl] at hg
      cases hg
      refine ⟨_, arr, T, fr, Mu.put_same _ _ _, rfl, hnew, rfl, by simpa using hl, hfr, by simpa using s.size, ?_⟩
      simpa using hx.mono hm
    · rw [if_neg e] at hg
      obtain ⟨L, a, T', f', g1, g2, g4, g5, g6, g7, g8, g9⟩ := s.new b kb hb hg
      exact ⟨L, a, T', f', hm _ _ g1, g2, by rw [hold _ (blt _ _ g4)]; exact g4, g5, g6, g7, g8, g9.mono hm⟩
  · intro b o hb hg
    rw [h.getB_alloc] at hg
    by_cases e : b = h.next
    · rw [if_pos e] at hg; cases hg
    · rw [if_neg e] at hg
      obtain ⟨L, ob, g1, g2, g3, g4⟩ := s.obj b o hb hg
      exact ⟨L, ob, hm _ _ g1, by rw [hold _ (blt _ _ g2)]; exact g2, g3.mono hm, g4⟩
  · intro b b' kb kb' L L' hb hb' hne hg hg' h1 h2
    rw [h.getB_alloc] at hg hg'
    by_cases e : b = h.next
    · subst e
      rw [Mu.put_same] at h1
      cases h1
      rw [if_neg (Ne.symm hne)] at hg'
      rw [Mu.put_other _ _ (Ne.symm hne)] at h2
      obtain ⟨L2, ob, g1, g4, _⟩ := s.place hb' hg'
      rw [g1] at h2; cases h2
      have := blt _ _ g4
      simp only [ne_eq]; omega
    · rw [if_neg e] at hg
      rw [Mu.put_other _ _ e] at h1
      by_cases e' : b' = h.next
      · subst e'
        rw [Mu.put_same] at h2
        cases h2
        obtain ⟨L2, ob, g1, g4, _⟩ := s.place hb hg
        rw [g1] at h1; cases h1
        have := blt _ _ g4
        simp only [ne_eq]; omega
      · rw [if_neg e'] at hg'
        rw [Mu.put_other _ _ e'] at h2
        exact s.inj b b' kb kb' L L' hb hb' hne hg hg' h1 h2
  · rw [hw]; have := s.size; simp; omega
  · intro b hb
    rw [Mu.put_other _ _ (by simp at hb; omega)]
  · rintro B ⟨b, kb, L, hb, hg, h1, rfl⟩
    rw [h.getB_alloc] at hg
    by_cases e : b = h.next
    · subst e; rw [Mu.put_same] at h1; cases h1; exact .inr (Nat.le_refl _)
    · rw [if_neg e] at hg; rw [Mu.put_other _ _ e] at h1; exact .inl ⟨b, kb, L, hb, hg, h1, rfl⟩

/-- A world that differs in its draws alone. -/
theorem Sim.world {μ : Mu} {h : Heap} {w w' : World} (s : Sim μ h w) (hh : w'.heap = w.heap) : Sim μ h w' :=
  ⟨fun b cs hb hc => by rw [hh]; exact s.old b cs hb hc, fun b k hb hg => by unfold Holds; rw [hh]; exact s.new b k hb hg, fun b o hb hg => by unfold HoldsO; rw [hh]; exact s.obj b o hb hg, s.inj, by rw [hh]; exact s.size, s.low⟩

/-- A block is forgotten. -/
theorem Sim.kill {μ : Mu} {h : Heap} {w : World} (s : Sim μ h w) {b : Nat} (hb : h.n0 ≤ b) (hn : b < h.next) : Sim μ (h.kill b) w ∧ Step μ h w μ (h.kill b) w := by
  have hgetB : ∀ c k, (h.kill b).getB c = some k → h.getB c = some k := fun c k hc => by
    unfold Heap.kill at hc
    rw [h.getB_put hb hn] at hc
    split at hc
    · cases hc
    · exact hc
  have hget : ∀ c k, (h.kill b).get c = some k → h.get c = some k := fun c k hc => h.get_of_getB (hgetB c _ ((h.kill b).getB_of_get hc))
  refine ⟨⟨s.old, fun c k hc hg => s.new c k hc (hget _ _ hg), fun c o hc hg => s.obj c o hc (hgetB _ _ hg), fun c c' k k' L L' h1 h2 h3 h4 h5 => s.inj c c' k k' L L' h1 h2 h3 (hgetB _ _ h4) (hgetB _ _ h5), s.size, s.low⟩, ?_⟩
  refine ⟨fun _ _ => rfl, rfl, rfl, Nat.le_refl _, rfl, rfl, rfl, Nat.le_refl _, fun _ _ _ => rfl, ?_, fun B r hB => ⟨r, hB⟩, Nat.le_refl _⟩
  rintro B ⟨c, k, L, h1, h2, h3, h4⟩
  exact .inl ⟨c, k, L, h1, hgetB _ _ h2, h3, h4⟩

end
end Go.Abs

namespace Go.Abs
noncomputable section

section types
variable {P : Program} {t : TypeId} (w : World)
theorem info_of_sizeT {n : Nat} (h : sizeT P t = some n) : ∃ i, P.info? t = some i ∧ i.size = n := by
  unfold sizeT at h
  cases hi : P.info? t with
  | none => rw [hi] at h; cases h
  | some i => rw [hi] at h; exact ⟨i, rfl, by simpa using h⟩
theorem run_typeInfo {i : TypeInfo} (h : P.info? t = some i) : (typeInfo t).run P w = .ok i w := by simp [typeInfo, h]
theorem run_sizeT {n : Nat} (h : sizeT P t = some n) : (sizeOf t).run P w = .ok n w := by
  obtain ⟨i, hi, rfl⟩ := info_of_sizeT h
  simp [sizeOf, run_typeInfo w hi]
theorem run_zeroT {z : Value} (h : zeroT P t = some z) : (zeroValue t).run P w = .ok z w := by
  unfold zeroT at h
  cases hi : P.info? t with
  | none => rw [hi] at h; cases h
  | some i =>
    rw [hi] at h
    simp only [Option.bind_some] at h
    simp [zeroValue, run_typeInfo w hi, h]
theorem run_aggT {b : Bool} (h : aggT P t = some b) : (isAgg t).run P w = .ok b w := by
  unfold aggT at h
  cases hu : P.underlying t with
  | none => rw [hu] at h; cases h
  | some d =>
    rw [hu] at h
    unfold isAgg
    rw [Sem.run_bind, run_underlying hu]
    cases d <;> simp at h <;> subst h <;> rfl
end types

section ops
variable {P : Program} {μ : Mu} {h : Heap} {w : World}

theorem addrOf_rel {b off : Nat} {v : Value} (hv : VRel μ (.pointer (some ⟨b, off, none⟩)) v) : ∃ L, μ b = some L ∧ v = .pointer (some ⟨L.blk, L.off + off, none⟩) := by
  cases hv with
  | flat h => simp [flat] at h
  | ptr h => exact ⟨_, h, rfl⟩

theorem ld_sound {t : TypeId} {v v' r : Value} {h' : Heap} (s : Sim μ h w) (hv : VRel μ v v') (e : ld P t v h = some (r, h')) :
    h' = h ∧ ∃ r', (Instr.loadAt t v').run P w = .ok r' w ∧ VRel μ r r' := by
  unfold ld at e
  cases ha : aggT P t with
  | none => rw [ha] at e; cases e
  | some ag =>
    cases hs : sizeT P t with
    | none => rw [ha, hs] at e; cases ag <;> cases e
    | some n =>
      rw [ha, hs] at e
      cases ag with
      | true =>
        simp only at e
        unfold ldN at e
        split at e
        · rename_i b off
          obtain ⟨L, hL, rfl⟩ := addrOf_rel hv
          split at e
          · rename_i k hk
            split at e
            · rename_i hle
              simp only [Option.some.injEq, Prod.mk.injEq] at e
              obtain ⟨rfl, rfl⟩ := e
              obtain ⟨L', cs, hL', hr, hrun⟩ := s.loadCells hk hle.1 hle.2 P
              rw [hL] at hL'; cases hL'
              refine ⟨rfl, .agg cs.toArray, ?_, .of_list_agg hr⟩
              simp [Instr.loadAt, Instr.sureAddr, loadVar, run_aggT w ha, run_sizeT w hs, hrun w rfl]
            · cases e
          · cases e
        · cases e
      | false =>
        simp only at e
        unfold ld1 at e
        split at e
        · rename_i b off
          obtain ⟨L, hL, rfl⟩ := addrOf_rel hv
          split at e
          · rename_i k hk
            split at e
            · rename_i c hc
              split at e
              · rename_i hnh
                simp only [Option.some.injEq, Prod.mk.injEq] at e
                obtain ⟨rfl, rfl⟩ := e
                obtain ⟨L', c', hL', hr, hv'⟩ := s.cell hk hc hnh
                rw [hL] at hL'; cases hL'
                refine ⟨rfl, c', ?_, hv'⟩
                simp [Instr.loadAt, Instr.sureAddr, loadVar, run_aggT w ha, hr]
              · cases e
            · cases e
          · cases e
        · cases e

theorem stL_sound {b off : Nat} {xs ys : List Value} {h' : Heap} (s : Sim μ h w) (hx : LRel μ xs ys) (e : stL b off xs h = some h') :
    ∃ L w', μ b = some L ∧ (Go.storeCells ⟨L.blk, L.off + off, none⟩ ys).run P w = .ok () w' ∧ Sim μ h' w' ∧ Step μ h w μ h' w' := by
  unfold stL at e
  split at e
  · rename_i k hk
    split at e
    · rename_i hc
      simp only [Bool.and_eq_true, decide_eq_true_eq] at hc
      simp only [Option.some.injEq] at e
      subst e
      exact s.storeCells hc.1.1 hk hc.1.2 hx hc.2 P
    · cases e
  · cases e

theorem st_sound {t : TypeId} {v v' x x' r : Value} {h' : Heap} (s : Sim μ h w) (hv : VRel μ v v') (hx : VRel μ x x') (e : st P t v x h = some (r, h')) :
    r = undef ∧ ∃ w', (Instr.storeAt t v' x').run P w = .ok () w' ∧ Sim μ h' w' ∧ Step μ h w μ h' w' := by
  unfold st at e
  cases hs : sizeT P t with
  | none => rw [hs] at e; cases e
  | some n =>
    rw [hs] at e
    simp only at e
    unfold stN at e
    split at e
    · rename_i b off
      obtain ⟨L, hL, rfl⟩ := addrOf_rel hv
      split at e
      · rename_i hsz
        simp only [Option.map_eq_some_iff, Prod.mk.injEq] at e
        obtain ⟨h1, he, rfl, rfl⟩ := e
        obtain ⟨L', w', hL', hrun, hS, hSt⟩ := stL_sound (P := P) s hx.cells he
        rw [hL] at hL'; cases hL'
        refine ⟨rfl, w', ?_, hS, hSt⟩
        have hsz' : x'.cells.size = n := by
          have := hx.cells.1
          simp only [Array.length_toList] at this
          omega
        simp [Instr.storeAt, Instr.sureAddr, storeVar, run_sizeT w hs, hsz', hrun]
      · cases e
    · cases e

/-- What a new row of cells gives. -/
theorem newRow_sound {xs ys : List Value} (s : Sim μ h w) (hf : Free μ h (h.alloc xs)) (hx : LRel μ xs ys) (T : TypeId) :
    ∃ μ' w', (Go.newRow T ys.toArray).run P w = .ok ⟨w.heap.size, 0, none⟩ w' ∧ Sim μ' (h.alloc xs) w' ∧ Step μ h w μ' (h.alloc xs) w' ∧
      ∃ L, μ' h.next = some L ∧ L.blk = w.heap.size ∧ L.off = 0 ∧ L.ext = ys.length ∧ L.len = xs.length := by
  obtain ⟨h1, h2⟩ := s.alloc (k := xs) hf (arr := ys.toArray) (T := T) (fr := (0, 0)) (.inl rfl) (by simp [hx.1]) (by simpa [hx.1] using hx) (w1 := { w with heap := w.heap.push (.cells ys.toArray T (0, 0)) }) rfl rfl rfl rfl
  refine ⟨_, _, ?_, h1, h2, _, Mu.put_same _ _ _, rfl, rfl, by simp, rfl⟩
  simp [Go.newRow]

theorem zero_sound {t : TypeId} {r old : Value} {h' : Heap} (s : Sim μ h w) (hf : Free μ h h') (e : zero P t h = some (r, h')) :
    ∃ μ' r' w', (Instr.alloc t true old).run P w = .ok r' w' ∧ Sim μ' h' w' ∧ Step μ h w μ' h' w' ∧ VRel μ' r r' := by
  unfold zero at e
  cases hz : zeroT P t with
  | none => rw [hz] at e; cases e
  | some z =>
    rw [hz] at e
    simp only at e
    split at e
    · rename_i hfl
      simp only [Abs.newRow, Option.some.injEq, Prod.mk.injEq] at e
      obtain ⟨rfl, rfl⟩ := e
      obtain ⟨μ', w', hrun, hS, hSt, L, hL, hB, hO, _⟩ := newRow_sound (P := P) s hf (LRel.of_flat hfl) t
      refine ⟨μ', .pointer (some ⟨w.heap.size, 0, none⟩), w', ?_, hS, hSt, ?_⟩
      · simp only [Array.toArray_toList] at hrun
        simp [Instr.alloc, run_zeroT w hz, newVar, hrun]
      · have := VRel.ptr (off := 0) hL
        rw [hB, hO] at this
        exact this
    · cases e

theorem box_sound {t : TypeId} {x x' r : Value} {h' : Heap} (s : Sim μ h w) (hf : Free μ h h') (hx : VRel μ x x') (e : box x h = some (r, h')) :
    ∃ μ' r' w', (Instr.box t x').run P w = .ok r' w' ∧ Sim μ' h' w' ∧ Step μ h w μ' h' w' ∧ VRel μ' r r' := by
  unfold box at e
  split at e
  · simp only [Abs.newRow, Option.some.injEq, Prod.mk.injEq] at e
    obtain ⟨rfl, rfl⟩ := e
    obtain ⟨μ', w', hrun, hS, hSt, L, hL, hB, hO, _⟩ := newRow_sound (P := P) s hf hx.cells t
    refine ⟨μ', .pointer (some ⟨w.heap.size, 0, none⟩), w', ?_, hS, hSt, ?_⟩
    · simp only [Array.toArray_toList] at hrun
      simp [Instr.box, newVar, hrun]
    · have := VRel.ptr (off := 0) hL
      rw [hB, hO] at this
      exact this
  · cases e

/-- Cells laid one behind the other into an array. -/
theorem foldl_set (off : Nat) : ∀ (l : List Value) (k : Nat) (cs : Array Value), off + k + l.length ≤ cs.size →
    (l.zipIdx k).foldl (fun (cs : Array Value) (x : Value × Nat) => cs.setIfInBounds (off + x.2) x.1) cs = (splice cs.toList (off + k) l).toArray
  | [], k, cs, _ => by simp [splice]
  | v :: l, k, cs, h => by
    simp only [List.zipIdx_cons, List.foldl_cons]
    rw [foldl_set off l (k + 1) _ (by simp at h ⊢; omega)]
    have hal : cs.toList.length = cs.size := Array.length_toList
    have := list_seg_step cs.toList (off + k) v l (by simp at h; omega)
    simp only [splice, Array.toList_setIfInBounds, List.length_cons]
    rw [← this]
    simp [Nat.add_assoc]

theorem fill_one (off : Nat) (v : Value) (cs : List Value) (h : off + v.cells.size ≤ cs.length) :
    v.cells.zipIdx.foldl (fun (cs : Array Value) (x : Value × Nat) => cs.setIfInBounds (off + x.2) x.1) cs.toArray = (splice cs off v.cells.toList).toArray := by
  have := foldl_set off v.cells.toList 0 cs.toArray (by simpa using h)
  simp only [Nat.add_zero] at this
  rw [← this, ← Array.foldl_toList]
  simp

/-- Parts and their places, on both sides. -/
inductive Parts (μ : Mu) (pl : Nat → Option (Nat × Nat)) : List (Nat × Nat × Value) → List (Nat × Value) → Prop
  | nil : Parts μ pl [] []
  | cons {i off n : Nat} {x y : Value} {ts cs} (hp : pl i = some (off, n)) (hv : VRel μ x y) (ht : Parts μ pl ts cs) : Parts μ pl ((off, n, x) :: ts) ((i, y) :: cs)

theorem fill_sound {pl : Nat → Option (Nat × Nat)} {ts : List (Nat × Nat × Value)} {cps : List (Nat × Value)} (hp : Parts μ pl ts cps) :
    ∀ {cells cc out : List Value}, LRel μ cells cc → fillL cells ts = some out → ∃ out', Instr.fill pl cc.toArray cps = some out'.toArray ∧ LRel μ out out' := by
  induction hp with
  | nil =>
    intro cells cc out hc e
    simp only [fillL, Option.some.injEq] at e
    subst e
    exact ⟨cc, by simp [Instr.fill], hc⟩
  | @cons i off n x y ts cs hp hv ht ih =>
    intro cells cc out hc e
    simp only [fillL] at e
    split at e
    · rename_i hb
      simp only [Bool.and_eq_true, decide_eq_true_eq] at hb
      obtain ⟨out', ho, hr⟩ := ih (hc.splice hv.cells off) e
      refine ⟨out', ?_, hr⟩
      have hs : y.cells.size = n := by have := hv.cells.1; simp only [Array.length_toList] at this; omega
      have hl := hc.1
      simp only [Instr.fill, hp]
      rw [if_neg (by simp [hs]; omega)]
      have := fill_one off y cc (by omega)
      rw [this]; exact ho
    · cases e

theorem run_mapM_arr {α β : Type} (P : Program) (w : World) (f : α → Sem β) (g : α → β) (arr : Array α) (hf : ∀ x ∈ arr.toList, (f x).run P w = .ok (g x) w) : (arr.mapM f).run P w = .ok (arr.map g) w := by
  rw [Array.mapM_eq_mapM_toList, Sem.run_map]
  have key : ∀ l : List α, (∀ x ∈ l, (f x).run P w = .ok (g x) w) → (l.mapM f).run P w = .ok (l.map g) w := by
    intro l
    induction l with
    | nil => intro _; simp
    | cons x l ih =>
      intro h
      rw [List.mapM_cons, Sem.run_bind, h x (by simp), Result.andThen_ok, Sem.run_bind, ih (fun y hy => h y (by simp [hy]))]
      simp
  rw [key _ hf]
  simp [← Array.toList_map]

theorem Parts.of_fields {fs : Array Field} : ∀ {aps cps : List (Nat × Value)} {ts}, aps.length = cps.length → (∀ (i : Nat) (x y : Nat × Value), aps[i]? = some x → cps[i]? = some y → x.1 = y.1 ∧ VRel μ x.2 y.2) →
    fieldPlaces P fs aps = some ts → Parts μ (fun i => (fs.map fun (f : Field) => (f.offset, (sizeT P f.type).getD 0))[i]?) ts cps
  | [], [], ts, _, _, e => by simp [fieldPlaces] at e; subst e; exact .nil
  | [], _ :: _, _, hl, _, _ => by simp at hl
  | _ :: _, [], _, hl, _, _ => by simp at hl
  | x :: aps, y :: cps, ts, hl, hr, e => by
    unfold fieldPlaces at e
    rw [List.mapM_cons] at e
    simp only [bind, Option.bind_eq_some_iff, pure, Option.some.injEq] at e
    obtain ⟨a, ha, l, hl', rfl⟩ := e
    split at ha
    · rename_i f hf
      simp only [Option.map_eq_some_iff] at ha
      obtain ⟨n, hn, rfl⟩ := ha
      obtain ⟨h1, h2⟩ := hr 0 x y rfl rfl
      obtain ⟨i, u⟩ := y
      subst h1
      exact .cons (by simp [hf, hn]) h2 (Parts.of_fields (by simpa using hl) (fun j a b ha hb => hr (j + 1) a b ha hb) hl')
    · cases ha
theorem Parts.of_array {n : Nat} : ∀ {aps cps : List (Nat × Value)}, aps.length = cps.length → (∀ (i : Nat) (x y : Nat × Value), aps[i]? = some x → cps[i]? = some y → x.1 = y.1 ∧ VRel μ x.2 y.2) →
    Parts μ (fun i => some (i * n, n)) (aps.map fun x => (x.1 * n, n, x.2)) cps
  | [], [], _, _ => .nil
  | [], _ :: _, hl, _ => by simp at hl
  | _ :: _, [], hl, _ => by simp at hl
  | x :: aps, (i, u) :: cps, hl, hr => by
    obtain ⟨h1, h2⟩ := hr 0 x (i, u) rfl rfl
    subst h1
    exact .cons rfl h2 (Parts.of_array (by simpa using hl) (fun j a b ha hb => hr (j + 1) a b ha hb))

theorem build_sound {t : TypeId} {aps : List (Nat × Value)} {cps : Array (Nat × Value)} {r : Value} (hl : aps.length = cps.size)
    (hr : ∀ (i : Nat) (x y : Nat × Value), aps[i]? = some x → cps.toList[i]? = some y → x.1 = y.1 ∧ VRel μ x.2 y.2) (e : buildA P t aps = some r) :
    ∃ r', (Instr.build t cps).run P w = .ok r' w ∧ VRel μ r r' := by
  unfold buildA at e
  cases hz : zeroT P t with
  | none => rw [hz] at e; simp at e
  | some z =>
    rw [hz] at e
    cases hu : P.underlying t with
    | none => rw [hu] at e; cases e
    | some d =>
      rw [hu] at e
      cases d <;> simp only at e <;> try (cases e; done)
      · rename_i len el
        split at e
        · rename_i n hn
          split at e
          · rename_i hfl
            simp only [Option.map_eq_some_iff] at e
            obtain ⟨cs, hcs, rfl⟩ := e
            obtain ⟨out, ho, hrel⟩ := fill_sound (Parts.of_array (n := n) (by simpa using hl) hr) (LRel.of_flat hfl) hcs
            refine ⟨.agg out.toArray, ?_, .of_list_agg hrel⟩
            simp only [Array.toArray_toList] at ho
            simp [Instr.build, run_zeroT w hz, run_underlying hu, run_sizeT w hn, ho]
          · cases e
        · cases e
      · rename_i fs
        split at e
        · rename_i hfl
          simp only [Bool.and_eq_true] at hfl
          split at e
          · rename_i ps hps
            simp only [Option.map_eq_some_iff] at e
            obtain ⟨cs, hcs, rfl⟩ := e
            obtain ⟨out, ho, hrel⟩ := fill_sound (Parts.of_fields (by simpa using hl) hr hps) (LRel.of_flat hfl.1) hcs
            refine ⟨.agg out.toArray, ?_, .of_list_agg hrel⟩
            simp only [Array.toArray_toList] at ho
            have hm : (fs.mapM fun (f : Field) => (do pure (f.offset, ← sizeOf f.type) : Sem (Nat × Nat))).run P w = .ok (fs.map fun (f : Field) => (f.offset, (sizeT P f.type).getD 0)) w := by
              refine run_mapM_arr P w _ _ fs fun f hf => ?_
              have := List.all_eq_true.1 hfl.2 f hf
              obtain ⟨n, hn⟩ := Option.isSome_iff_exists.1 this
              simp [run_sizeT w hn, hn]
            simp only [Instr.build, Sem.run_bind, run_zeroT w hz, Result.andThen_ok, run_underlying hu, hm, ho, Sem.run_pure]
          · cases e
        · cases e
end ops
end
end Go.Abs

