/-
  The abstract machine's operations with their types resolved: the words of the printed texts.
  Conditions: none (definitions).
-/
import Derived.Test.YtcmfgmhadeeieaaA20
namespace Go.Abs

def pu (v : Option Value) (h : Heap) : Out := v.map fun v => (v, h)
/-- The part of code at a path: 0 the first part, 1 the second. -/
def codeAt : List Nat → Code → Code
  | [], c => c
  | 0 :: p, .seq a _ => codeAt p a
  | _ :: p, .seq _ b => codeAt p b
  | 0 :: p, .cond _ a _ => codeAt p a
  | _ :: p, .cond _ _ b => codeAt p b
  | _ :: p, .block _ b => codeAt p b
  | _ :: p, .loop b => codeAt p b
  | _ :: p, .scope b => codeAt p b
  | _ :: _, c => c
def partOf (fn : Func) (p : List Nat) : Code :=
  match fn.body with
  | some c => codeAt p c
  | none => .skip
def bOf : Value → Option Bool
  | .bool b => some b
  | _ => none
def newC (cells : List Value) (h : Heap) : Out := some (newRow cells h)
def bldR (z : List Value) (ps : List (Nat × Nat × Value)) : Option Value := (fillL z ps).map fun cs => .agg cs.toArray
def bslR (n : Nat) (z : Value) (len : Nat) (parts : List (Nat × Value)) (h : Heap) : Out :=
  if flatAll z.cells.toList && z.cells.size = n && 0 < n && len * n ≤ 16777216 && oneCells (parts.flatMap fun x => x.2.cells.toList) then
    match fillL (zeros z.cells.toList len) (parts.map fun x => (x.1 * n, n, x.2)) with
    | some cs => some (.slice (some ⟨h.next, 0, none⟩) len len, h.alloc cs)
    | none => none
  else none
def cvI (k : IntKind) (x : Value) (h : Heap) : Out :=
  match x with
  | .int _ n => some (.int k (k.wrap n), h)
  | _ => none
def cvS (x : Value) (h : Heap) : Out :=
  match x with
  | .string s => some (.string s, h)
  | _ => none
def cvSB (x : Value) (h : Heap) : Out :=
  match x with
  | .string s => if s.size ≤ 140737488355328 then some (.slice (some ⟨h.next, 0, some 1⟩) s.size s.size, h.alloc (s.data.toList.map fun b => .int .u8 b.toNat)) else none
  | _ => none
def bsR (n c : Nat) (a : Option Addr) (h : Heap) : Out :=
  match firstA 1 n (.slice a n c) h with
  | some l => match l.mapM asByte with
    | some bs => some (.string ⟨bs.toArray⟩, h)
    | none => none
  | none => none
def cvBS (x : Value) (h : Heap) : Out :=
  match x with
  | .slice a n c => bsR n c a h
  | .string s => some (.string s, h)
  | _ => none
def mkR (n by_ : Nat) (z : Value) (len cap : Value) (h : Heap) : Out :=
  match len, cap with
  | .int .i64 l, .int .i64 c =>
    if 0 ≤ l && l ≤ c && c ≤ 9223372036854775807 && by_ * c ≤ 281474976710656 && flatAll z.cells.toList && z.cells.size = n && 0 < n then
      some (.slice (some ⟨h.next, 0, none⟩) l.toNat c.toNat, h.alloc (zeros z.cells.toList c.toNat))
    else none
  | _, _ => none
def slR (size : Nat) (x : Value) (lo hi mx : Option Value) : Option Value :=
  match x with
  | .string _ => none
  | x => sliceSl size x lo hi mx
def slS (x : Value) (lo hi mx : Option Value) : Option Value :=
  match x with
  | .string s => sliceSl 1 (.string s) lo hi mx
  | _ => none
def fld1 (off : Nat) (x : Value) : Option Value :=
  match x with
  | .agg cs => cs[off]?
  | _ => none
def fldN (n off : Nat) (x : Value) : Option Value :=
  match x with
  | .agg cs => some (.agg (cs.extract off (off + n)))
  | _ => none
def ixA1 (n z : Nat) (x i : Value) : Option Value :=
  match x, i with
  | .agg cs, .int _ i => if 0 ≤ i ∧ i < n then cs[i.toNat * z]? else none
  | _, _ => none
def ixAN (n z : Nat) (x i : Value) : Option Value :=
  match x, i with
  | .agg cs, .int _ i => if 0 ≤ i ∧ i < n then some (.agg (cs.extract (i.toNat * z) (i.toNat * z + z))) else none
  | _, _ => none
def ixS (x i : Value) : Option Value :=
  match x, i with
  | .string s, .int _ i => if 0 ≤ i then (s[i.toNat]?).map fun b => .int .u8 b.toNat else none
  | _, _ => none
def lenS (x : Value) : Option Value :=
  match x with
  | .string s => some (.int .i64 s.size)
  | _ => none
def lenL (x : Value) : Option Value :=
  match x with
  | .slice _ n _ => some (.int .i64 n)
  | _ => none
def clrR (z : Value) (size : Nat) (d : Value) (h : Heap) : Out :=
  match d with
  | .slice none _ _ => some (undef, h)
  | .slice (some ⟨b, off, _⟩) n _ =>
    if n = 0 then some (undef, h) else
    if flatAll z.cells.toList && z.cells.size = size && 0 < size then (stL b off (zeros z.cells.toList n) h).map fun h' => (undef, h') else none
  | _ => none
/-- What comes behind a loop. -/
def endL {α : Type} (y : Option (Ex × Env × Heap)) (r : Env → Heap → Option α) (x : Nat → Env → Heap → Option α) : Option α :=
  match y with
  | some (.ret, e', h') => r e' h'
  | some (.exit i, e', h') => x i e' h'
  | _ => none

end Go.Abs
