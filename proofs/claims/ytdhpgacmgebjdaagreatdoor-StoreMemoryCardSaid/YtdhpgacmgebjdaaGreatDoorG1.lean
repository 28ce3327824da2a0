/-
  A part of the proof, shortened by a program.
  Conditions: as each theorem states.
-/
import Derived.Orders
import Derived.Scope
import Derived.WalkKit
set_option linter.all false
namespace Go.Abs
noncomputable section
abbrev Vl:=Value
abbrev DA:=@Option.some.injEq
abbrev DB:=@Bool.false_eq_true
abbrev DC:=@Nat.zero_add
abbrev DD:=@Bool.and_eq_true
abbrev DE:=@List.getElem?_eq_getElem
abbrev DF:=@Prod.mk.injEq
abbrev DG:=@Nat.le_refl
abbrev DH:=@if_pos
abbrev DJ:=@Option.map_eq_some_iff
abbrev DK:=@List.getD_eq_getElem?_getD
abbrev DL:=@if_neg
abbrev DN:=@decide_eq_true
abbrev DO:=@List.length_append
abbrev DP:=@beq_self_eq_true
abbrev DQ:=@List.all_eq_true
abbrev DR:=@decide_eq_true_eq
abbrev DS:=@if_false
abbrev DT:=@Array.getElem?_eq_some_iff
abbrev DU:=@Option.bind_eq_some_iff
abbrev DV:=@if_true
abbrev DW:=@decide_eq_false
abbrev DX:=@List.getElem?_append_right
abbrev DY:=@List.append_assoc
abbrev DZ:=@List.getElem?_eq_some_iff
abbrev D3:=@List.take_of_length_le
abbrev D4:=@List.getElem?_map
abbrev D6:=@List.mem_of_mem_take
abbrev D7:=@List.mem_of_getElem?
abbrev D8:=@List.mem_append
abbrev D9:=@Nat.le_trans
abbrev EB:=@List.length_map
abbrev EC:=@List.length_eq_zero_iff
abbrev ED:=@bne_self_eq_false
abbrev EG:=@Bool.not_false
abbrev EH:=@Nat.le_of_ble_eq_true
abbrev EI:=@List.getElem?_append_left
abbrev EJ:=@Bool.and_true
abbrev EK:=@Bool.not_true
abbrev EL:=@List.mem_cons_of_mem
abbrev EN:=@List.getElem?_eq_none
abbrev EO:=@List.mem_of_mem_drop
abbrev ER:=@List.mem_cons
abbrev ES:=@List.eq_of_mem_replicate
abbrev ET:=@List.not_mem_nil
abbrev EU:=@Bool.true_and
abbrev EW:=@List.mem_cons_self
abbrev EX:=@Nat.lt_of_lt_of_le
abbrev EY:=@List.getElem?_drop
abbrev EZ:=@List.mem_map
abbrev E0:=@Bool.false_and
abbrev E7:=@List.getElem?_take
abbrev E8:=@List.length_take
abbrev E9:=@Option.isSome_iff_exists
abbrev FA:=@decide_false
abbrev FB:=@List.mem_singleton
abbrev FC:=@List.ext_getElem?
abbrev FD:=@List.map_cons
abbrev FE:=@Nat.le_of_lt
abbrev FG:=@Nat.mul_one
abbrev FH:=@Nat.lt_or_ge
abbrev FI:=@Bool.or_eq_true
abbrev FJ:=@List.mapM_cons
abbrev FK:=@Nat.mod_eq_of_lt
abbrev FL:=@Nat.zero_le
abbrev FM:=@Nat.ble_eq_true_of_le
abbrev FN:=@List.mem_filter
abbrev FO:=@List.drop_zero
abbrev FP:=@congrArg
abbrev FQ:=@Array.getElem?_eq_none
abbrev FR:=@List.size_toArray
abbrev FT:=@List.flatMap_cons
abbrev FU:=@List.getElem?_set
abbrev FV:=@BitVec.toNat_ofNat
abbrev FW:=@Nat.eq_of_beq_eq_true
abbrev FY:=@Nat.add_sub_cancel_left
abbrev FZ:=@List.getElem?_range
abbrev F0:=@Nat.add_assoc
abbrev F9:=@List.length_drop
abbrev GA:=@List.map_append
abbrev GB:=@Nat.ne_of_beq_eq_false
abbrev GC:=@List.append_nil
abbrev GD:=@Array.toList_append
abbrev GF:=@List.length_set
abbrev GG:=@List.drop_drop
abbrev GH:=@decide_eq_decide
abbrev GI:=@Bool.not_eq_true'
abbrev GJ:=@Nat.mul_le_mul_right
abbrev GK:=@Array.mem_toList_iff
abbrev GL:=@List.map_eq_cons_iff
abbrev GM:=@Nat.xor_lt_two_pow
abbrev GN:=@Nat.min_eq_left
abbrev GO:=@List.mem_or_eq_of_mem_set
abbrev GP:=@List.getElem_mem
abbrev GQ:=@decide_true
abbrev GR:=@List.flatMap_append
abbrev GS:=@beq_eq_false_iff_ne
abbrev GU:=@List.length_replicate
abbrev GV:=@List.mem_zipIdx_iff_getElem?
abbrev GW:=@Bool.and_self
abbrev GX:=@or_false
abbrev GY:=@List.map_eq_nil_iff
abbrev GZ:=@Nat.lt_irrefl
abbrev G7:=@Array.getElem?_eq_getElem
abbrev G8:=@Array.mem_of_getElem?
abbrev HA:=@List.drop_append_of_le_length
abbrev HB:=@List.eq_nil_of_length_eq_zero
abbrev HC:=@decide_eq_false_iff_not
abbrev HE:=@List.getElem?_replicate
abbrev HF:=@List.map_set
abbrev HG:=@Nat.add_mul
abbrev HH:=@Nat.le_succ
abbrev HI:=@List.all_append
abbrev HJ:=@BitVec.toNat_shiftLeft
abbrev HK:=@List.take_length
abbrev HL:=@Nat.le_add_right
abbrev HM:=@Nat.zero_mul
abbrev HN:=@List.take_append_drop
abbrev HO:=@Bool.false_or
abbrev HP:=@List.contains_iff_mem
abbrev HQ:=@List.getElem?_zip_eq_some
abbrev HR:=@Bool.and_false
abbrev HS:=@BitVec.toNat_ushiftRight
abbrev HT:=@Option.some.inj
abbrev HU:=@Bool.not_eq_true
abbrev HV:=@List.mem_flatMap
abbrev HW:=@Nat.mod_lt
abbrev HX:=@Array.foldl_toList
abbrev HY:=@List.map_map
abbrev HZ:=@Nat.sub_self
abbrev H2:=@List.range_succ
abbrev H3:=@List.mem_iff_getElem?
abbrev H4:=@bne_iff_ne
abbrev H5:=@List.take_add_one
abbrev H6:=@Array.toList_setIfInBounds
abbrev H7:=@List.getElem?_of_mem
abbrev H8:=@Nat.pow_le_pow_right
abbrev H9:=@List.drop_eq_getElem_cons
abbrev IA:=@List.drop_take
abbrev IB:=@List.take_take
abbrev IC:=@List.take_left
abbrev ID:=@List.getElem?_eq_none_iff
abbrev IE:=@Array.toList_map
abbrev IF:=@List.flatMap_nil
abbrev IG:=@List.length_take_le
abbrev IH:=@Array.getElem?_push
abbrev II:=@Nat.mul_comm
abbrev IJ:=@Array.ext'
abbrev IK:=@Bool.or_false
abbrev IL:=@Decidable.not_not
abbrev IM:=@List.mem_range
abbrev IN:=@Bool.and_eq_false_iff
abbrev IP:=@Bool.or_true
abbrev IQ:=@Bool.true_or
abbrev IS:=@Array.getElem?_modify
abbrev IT:=@List.range_eq_range'
abbrev IU:=@Bool.or_eq_false_iff
abbrev IV:=@List.getElem?_set_ne
abbrev IW:=@Nat.not_lt
abbrev cn:Value := .int .u8 0
abbrev zI6:Value := .int .i64 0
abbrev zU6:Value := .int .u64 0
abbrev zU3:Value := .int .u32 0
abbrev zSl:Value := .slice none 0 0
abbrev zBf:Value := .bool false
abbrev dP:List Value := [zI6,zI6,zI6,zI6,cn,cn,cn,cn,cn,cn,cn,cn,cn,cn,cn,cn,cn,cn,cn,cn,cn,cn,cn,cn,cn,cn,cn,cn,cn,cn,cn,cn,cn,cn,cn,cn,zSl]
abbrev zlit1:List Value := [cn,cn,cn,cn,cn,cn,cn,cn,cn,cn,cn,cn,cn,cn,cn,cn,cn,cn,cn,cn,cn,cn,cn,cn,cn,cn,cn,cn,cn,cn,cn,cn,zI6,zI6,zI6,zI6,cn,cn,cn,cn,cn,cn,cn,cn,cn,cn,cn,cn,cn,cn,cn,cn,cn,cn,cn,cn,cn,cn,cn,cn,cn,cn,cn,cn,cn,cn,cn,cn,zSl,zI6,zSl]
abbrev zlit2:List Value := [zU3,zU3,zU3,zU3,zU3,zU3,zU3,zU3,cn,cn,cn,cn,cn,cn,cn,cn,cn,cn,cn,cn,cn,cn,cn,cn,cn,cn,cn,cn,cn,cn,cn,cn,cn,cn,cn,cn,cn,cn,cn,cn,cn,cn,cn,cn,cn,cn,cn,cn,cn,cn,cn,cn,cn,cn,cn,cn,cn,cn,cn,cn,cn,cn,cn,cn,cn,cn,cn,cn,cn,cn,cn,cn,zI6]
abbrev zlit3:List Value := [(.pointer none),zI6,zI6,zI6,zU6,zU6,zBf,zI6]
abbrev eh:=List Vl
inductive Ex where
 |normal|ret|exit (id:Nat)
 deriving DecidableEq
inductive fF where
 |map (es:List (Vl×Vl×Nat)) (clock:Nat)
 |iter (m:Option Nat) (since:Nat) (seen:List Nat) (stepped:Nat)
 |loop (st:LoopState) (pend:Option Ex) (tmps:List Vl) (params:List Tmp) (assign body:Code)
inductive BB where
 |cells (k:eh)
 |obj (o:fF)
def BB.blk:BB->Option eh
 | .cells k=>some k
 | .obj _=>none
inductive Tr where
 |nil
 |node (l:Tr) (v:Option BB) (r:Tr)
noncomputable section
def Tr.get (t:Tr):Nat->Option BB:=
 Tr.rec (motive:=fun _=>Nat->Option BB) (fun _=>none) (fun _ v _ il ir n=>Nat.rec (motive:=fun _=>Option BB) v (fun m _=>Bool.rec (motive:=fun _=>Option BB) (il (Nat.div m 2)) (ir (Nat.div m 2)) (Nat.beq (Nat.mod m 2) 1)) n) t
def Tr.nj (f:Nat) (t:Tr) (n:Nat) (x:Option BB):Tr:=
 Nat.rec (motive:=fun _=>Tr->Nat->Tr) (fun t _=>t)
  (fun _ ih t n=>Tr.rec (motive:=fun _=>Tr)
   (Nat.rec (motive:=fun _=>Tr) (.node .nil x .nil) (fun m _=>Bool.rec (motive:=fun _=>Tr) (.node (ih .nil (Nat.div m 2)) none .nil) (.node .nil none (ih .nil (Nat.div m 2))) (Nat.beq (Nat.mod m 2) 1)) n)
   (fun l v r _ _=>Nat.rec (motive:=fun _=>Tr) (.node l x r) (fun m _=>Bool.rec (motive:=fun _=>Tr) (.node (ih l (Nat.div m 2)) v r) (.node l v (ih r (Nat.div m 2))) (Nat.beq (Nat.mod m 2) 1)) n) t) f t n
def Tr.set (t:Tr) (n:Nat) (x:Option BB):Tr:=Tr.nj (n+1) t n x
structure ae where
 n0:Nat
 old:Nat->Option (List Vl)
 new:Tr
 cnt:Nat
def ae.next (h:ae):Nat:=h.n0+h.cnt
def ae.getB (h:ae) (b:Nat):Option BB:=
 ae.rec (motive:=fun _=>Option BB) (fun n0 old new cnt=>Bool.rec (motive:=fun _=>Option BB) (Bool.rec (motive:=fun _=>Option BB) none (new.get (Nat.sub b n0)) (Nat.blt b (Nat.add n0 cnt))) ((old b).map .cells) (Nat.blt b n0)) h
def ae.eZ (h:ae) (b:Nat):h.getB b=if b<h.n0 then (h.old b).map .cells else if b<h.n0+h.cnt then h.new.get (b-h.n0) else none:=by
 show Bool.rec (motive:=fun _=>Option BB) (Bool.rec (motive:=fun _=>Option BB) none (h.new.get (Nat.sub b h.n0)) (Nat.blt b (Nat.add h.n0 h.cnt))) ((h.old b).map .cells) (Nat.blt b h.n0)=_;have k : ∀ m n:Nat,Nat.blt m n=decide (m<n):=by
  intro m n;cases h:Nat.blt m n with
  |true=>rw [DN (by simpa using h)]
  |false=>rw [DW];intro hh;rw [show Nat.blt m n=true by simpa using hh] at h;cases h
 rw [k,k];by_cases h1:b<h.n0
 ·rw [DN h1,DH h1]
 ·rw [DW h1,DL h1];by_cases h2:b<h.n0+h.cnt
  ·rw [DH h2];have:decide (b<Nat.add h.n0 h.cnt)=true:=DN h2;rw [this];rfl
  ·rw [DL h2];have:decide (b<Nat.add h.n0 h.cnt)=false:=DW h2;rw [this]
def ae.get (h:ae) (b:Nat):Option eh:=(h.getB b).bind BB.blk
def ae.put (h:ae) (b:Nat) (x:Option BB):ae:=ae.rec (motive:=fun _=>ae) (fun n0 old new cnt=>⟨n0,old,new.set (b-n0) x,cnt⟩) h
def ae.set (h:ae) (b:Nat) (x:eh):ae:=h.put b (some (.cells x))
def ae.setO (h:ae) (b:Nat) (x:fF):ae:=h.put b (some (.obj x))
def ae.kill (h:ae) (b:Nat):ae:=h.put b none
def ae.ba (h:ae) (x:BB):ae:=ae.rec (motive:=fun _=>ae) (fun n0 old new cnt=>⟨n0,old,new.set cnt (some x),cnt+1⟩) h
def ae.alloc (h:ae) (x:eh):ae:=h.ba (.cells x)
abbrev aY:=Option (Vl×ae)
def flat:Vl->Bool
 | .bool _ | .int _ _ | .float _ _ | .complex _ _ _ | .string _ | .pointer none | .slice none _ _ | .map none | .chan none | .nilFunc | .nilIface=>true
 | .func (.func _) f c=>f.isEmpty&&c.isEmpty
 |_=>false
def bD (l:List Vl):Bool:=l.all flat
def ground:Vl->Bool
 | .agg cs=>bD cs.toList
 |v=>flat v
def sK (P:Program) (t:TypeId):Option Bool:=
 match P.underlying t with
 |some (.struct _)|some (.array _ _)=>some true
 |some _=>some false
 |none=>none
def cQ (P:Program) (t:TypeId):Option Nat:=(P.info? t).map (·.size)
def yJ (P:Program) (t:TypeId):Option Nat:=(P.info? t).map (·.bytes)
def jr (P:Program) (t:TypeId):Option Vl:=(P.info? t).bind (·.zero)
def elemT (P:Program) (t:TypeId):Option TypeId:=
 match P.underlying t with
 |some (.slice e)=>some e
 |_=>none
def splice (l:List Vl) (off:Nat) (xs:List Vl):List Vl:=l.take off++xs++l.drop (off+xs.length)
def ptr (b off:Nat):Vl := .pointer (some ⟨b,off,none⟩)
def bW:Vl->Bool
 | .chan (some _)=>true
 |_=>false
def noHoles (l:List Vl):Bool:=l.all fun v => !(bW v)
def ld1 (v:Vl) (h:ae):aY:=
 match v with
 | .pointer (some ⟨b,off,none⟩)=>
   match h.get b with
   |some k=>match k[off]? with
    |some c=>if bW c=false then some (c,h) else none
    |none=>none
   |none=>none
 |_=>none
def bQ (n:Nat) (v:Vl) (h:ae):aY:=
 match v with
 | .pointer (some ⟨b,off,none⟩)=>
   match h.get b with
   |some k=>if off+n<=k.length/\noHoles ((k.drop off).take n)=true then some (.agg ((k.drop off).take n).toArray,h) else none
   |none=>none
 |_=>none
def ld (P:Program) (t:TypeId) (v:Vl) (h:ae):aY:=
 match sK P t,cQ P t with
 |some true,some n=>bQ n v h
 |some false,some _=>ld1 v h
 |_,_=>none
def aM (l:List Vl):Bool:=l.all Value.oneCell'
def stL (b off:Nat) (xs:List Vl) (h:ae):Option ae:=
 match h.get b with
 |some k=>if h.n0<=b&&(off+xs.length<=k.length)&&aM xs then some (h.set b (splice k off xs)) else none
 |none=>none
def bI (n:Nat) (v x:Vl) (h:ae):aY:=
 match v with
 | .pointer (some ⟨b,off,none⟩)=>
   if x.cells.size=n then (stL b off x.cells.toList h).map fun h'=>(undef,h') else none
 |_=>none
def st (P:Program) (t:TypeId) (v x:Vl) (h:ae):aY:=
 match cQ P t with
 |some n=>bI n v x h
 |none=>none
def newRow (cells:List Vl) (h:ae):Vl×ae:=(ptr h.next 0,h.alloc cells)
def box (v:Vl) (h:ae):aY:=if aM v.cells.toList then some (newRow v.cells.toList h) else none
def zero (P:Program) (t:TypeId) (h:ae):aY:=
 match jr P t with
 |some z=>if bD z.cells.toList then some (newRow z.cells.toList h) else none
 |none=>none
def jq:List Vl->List (Nat×Nat×Vl)->Option (List Vl)
 |cells,[]=>some cells
 |cells,(off,n,v)::rest=>
  if v.cells.size=n&&(off+n<=cells.length) then jq (splice cells off v.cells.toList) rest else none
def fieldPlaces (P:Program) (fs:Array Field) (parts:List (Nat×Vl)):Option (List (Nat×Nat×Vl)):=
 parts.mapM fun x=>
  match fs[x.1]? with
  |some f=>(cQ P f.type).map fun n=>(f.offset,n,x.2)
  |none=>none
def allSizes (P:Program) (fs:Array Field):Bool:=fs.toList.all fun f=>(cQ P f.type).isSome
def buildA (P:Program) (t:TypeId) (parts:List (Nat×Vl)):Option Vl:=
 match jr P t,P.underlying t with
 |some z,some (.struct fs)=>
  if bD z.cells.toList&&allSizes P fs then
   match fieldPlaces P fs parts with
   |some ps=>(jq z.cells.toList ps).map fun cs => .agg cs.toArray
   |none=>none
  else none
 |some z,some (.array _ e)=>
  match cQ P e with
  |some n=>if bD z.cells.toList then (jq z.cells.toList (parts.map fun x=>(x.1*n,n,x.2))).map fun cs => .agg cs.toArray else none
  |none=>none
 |_,_=>none
def dJ (z:List Vl) (n:Nat):List Vl:=(List.range n).flatMap fun _=>z
def buildSliceA (P:Program) (t:TypeId) (len:Nat) (parts:List (Nat×Vl)) (h:ae):aY:=
 match elemT P t with
 |some e=>match cQ P e,jr P e with
  |some n,some z=>
   if bD z.cells.toList&&z.cells.size=n&&0<n&&len*n<=16777216&&aM (parts.flatMap fun x=>x.2.cells.toList) then
    match jq (dJ z.cells.toList len) (parts.map fun x=>(x.1*n,n,x.2)) with
    |some cs=>some (.slice (some ⟨h.next,0,none⟩) len len,h.alloc cs)
    |none=>none
   else none
  |_,_=>none
 |none=>none
def nilCheckA:Vl->Option Vl
 | .pointer (some a)=>some (.pointer (some a))
 | .func (.func f) x c=>some (.func (.func f) x c)
 | .func (.yield l) x c=>some (.func (.yield l) x c)
 |_=>none
def oL (op:BinOp) (k:IntKind) (x y:Int):Option Vl:=
 let a:=BitVec.ofInt k.bits x
 let b:=BitVec.ofInt k.bits y
 match op with
 | .and=>some (.int k (k.wrap (a &&& b).toNat))
 | .or=>some (.int k (k.wrap (a ||| b).toNat))
 | .xor=>some (.int k (k.wrap (a ^^^ b).toNat))
 | .andNot=>some (.int k (k.wrap (a &&& ~~~b).toNat))
 |_=>none
def iw (op:BinOp) (k k':IntKind) (a b:Int):Option Vl:=
 match op with
 | .shl=>if b<0 then none else some (.int k (k.wrap (a*2^(min b.toNat k.bits))))
 | .shr=>if b<0 then none else some (.int k (a.fdiv (2^(min b.toNat k.bits))))
 |op=>if k≠k' then none else
  match op with
  | .add=>some (.int k (k.wrap (a+b)))
  | .sub=>some (.int k (k.wrap (a-b)))
  | .mul=>some (.int k (k.wrap (a*b)))
  | .quo=>if b=0 then none else some (.int k (k.wrap (a.tdiv b)))
  | .rem=>if b=0 then none else some (.int k (a.tmod b))
  | .eql=>some (.bool (a==b))
  | .neq=>some (.bool (a != b))
  | .lss=>some (.bool (a<b))
  | .leq=>some (.bool (a<=b))
  | .gtr=>some (.bool (a>b))
  | .geq=>some (.bool (a>=b))
  |op=>oL op k a b
def cZ {α:Type} (P:Program):Sem α->Option α
 | .pure a=>some a
 | .program k=>cZ P (k P)
 |_=>none
def binA (P:Program) (op:BinOp) (t:TypeId) (x y:Vl):Option Vl:=
 match x,y with
 | .int k a,.int k' b=>iw op k k' a b
 | .pointer a,.pointer b=>
   match P.underlying t,a,b,op with
   |some (.pointer _),none,b,.eql=>some (.bool b.isNone)
   |some (.pointer _),none,b,.neq=>some (.bool !b.isNone)
   |some (.pointer _),some _,none,.eql=>some (.bool false)
   |some (.pointer _),some _,none,.neq=>some (.bool true)
   |_,_,_,_=>none
 | .slice a _ _,.slice b _ _=>
   match P.underlying t,a,b,op with
   |some (.slice _),none,b,.eql=>some (.bool b.isNone)
   |some (.slice _),none,b,.neq=>some (.bool !b.isNone)
   |some (.slice _),some _,none,.eql=>some (.bool false)
   |some (.slice _),some _,none,.neq=>some (.bool true)
   |_,_,_,_=>none
 | .map a,.map b=>
   match P.underlying t,a,b,op with
   |some (.map _ _),none,b,.eql=>some (.bool b.isNone)
   |some (.map _ _),none,b,.neq=>some (.bool !b.isNone)
   |some (.map _ _),some _,none,.eql=>some (.bool false)
   |some (.map _ _),some _,none,.neq=>some (.bool true)
   |_,_,_,_=>none
 |x,y=>if ground x&&ground y then
   match cZ P (binOp op t x y) with
   |some r=>if flat r then some r else none
   |none=>none
  else none
def eqOk (P:Program) (op:BinOp) (t:TypeId) (x y:Vl):Bool:=
 match op,x,y with
 | .eql,.agg _,.agg _ | .neq,.agg _,.agg _ => !(P.eqGuardType P.depth t)
 | .eql,.nilIface,.nilIface | .neq,.nilIface,.nilIface=>false
 |_,_,_=>true
def aA (P:Program) (op:BinOp) (t:TypeId) (x y:Vl):Option Vl:=if eqOk P op t x y then binA P op t x y else none
def unA (op:UnOp) (x:Vl):Option Vl:=
 match op,x with
 | .neg,.int k n=>some (.int k (k.wrap (0-n)))
 | .xor,.int k n=>oL .xor k (if k.signed then -1 else k.max) n
 | .not,.bool b=>some (.bool !b)
 |_,_=>none
def firstA (size n:Nat) (x:Vl) (h:ae):Option (List Vl):=
 match x with
 | .slice none _ _=>if n=0 then some [] else none
 | .slice (some ⟨b,off,_⟩) _ _=>
   if n*size=0 then some [] else
   match h.get b with
   |some k=>if off+n*size<=k.length/\noHoles ((k.drop off).take (n*size))=true then some ((k.drop off).take (n*size)) else none
   |none=>none
 | .string s=>some ((s.extract 0 n).data.toList.map fun b => .int .u8 b.toNat)
 |_=>none
def uq:Vl->Option Nat
 | .slice _ n _=>some n
 | .string s=>some s.size
 |_=>none
def asByte:Vl->Option UInt8
 | .int .u8 n=>some (UInt8.ofNat n.toNat)
 |_=>none
def convA (P:Program) (src dst:TypeId) (x:Vl) (h:ae):aY:=
 match P.underlying src,P.underlying dst,x with
 |some _,some (.int k),.int _ n=>some (.int k (k.wrap n),h)
 |some _,some .string,.string s=>some (.string s,h)
 |some _,some (.slice e),.string s=>
  match P.underlying e with
  |some (.int .u8)=>if s.size<=140737488355328 then some (.slice (some ⟨h.next,0,some 1⟩) s.size s.size,h.alloc (s.data.toList.map fun b => .int .u8 b.toNat)) else none
  |_=>none
 |some (.slice _),some (.slice e),.slice (some a) n c=>
  match P.underlying e with
  |some (.int .u8)=>if src=dst&&h.n0<=a.block&&(h.get a.block).isSome && !(a.spot==some 0) then some (.slice (some a) n c,h) else none
  |_=>none
 |some (.slice e),some .string,.slice a n c=>
  match P.underlying e with
  |some (.int .u8)=>
   match firstA 1 n (.slice a n c) h with
   |some l=>match l.mapM asByte with
    |some bs=>some (.string ⟨bs.toArray⟩,h)
    |none=>none
   |none=>none
  |_=>none
 |_,_,_=>none
def makeA (P:Program) (t:TypeId) (len cap:Vl) (h:ae):aY:=
 match elemT P t,len,cap with
 |some e,.int .i64 l,.int .i64 c=>
  match cQ P e,yJ P e,jr P e with
  |some n,some by_,some z=>
   if 0<=l&&l<=c&&c<=9223372036854775807&&by_*c<=281474976710656&&bD z.cells.toList&&z.cells.size=n&&0<n then
    some (.slice (some ⟨h.next,0,none⟩) l.toNat c.toNat,h.alloc (dJ z.cells.toList c.toNat))
   else none
  |_,_,_=>none
 |_,_,_=>none
def boundA (d:Nat) (y:Nat):Option Vl->Option Nat
 |none=>some d
 |some (.int _ i)=>if 0<=i/\i<=y then some i.toNat else none
 |some _=>none
def boundsA (len cap:Nat) (lo hi mx:Option Vl):Option (Nat×Nat×Nat):=
 match boundA cap cap mx with
 |some m=>
  match hi,mx with
  |none,some _=>none
  |_,_=>
   match boundA len m hi with
   |some h=>match boundA 0 h lo with
    |some l=>some (l,h,m)
    |none=>none
   |none=>none
 |none=>none
def sliceArr (n size:Nat) (x:Vl) (lo hi mx:Option Vl):Option Vl:=
 match x with
 | .pointer (some ⟨b,off,none⟩)=>
   match boundsA n n lo hi mx with
   |some (l,h,m)=>some (.slice (some ⟨b,if m=l then off else off+l*size,none⟩) (h-l) (m-l))
   |none=>none
 |_=>none
def sliceSl (size:Nat) (x:Vl) (lo hi mx:Option Vl):Option Vl:=
 match x with
 | .slice none len cap=>
   match boundsA len cap lo hi mx with
   |some (l,h,m)=>some (.slice none (h-l) (m-l))
   |none=>none
 | .slice (some ⟨b,off,none⟩) len cap=>
   match boundsA len cap lo hi mx with
   |some (l,h,m)=>some (.slice (some ⟨b,if m=l then off else off+l*size,none⟩) (h-l) (m-l))
   |none=>none
 | .slice (some ⟨b,off,some s⟩) len cap=>
   match mx with
   |some u=>match boundsA len cap lo hi (some u) with
    |some (l,h,m)=>if s=size/\s≠0 then (if m=l then some (.slice (some ⟨b,off,some s⟩) 0 0) else some (.slice (some ⟨b,off+l*size,none⟩) (h-l) (m-l))) else none
    |none=>none
   |none=>match boundsA len cap lo hi none with
    |some (l,h,m)=>if s=size/\s≠0 then some (.slice (some ⟨b,off+l*size,some s⟩) (h-l) (m-l)) else if s=0/\len=0/\cap=0 then some (.slice (some ⟨b,off,some 0⟩) 0 0) else none
    |none=>none
 | .string s=>
   match mx with
   |some _=>none
   |none=>match boundsA s.size s.size lo hi none with
    |some (l,h,_)=>some (.string (s.extract l h))
    |none=>none
 |_=>none
def sliceA (P:Program) (t:TypeId) (x:Vl) (lo hi mx:Option Vl):Option Vl:=
 match P.underlying t with
 |some (.array n e)=>(cQ P e).bind fun z=>sliceArr n z x lo hi mx
 |some (.pointer arr)=>match P.underlying arr with
  |some (.array n e)=>(cQ P e).bind fun z=>sliceArr n z x lo hi mx
  |_=>none
 |some (.slice e)=>match x with
  | .string _=>none
  |x=>(cQ P e).bind fun z=>sliceSl z x lo hi mx
 |some .string=>match x with
  | .string s=>sliceSl 1 (.string s) lo hi mx
  |_=>none
 |_=>none
def aC (v:Vl) (n:Nat):Option Vl:=
 match v with
 | .pointer (some ⟨b,off,none⟩)=>some (ptr b (off+n))
 |_=>none
def fieldAtA (P:Program) (t:TypeId) (x:Vl) (i:Nat):Option Vl:=
 match P.underlying t with
 |some (.struct fs)=>match fs[i]? with
  |some f=>match cQ P f.type with
   |some n=>if n=0 then none else aC x f.offset
   |none=>none
  |none=>none
 |_=>none
def idxA (n size:Nat) (v ix:Vl):Option Vl:=
 match ix with
 | .int _ i=>if 0<=i/\i<n then aC v (i.toNat*size) else none
 |_=>none
def idxS (size:Nat) (v ix:Vl):Option Vl:=
 match v,ix with
 | .slice (some ⟨b,off,_⟩) len _,.int _ i=>if 0<=i/\i<len then some (ptr b (off+i.toNat*size)) else none
 |_,_=>none
def indexAtA (P:Program) (t:TypeId) (x ix:Vl):Option Vl:=
 match P.underlying t with
 |some (.array n e)=>(cQ P e).bind fun z=>idxA n z x ix
 |some (.slice e)=>(cQ P e).bind fun z=>idxS z x ix
 |_=>none
def pk (P:Program) (t:TypeId) (cs:Array Vl) (off:Nat):Option Vl:=
 match sK P t,cQ P t with
 |some true,some n=>some (.agg (cs.extract off (off+n)))
 |some false,some _=>cs[off]?
 |_,_=>none
def fieldA (P:Program) (t:TypeId) (x:Vl) (i:Nat):Option Vl:=
 match P.underlying t,x with
 |some (.struct fs),.agg cs=>match fs[i]? with
  |some f=>pk P f.type cs f.offset
  |none=>none
 |_,_=>none
def indexA (P:Program) (t:TypeId) (x ix:Vl):Option Vl:=
 match P.underlying t,x,ix with
 |some (.array n e),.agg cs,.int _ i=>if 0<=i/\i<n then (cQ P e).bind fun z=>pk P e cs (i.toNat*z) else none
 |some .string,.string s,.int _ i=>if 0<=i then (s[i.toNat]?).map fun b => .int .u8 b.toNat else none
 |_,_,_=>none
def extractA (t:Vl) (i:Nat):Option Vl:=
 match t with
 | .tuple vs=>vs[i]?
 |_=>none
def appendA (size by_:Nat) (s x:Vl) (h:ae):aY:=
 match s,uq x with
 | .slice cK len cap,some m=>
   match firstA size m x h with
   |none=>none
   |some news=>
    if !(aM news) || !((len+m)*by_<=140737488355328) || !(len+m<=4611686018427387904)||news.length≠m*size then none else
    if len+m<=cap then
     if m=0 then some (s,h) else
     match cK with
     |some ⟨b,off,_⟩=>(stL b (off+len*size) news h).map fun h'=>(.slice cK (len+m) cap,h')
     |none=>none
    else
     match cK with
     |none=>if len=0 then some (.slice (some ⟨h.next,0,some size⟩) (len+m) (len+m),h.alloc news) else none
     |some ⟨b,off,sp⟩=>
      match firstA size len s h with
      |none=>none
      |some olds=>
       if olds.length≠len*size then none else
       match sp with
       |none=>some (.slice (some ⟨h.next,0,some size⟩) (len+m) (len+m),h.alloc (olds++news))
       |some z=>if z=size&&h.n0<=b&&(h.get b).isSome then some (.slice (some ⟨h.next,0,some size⟩) (len+m) (len+m),(h.kill b).alloc (olds++news)) else none
 |_,_=>none
def js (size:Nat) (d s:Vl) (h:ae):aY:=
 match d,uq s with
 | .slice cK dLen _,some m=>
   let n:=min m dLen
   match firstA size n s h with
   |none=>none
   |some news=>
    if n=0 then some (.int .i64 n,h) else
    match cK with
    |none=>none
    |some ⟨b,off,_⟩=>(stL b off news h).map fun h'=>(.int .i64 n,h')
 |_,_=>none
def clearA (P:Program) (e:TypeId) (size:Nat) (d:Vl) (h:ae):aY:=
 match d with
 | .slice none _ _=>some (undef,h)
 | .slice (some ⟨b,off,_⟩) n _=>
   if n=0 then some (undef,h) else
   match jr P e with
   |some z=>if bD z.cells.toList&&z.cells.size=size&&0<size then (stL b off (dJ z.cells.toList n) h).map fun h'=>(undef,h') else none
   |none=>none
 |_=>none
def lenOfT (P:Program) (t:TypeId) (x:Vl):Option Vl:=
 match P.underlying t,x with
 |some .string,.string s=>some (.int .i64 s.size)
 |some (.array n _),_=>some (.int .i64 n)
 |some (.pointer arr),_=>match P.underlying arr with
  |some (.array n _)=>some (.int .i64 n)
  |_=>none
 |some (.slice _),.slice _ n _=>some (.int .i64 n)
 |_,_=>none
def minmax (mx:Bool):Vl->List Vl->Option Vl
 |v,[]=>some v
 | .int k x,.int k' y::rest=>if k=k' then minmax mx (.int k (if (if mx then y>x else y<x) then y else x)) rest else none
 |_,_=>none
def mapT (P:Program) (t:TypeId):Option (TypeId×TypeId):=
 match P.underlying t with
 |some (.map k e)=>some (k,e)
 |_=>none
def keyOk (P:Program):Nat->TypeId->Vl->Bool
 | 0,_,_=>false
 |n+1,t,v=>
  match P.underlying t,v with
  |some (.interface _),_=>false
  |some (.array len e),.agg cs=>
   match cQ P e with
   |some z=>(List.range len).all fun i=>match pk P e cs (i*z) with
    |some x=>keyOk P n e x
    |none=>false
   |none=>false
  |some (.struct fs),.agg cs=>fs.toList.all fun f=>match pk P f.type cs f.offset with
    |some x=>keyOk P n f.type x
    |none=>false
  |some (.array _ _),_|some (.struct _),_=>false
  |some _,_=>true
  |none,_=>false
def eqA (P:Program) (t:TypeId) (x y:Vl):Option Bool:=if ground x&&ground y then cZ P (Op.equal t x y) else none
def findA (P:Program) (t:TypeId) (k:Vl):List (Vl×Vl×Nat)->Nat->Option (Option (Nat×Vl))
 | [],_=>some none
 |e::es,i=>match eqA P t k e.1 with
  |some true=>some (some (i,e.2.1))
  |some false=>findA P t k es (i+1)
  |none=>none
def entriesA (x:Vl) (h:ae):Option (List (Vl×Vl×Nat)):=
 match x with
 | .map none=>some []
 | .map (some b)=>match h.getB b with
   |some (.obj (.map es _))=>some es
   |_=>none
 |_=>none
def lookupA (P:Program) (t:TypeId) (x k:Vl) (ok:Bool) (h:ae):aY:=
 match mapT P t,entriesA x h with
 |some (kt,et),some es=>
  if keyOk P 10000 kt k&&ground k then
   match findA P kt k es 0,jr P et with
   |some (some (_,v)),some _=>some (if ok then .tuple #[v,.bool true] else v,h)
   |some none,some z=>if ground z then some (if ok then .tuple #[z,.bool false] else z,h) else none
   |_,_=>none
  else none
 |_,_=>none
def mapUpdateA (P:Program) (t:TypeId) (m k v:Vl) (h:ae):aY:=
 match mapT P t,m with
 |some (kt,_),.map (some b)=>match h.getB b with
  |some (.obj (.map es clock))=>
   if keyOk P 10000 kt k&&ground k then
    match findA P kt k es 0 with
    |some (some (i,_))=>match es[i]? with
     |some x=>if Instr.sameBits 10000 x.1 k then some (undef,h.setO b (.map (es.set i (k,v,x.2.2)) clock)) else none
     |none=>none
    |some none=>some (undef,h.setO b (.map (es ++ [(k,v,clock)]) (clock+1)))
    |none=>none
   else none
  |_=>none
 |_,_=>none
def iO (P:Program) (t:TypeId) (m k:Vl) (h:ae):aY:=
 match mapT P t,m with
 |some (kt,et),.map (some b)=>match h.getB b with
  |some (.obj (.map es clock))=>
   if keyOk P 10000 kt k&&ground k then
    match findA P kt k es 0 with
    |some (some (i,v))=>match es[i]? with
     |some x=>if Instr.sameBits 10000 x.1 k then some (.tuple #[v,goInt x.2.2],h.setO b (.map (es.set i (k,x.2.1,x.2.2)) clock)) else none
     |none=>none
    |some none=>match jr P et with
     |some z=>if ground z then some (.tuple #[z,goInt clock],h.setO b (.map (es ++ [(k,z,clock)]) (clock+1))) else none
     |none=>none
    |none=>none
   else none
  |_=>none
 |_,_=>none
def entryStoreA (m s v:Vl) (h:ae):aY:=
 match m,s with
 | .map (some b),.int _ n=>match h.getB b with
   |some (.obj (.map es clock))=>
    match es.findIdx? (fun e=>(e.2.2:Int)==n) with
    |some i=>match es[i]? with
     |some x=>some (undef,h.setO b (.map (es.set i (x.1,v,x.2.2)) clock))
     |none=>none
    |none=>none
   |_=>none
 |_,_=>none
def dX (r:Option Vl) (P:Program) (t:TypeId) (h:ae):aY:=
 match r with
 |none=>some (.map (some h.next),h.ba (.obj (.map [] 0)))
 |some (.int _ _)=>if (mapT P t).isSome then some (.map (some h.next),h.ba (.obj (.map [] 0))) else none
 |some _=>none
def rangeA (P:Program) (t:TypeId) (x:Vl) (h:ae):aY:=
 match mapT P t,x with
 |some _,.map none=>some (ptr h.next 0,h.ba (.obj (.iter none 0 [] 0)))
 |some _,.map (some b)=>match h.getB b with
  |some (.obj (.map _ clock))=>some (ptr h.next 0,h.ba (.obj (.iter (some b) clock [] clock)))
  |_=>none
 |_,_=>none
def pO (es:List (Vl×Vl×Nat)) (since:Nat) (seen:List Nat) (last:Nat):Option (List (Option (Vl×Vl×Nat))):=
 if !seen.isEmpty && !es.isEmpty&&es.all (fun e=>decide (last<=e.2.2)) then none else
 let left:=es.filter fun e => !seen.contains e.2.2
 let old:=left.filter fun e=>decide (e.2.2<since)
 let new:=left.filter fun e=>decide (since<=e.2.2)
 some ((if old.isEmpty then [none] else [])++(old++new).map some)
def stepTo (r m since:Nat) (seen:List Nat) (clock:Nat) (c:Option (Vl×Vl×Nat)) (h:ae):Vl×ae:=
 match c with
 |some e=>(.tuple #[.bool true,e.1,e.2.1],h.setO r (.iter (some m) since (seen ++ [e.2.2]) clock))
 |none=>(.tuple #[.bool false],h)
def nextsA (it:Vl) (h:ae):Option (List (Vl×ae)):=
 match it with
 | .pointer (some ⟨r,0,none⟩)=>match h.getB r with
   |some (.obj (.iter none _ _ _))=>some [(.tuple #[.bool false],h)]
   |some (.obj (.iter (some m) since seen last))=>match h.getB m with
    |some (.obj (.map es clock))=>(pO es since seen last).map fun l=>l.map fun c=>stepTo r m since seen clock c h
    |_=>none
   |_=>none
 |_=>none
def nextA (it:Vl) (str:Bool) (h:ae):aY:=
 if str then none else
 match nextsA it h with
 |some [r]=>some r
 |_=>none
def entryA (it:Vl) (h:ae):aY:=
 match it with
 | .pointer (some ⟨r,0,none⟩)=>match h.getB r with
   |some (.obj (.iter (some m) _ seen last))=>match seen.getLast?,h.getB m with
    |some stamp,some (.obj (.map es clock))=>
     if clock=last then (es.find? fun e=>e.2.2==stamp).map fun e=>(.tuple #[e.1,e.2.1],h) else none
    |_,_=>none
   |_=>none
 |_=>none
def deleteA (P:Program) (t:TypeId) (m k:Vl) (h:ae):aY:=
 match mapT P t with
 |some (kt,_)=>
  if keyOk P 10000 kt k&&ground k then
   match m with
   | .map none=>some (undef,h)
   | .map (some b)=>match h.getB b with
     |some (.obj (.map es clock))=>match findA P kt k es 0 with
      |some (some (i,_))=>some (undef,h.setO b (.map (es.eraseIdx i) clock))
      |some none=>some (undef,h.setO b (.map es clock))
      |none=>none
     |_=>none
   |_=>none
  else none
 |none=>none
def wR (x:Vl) (h:ae):Option Vl:=(entriesA x h).map fun es => .int .i64 es.length
def jx (x:Vl) (h:ae):aY:=
 match x with
 | .map none=>some (undef,h)
 | .map (some b)=>match h.getB b with
   |some (.obj (.map _ clock))=>some (undef,h.setO b (.map [] clock))
   |_=>none
 |_=>none
def ph:TypeDesc->Bool
 | .int _=>true
 |_=>false
def builtinA (P:Program) (b:Builtin) (ts:List TypeId) (args:List Vl) (h:ae):aY:=
 match b,args,ts with
 | .append,[s,x],[t,tx]=>
   match elemT P t with
   |some e=>match cQ P e,yJ P e,jr P e,P.underlying tx with
    |some n,some by_,some z,some d=>
     if ph d || !(z.cells.size=n)||n=0 then none else appendA n by_ s x h
    |_,_,_,_=>none
   |none=>none
 | .copy,[d,s],[t,_]=>match elemT P t with
   |some e=>(cQ P e).bind fun n=>js n d s h
   |none=>none
 | .clear,[d],[t]=>match elemT P t with
   |some e=>(cQ P e).bind fun n=>clearA P e n d h
   |none=>if (mapT P t).isSome then jx d h else none
 | .len,[x],[t]=>match lenOfT P t x with
   |some v=>some (v,h)
   |none=>if (mapT P t).isSome then (wR x h).map fun v=>(v,h) else none
 | .delete,[m,k],t::_=>deleteA P t m k h
 | .max,v::u::r,_=>(minmax true v (u::r)).map fun v=>(v,h)
 | .min,v::u::r,_=>(minmax false v (u::r)).map fun v=>(v,h)
 |_,_,_=>none
abbrev ah:=FuncId->List Vl->ae->aY
def zh (P:Program) (l:Nat):FuncId:=P.funcs.size+l
def callA (P:Program) (C:ah) (f:Vl) (args:List Vl) (h:ae):aY:=
 match f with
 | .func (.func i) first captured=>if i<P.funcs.size then C i (first.toList++args++captured.toList) h else none
 | .func (.yield l) first _=>C (zh P l) (first.toList++args) h
 |_=>none
def ifaceA (P:Program) (t:TypeId) (x:Vl):Option Vl:=
 match P.underlying t with
 |some (.interface _)=>none
 |some _=>some (.iface t x)
 |none=>none
def assertA (P:Program) (asserted:TypeId) (ok:Bool) (x:Vl):Option Vl:=
 match P.underlying asserted with
 |some (.interface _)=>none
 |some _=>match x with
  | .iface t v=>if t=asserted then some (if ok then .tuple #[v,.bool true] else v) else none
  |_=>none
 |none=>none
def opA (P:Program) (C:ah) (o:Oper) (ρ:Operand->Vl) (h:ae):aY:=
 let pu (v:Option Vl):aY:=v.map fun v=>(v,h)
 match o.op with
 | .move x | .assign x=>some (ρ x,h)
 | .pick c a b=>match ρ c with
   | .bool t=>some (if t then ρ a else ρ b,h)
   |_=>none
 | .alloc t=>zero P t h
 | .box _ x=>box (ρ x) h
 | .build t parts=>pu (buildA P t (parts.toList.map fun (i,x)=>(i,ρ x)))
 | .buildSlice t len parts=>buildSliceA P t len (parts.toList.map fun (i,x)=>(i,ρ x)) h
 | .load t x=>ld P t (ρ x) h
 | .store t x v=>st P t (ρ x) (ρ v) h
 | .nilCheck x=>pu (nilCheckA (ρ x))
 | .binOp op t x y _=>pu (aA P op t (ρ x) (ρ y))
 | .unOp op _ x=>pu (unA op (ρ x))
 | .convert s d x=>convA P s d (ρ x) h
 | .makeSlice t l c=>makeA P t (ρ l) (ρ c) h
 | .slice t x lo hi mx=>pu (sliceA P t (ρ x) (lo.map ρ) (hi.map ρ) (mx.map ρ))
 | .fieldAddr t x i=>pu (fieldAtA P t (ρ x) i)
 | .field t x i=>pu (fieldA P t (ρ x) i)
 | .indexAddr t x i=>pu (indexAtA P t (ρ x) (ρ i))
 | .index t x i=>pu (indexA P t (ρ x) (ρ i))
 | .extract t i=>pu (extractA (ρ t) i)
 | .makeFunc f first captured=>match f with
   | .yield _=>none
   |f=>some (.func f (first.map ρ) (captured.map ρ),h)
 | .makeInterface t x=>pu (ifaceA P t (ρ x))
 | .typeAssert x _ t ok=>pu (assertA P t ok (ρ x))
 | .makeMap t r=>dX (r.map ρ) P t h
 | .lookup t x k ok=>lookupA P t (ρ x) (ρ k) ok h
 | .mapUpdate t m k v | .insert t m k v=>mapUpdateA P t (ρ m) (ρ k) (ρ v) h
 | .mapEntry t m k=>iO P t (ρ m) (ρ k) h
 | .entryStore _ m s v=>entryStoreA (ρ m) (ρ s) (ρ v) h
 | .range t x=>rangeA P t (ρ x) h
 | .next it str=>nextA (ρ it) str h
 | .entry it=>entryA (ρ it) h
 | .call c=>
   let args:=c.args.toList.map ρ
   match c.callee with
   | .builtin b=>builtinA P b c.argTypes.toList args h
   | .value f=>callA P C (ρ f) args h
   | .invoke _ _=>none
 |_=>none
abbrev aO:=List Vl
def ev (e:aO):Operand->Vl
 | .tmp t=>e.getD t undef
 | .const v=>v
 | .global g=>ptr g 0
 | .func f => .func (.func f) #[] #[]
def putD (e:aO) (d:Option Tmp) (v:Vl):aO:=
 match d with
 |some t=>e.set t v
 |none=>e
def iW (ops:Array Oper) (e:aO) (j:Nat):Option Bool:=
 match ((ops[j]?).bind (·.dst)).bind (e[·]?) with
 |some (.bool b)=>some b
 |_=>none
def ki (ops:Array Oper) (o:Oper) (e:aO):Bool:=
 match o.guard with
 |none=>true
 |some (j,want)=>iW ops e j==some want
def stepA (P:Program) (C:ah) (ops:Array Oper) (o:Oper) (e:aO) (h:ae):Option (aO×ae):=
 if ki ops o e then
  match opA P C o (ev e) h with
  |some (v,h')=>some (putD e o.dst v,h')
  |none=>none
 else some (putD e o.dst undef,h)
def opsA (P:Program) (C:ah) (ops:Array Oper):List Oper->aO->ae->Option (aO×ae)
 | [],e,h=>some (e,h)
 |o::rest,e,h=>match stepA P C ops o e h with
  |some (e',h')=>opsA P C ops rest e' h'
  |none=>none
inductive Kd where
 |pure|read|alloc|eff
 deriving DecidableEq
def kindOf (P:Program) (o:Oper):Kd:=
 match o.op with
 | .move _ | .assign _ | .pick .. | .build .. | .nilCheck _ | .binOp .. | .unOp .. | .slice .. | .fieldAddr .. | .field .. | .indexAddr .. | .index .. | .extract .. | .makeFunc .. | .makeInterface .. | .typeAssert .. => .pure
 | .load .. => .read
 | .lookup .. | .entry _ => .read
 | .alloc _ | .box .. | .buildSlice .. | .makeSlice .. | .makeMap .. => .alloc
 | .convert _ d _=>match P.underlying d with
   |some (.int _) => .read
   |some .string => .read
   |_ => .eff
 | .call c=>match c.callee with
   | .builtin .len | .builtin .max | .builtin .min => .read
   |_ => .eff
 |_ => .eff
def yh (o:Oper):List Tmp:=o.op.operands.toList.filterMap fun | .tmp t=>some t|_=>none
def guardTmp (ops:Array Oper) (o:Oper):List Tmp:=
 match o.guard with
 |some (j,_)=>((ops[j]?).bind (·.dst)).toList
 |none => []
def jC (ops:Array Oper) (o:Oper):List Tmp:=o.dst.toList++yh o++guardTmp ops o
def iy (ops:Array Oper):Array Nat:=Region.before ops
def fN (m:Array Nat) (i j:Nat):Bool:=(m.getD i 0).testBit j
def lateGo (P:Program) (m:Array Nat):List (Nat×Oper)->List (Nat×Oper)->List (Nat×Oper)
 | [],pend=>pend
 |x::rest,pend=>
  if kindOf P x.2 = .alloc then lateGo P m rest (pend ++ [x])
  else pend.filter (fun a=>fN m x.1 a.1)++x::lateGo P m rest (pend.filter fun a => !fN m x.1 a.1)
def late0 (P:Program) (ops:Array Oper):List (Nat×Oper):=lateGo P (iy ops) (ops.toList.zipIdx.map fun x=>(x.2,x.1)) []
def early (P:Program) (ops:Array Oper) (m:Array Nat) (x:Nat×Oper):Bool:=
 (kindOf P x.2 == .pure||kindOf P x.2 == .read)&&ops.toList.zipIdx.all fun y => !(fN m x.1 y.2)||kindOf P y.1 == .pure||kindOf P y.1 == .read
def late1 (P:Program) (ops:Array Oper):List (Nat×Oper):=
 let l:=ops.toList.zipIdx.map fun x=>(x.2,x.1)
 l.filter (early P ops (iy ops))++lateGo P (iy ops) (l.filter fun x => !early P ops (iy ops) x) []
def oN (P:Program) (ops:Array Oper) (x y:Nat×Oper):Bool:=
 (match y.2.dst with|some t=>(jC ops x.2).contains t|none=>false) ||
 (match x.2.dst with|some t=>(jC ops y.2).contains t|none=>false) ||
 (kindOf P x.2 == .eff&&kindOf P y.2 == .eff) ||
 (kindOf P x.2 == .alloc&&kindOf P y.2 == .eff)
def clashS (P:Program) (ops:Array Oper) (x y:Nat×Oper):Bool:=oN P ops x y||(kindOf P x.2 == .alloc&&kindOf P y.2 == .read)
def tU (r:(Nat×Oper)->(Nat×Oper)->Bool):List (Nat×Oper)->Bool
 | []=>true
 |x::rest=>rest.all (r x)&&tU r rest
def r7 (P:Program) (ops:Array Oper) (l:List (Nat×Oper)):Bool:=
 let m:=iy ops
 l.length==ops.size &&
 l.all (fun x=>(ops[x.1]?).isSome&&(match x.2.guard with|some (j,_)=>fN m x.1 j|none=>true)) &&
 (ops.toList.zipIdx.all fun x=>x.1.after.all fun e => !Region.binds .any e||e.on<x.2) &&
 tU (fun x y=>x.1 != y.1 && !fN m x.1 y.1&&(fN m y.1 x.1 || !oN P ops x y)) l
def statS (P:Program) (ops:Array Oper) (l:List (Nat×Oper)):Bool:=
 let m:=iy ops
 l.length==ops.size &&
 l.all (fun x=>(ops[x.1]?).isSome&&(match x.2.guard with|some (j,_)=>fN m x.1 j|none=>true)) &&
 (ops.toList.zipIdx.all fun x=>x.1.after.all fun e => !Region.binds .any e||e.on<x.2) &&
 tU (fun x y=>x.1 != y.1 && !fN m x.1 y.1&&(fN m y.1 x.1 || !clashS P ops x y)) l
def late (P:Program) (ops:Array Oper):List (Nat×Oper):=
 match statS P ops (late0 P ops) with
 |true=>late0 P ops
 |false=>late1 P ops
structure Ce where
 e:aO
 h:ae
 v:Vl
 sX:Bool
def traceA (P:Program) (C:ah) (ops:Array Oper):List (Nat×Oper)->aO->ae->Option (List Ce×aO×ae)
 | [],e,h=>some ([],e,h)
 | (_,o)::rest,e,h=>
   if ki ops o e then
    match opA P C o (ev e) h with
    |some (v,h')=>match traceA P C ops rest (putD e o.dst v) h' with
     |some (l,r)=>some (⟨e,h,v,true⟩::l,r)
     |none=>none
    |none=>none
   else
    match traceA P C ops rest (putD e o.dst undef) h with
    |some (l,r)=>some (⟨e,h,undef,false⟩::l,r)
    |none=>none
mutual
def veq:Vl->Vl->Bool
 | .bool a,.bool b=>a==b
 | .int k a,.int j b=>k==j&&a==b
 | .string a,.string b=>a.data==b.data
 | .pointer a,.pointer b=>a==b
 | .slice a l c,.slice b m d=>a==b&&l==m&&c==d
 | .map a,.map b=>a==b
 | .chan a,.chan b=>a==b
 | .nilFunc,.nilFunc=>true
 | .nilIface,.nilIface=>true
 | .float k a,.float j b=>k==j&&a==b
 | .complex k a b,.complex j c d=>k==j&&a==c&&b==d
 | .agg ⟨a⟩,.agg ⟨b⟩=>veqL a b
 | .tuple ⟨a⟩,.tuple ⟨b⟩=>veqL a b
 | .func f ⟨a⟩ ⟨b⟩,.func g ⟨c⟩ ⟨d⟩=>f==g&&veqL a c&&veqL b d
 | .iface t a,.iface u b=>t==u&&veq a b
 |_,_=>false
def veqL:List Vl->List Vl->Bool
 | [],[]=>true
 |a::x,b::y=>veq a b&&veqL x y
 |_,_=>false
end
def same (r:aY) (v:Vl):Bool:=
 match r with
 |some (x,_)=>veq x v
 |none=>false
def ae.pad:Nat->ae->ae
 | 0,h=>h
 |c+1,h=>((ae.pad c h).alloc []).kill (ae.pad c h).next
def ae.plus (sX:Bool) (h a b:ae):ae:=
 if sX then match b.getB a.next with
  |some k=>(ae.pad (a.next-h.next) h).ba k
  |none=>h
 else h
def madeIn (P:Program) (l:List (Nat×Oper)) (x:Nat×Nat):List Nat:=
 if x.2<x.1 then (List.range x.1).filter fun r=>decide (x.2<=r)&&match l[r]?,l[x.1]? with
  |some y,some z=>kindOf P y.2 == .alloc&&(match y.2.dst with|some t=>(yh z.2).contains t|none=>false)
  |_,_=>false
 else []
def td (rs:List Bool) (hs:List ae) (h:ae) (r:Nat):ae:=
 match rs[r]?,hs[r]?,hs[r+1]? with
 |some q,some a,some b=>ae.plus q h a b
 |_,_,_=>h
def qc (rs:List Bool) (hs:List ae) (mk:List Nat) (i:Nat):Option ae:=(hs[i]?).map fun h=>mk.foldl (td rs hs) h
def hard (P:Program) (y:Oper) (q p:Nat):Bool:=kindOf P y == .eff||(kindOf P y == .alloc&&Nat.blt q p)
def dynOk (P:Program) (C:ah) (ops:Array Oper) (l:List (Nat×Oper)) (tr:List Ce) (hEnd:ae):Bool:=
 let m:=iy ops
 let hs:=tr.map (·.h) ++ [hEnd]
 let lt:=(l.zip tr).zipIdx
 lt.all fun x => !(kindOf P x.1.1.2 == .read&&x.1.2.sX) ||
   (l.zipIdx.filter fun y=>hard P y.1.2 y.2 x.2).all fun y=>fN m x.1.1.1 y.1.1||fN m y.1.1 x.1.1.1 ||
     match qc (tr.map (·.sX)) hs (madeIn P l (x.2,y.2)) (if y.2<x.2 then y.2 else y.2+1) with
     |some h=>same (opA P C x.1.1.2 (ev x.1.2.e) h) x.1.2.v
     |none=>false
def regionA (P:Program) (C:ah) (ops:Array Oper) (draw:Bool) (e:aO) (h:ae):Option (aO×ae):=
 if draw then
  if r7 P ops (late P ops) then
   match traceA P C ops (late P ops) e h with
   |some (tr,e',h')=>if dynOk P C ops (late P ops) tr h' then some (e',h') else none
   |none=>none
  else none
 else opsA P C ops ops.toList e h
def iter (step:aO->ae->Option (Ex×aO×ae)):Nat->aO->ae->Option (Ex×aO×ae)
 | 0,_,_=>none
 |n+1,e,h=>match step e h with
  |some (.normal,e',h')=>iter step n e' h'
  |r=>r
def az:Nat:=18446744073709551616
def hasBody (P:Program) (i:FuncId):Bool:=
 match P.funcs[i]? with
 | some fn => fn.body.isSome && !(fn.name == "runtime.NumGoroutine")
 |none=>false
def endLoopA (l:Nat) (e:aO) (h:ae):Option (Ex×aO×ae):=
 match h.getB l with
 |some (.obj (.loop st pend tmps params assign body))=>
  if st = .busy then none else some (pend.getD .normal,e,h.setO l (.loop .exhausted pend tmps params assign body))
 |_=>none
def codeA (P:Program) (C:ah):Code->aO->ae->Option (Ex×aO×ae)
 | .skip,e,h=>some (.normal,e,h)
 | .region _ ops draw,e,h=>match regionA P C ops draw e h with
   |some (e',h')=>some (.normal,e',h')
   |none=>none
 | .seq a b,e,h=>match codeA P C a e h with
   |some (.normal,e',h')=>codeA P C b e' h'
   |r=>r
 | .cond c a b,e,h=>match ev e c with
   | .bool true=>codeA P C a e h
   | .bool false=>codeA P C b e h
   |_=>none
 | .block id b,e,h=>match codeA P C b e h with
   |some (.exit i,e',h')=>some (if i=id then .normal else .exit i,e',h')
   |r=>r
 | .loop b,e,h=>iter (codeA P C b) az e h
 | .exit i,e,h=>some (.exit i,e,h)
 | .scope b,e,h=>codeA P C b e h
 | .label _,e,h=>some (.normal,e,h)
 | .ret,e,h=>some (.ret,e,h)
 | .rangeFunc g params assign body,e,h=>
   match ev e g with
   | .func (.func i) first captured=>
     if hasBody P i=true then
      match C i (first.toList ++ [.func (.yield h.next) #[] #[]]++captured.toList) (h.ba (.obj (.loop .ready none e params.toList assign body))) with
      |some (_,h2)=>endLoopA h.next e h2
      |none=>none
     else none
   |_=>none
 | .goto _,_,_=>none
 | .refuse _,_,_=>none
def dy (P:Program) (r:ResultVar) (e:aO) (h:ae):Option Vl:=
 match r with
 | .tmp t=>some (e.getD t undef)
 | .cell a t=>(ld P t (e.getD a undef) h).map (·.1)
def resultsA (P:Program) (rs:List ResultVar) (e:aO) (h:ae):aY:=
 match rs with
 | [r]=>(dy P r e h).map fun v=>(v,h)
 |rs=>(rs.mapM fun r=>dy P r e h).map fun vs=>(.tuple vs.toArray,h)
def bodyA (P:Program) (C:ah) (fn:Func) (args:List Vl) (h:ae):aY:=
 match fn.body with
 |none=>none
 |some c=>match codeA P C c (args++List.replicate (fn.ntmps-args.length) undef) h with
  |some (.normal,e,h')|some (.ret,e,h')=>resultsA P fn.results.toList e h'
  |_=>none
def yr (P:Program):Operand->Bool
 | .const v=>flat v
 | .global g=>g<P.globals.size
 |_=>true
def pX (P:Program) (o:Oper):Bool:=o.op.operands.toList.all (yr P)
def codeOk (P:Program):Code->Bool
 | .skip | .exit _ | .label _ | .ret=>true
 | .region _ ops _=>ops.toList.all (pX P)
 | .seq a b=>codeOk P a&&codeOk P b
 | .cond c a b=>yr P c&&codeOk P a&&codeOk P b
 | .block _ b | .loop b | .scope b=>codeOk P b
 | .rangeFunc g _ _ _=>yr P g
 | .goto _ | .refuse _=>false
def iq:aO->List (Tmp×Vl)->aO
 |e,[]=>e
 |e,(t,v)::l=>iq (e.set t v) l
def gX (l:Nat) (x:Ex) (h:ae):aY:=
 match h.getB l with
 |some (.obj (.loop _ _ tmps params assign body))=>
  some (.bool (x == .normal),h.setO l (.loop (if x = .normal then .ready else .done) (if x = .normal then none else some x) tmps params assign body))
 |_=>none
def roundA (P:Program) (C:ah) (l:Nat) (args:List Vl) (h:ae):aY:=
 match h.getB l with
 |some (.obj (.loop _ _ tmps params assign body))=>
  if args.length=params.length/\codeOk P assign=true/\codeOk P body=true then
   match codeA P C assign (iq tmps (params.zip args)) h with
   |some (.normal,e1,h1)=>match h1.getB l with
    |some (.obj (.loop .ready p1 t1 q1 a1 b1))=>
     match codeA P C body e1 (h1.setO l (.loop .busy p1 t1 q1 a1 b1)) with
     |some (x,_,h2)=>gX l x h2
     |none=>none
    |_=>none
   |_=>none
  else none
 |_=>none
end
def Tr.kP (n:Nat):Tr.nil.get n=none:=rfl
def Tr.pj (l:Tr) (v:Option BB) (r:Tr):(Tr.node l v r).get 0=v:=rfl
def Tr.ku (l:Tr) (v:Option BB) (r:Tr) {m:Nat} (h:m%2=0):(Tr.node l v r).get (m+1)=l.get (m/2):=by show Bool.rec (motive:=fun _=>Option BB) (l.get (m/2)) (r.get (m/2)) (Nat.beq (m%2) 1)=_;rw [h];rfl
def Tr.iV (l:Tr) (v:Option BB) (r:Tr) {m:Nat} (h:m%2=1):(Tr.node l v r).get (m+1)=r.get (m/2):=by show Bool.rec (motive:=fun _=>Option BB) (l.get (m/2)) (r.get (m/2)) (Nat.beq (m%2) 1)=_;rw [h];rfl
def Tr.Ac (f:Nat) (x:Option BB):Tr.nj (f+1) .nil 0 x = .node .nil x .nil:=rfl
def Tr.tD (f:Nat) (x:Option BB) {m:Nat} (h:m%2=0):Tr.nj (f+1) .nil (m+1) x = .node (Tr.nj f .nil (m/2) x) none .nil:=by show Bool.rec (motive:=fun _=>Tr) (.node (Tr.nj f .nil (m/2) x) none .nil) (.node .nil none (Tr.nj f .nil (m/2) x)) (Nat.beq (m%2) 1)=_;rw [h];rfl
def Tr.rL (f:Nat) (x:Option BB) {m:Nat} (h:m%2=1):Tr.nj (f+1) .nil (m+1) x = .node .nil none (Tr.nj f .nil (m/2) x):=by show Bool.rec (motive:=fun _=>Tr) (.node (Tr.nj f .nil (m/2) x) none .nil) (.node .nil none (Tr.nj f .nil (m/2) x)) (Nat.beq (m%2) 1)=_;rw [h];rfl
def Tr.setF_zero (f:Nat) (l:Tr) (v:Option BB) (r:Tr) (x:Option BB):Tr.nj (f+1) (.node l v r) 0 x = .node l x r:=rfl
def Tr.setF_odd (f:Nat) (l:Tr) (v:Option BB) (r:Tr) (x:Option BB) {m:Nat} (h:m%2=0):Tr.nj (f+1) (.node l v r) (m+1) x = .node (Tr.nj f l (m/2) x) v r:=by show Bool.rec (motive:=fun _=>Tr) (.node (Tr.nj f l (m/2) x) v r) (.node l v (Tr.nj f r (m/2) x)) (Nat.beq (m%2) 1)=_;rw [h];rfl
def Tr.Av (f:Nat) (l:Tr) (v:Option BB) (r:Tr) (x:Option BB) {m:Nat} (h:m%2=1):Tr.nj (f+1) (.node l v r) (m+1) x = .node l v (Tr.nj f r (m/2) x):=by show Bool.rec (motive:=fun _=>Tr) (.node (Tr.nj f l (m/2) x) v r) (.node l v (Tr.nj f r (m/2) x)) (Nat.beq (m%2) 1)=_;rw [h];rfl
def Tr.pR : ∀ (f:Nat) (t:Tr) (n:Nat) (x:Option BB) (m:Nat),n<f->(Tr.nj f t n x).get m=if m=n then x else t.get m
 | 0,_,_,_,_,h=>by omega
 |f+1,.nil,0,x,0,h=>rfl
 |f+1,.nil,0,x,m+1,h=>by
  rw [Tr.Ac,DL (by omega),Tr.kP];by_cases hm:m%2=0
  ·rw [Tr.ku _ _ _ hm,Tr.kP]
  ·rw [Tr.iV _ _ _ (by omega),Tr.kP]
 |f+1,.nil,n+1,x,0,h=>by
  rw [DL (by omega),Tr.kP];by_cases hn:n%2=0
  ·rw [Tr.tD f x hn,Tr.pj]
  ·rw [Tr.rL f x (by omega),Tr.pj]
 |f+1,.nil,n+1,x,m+1,h=>by
  rw [Tr.kP];by_cases hn:n%2=0
  ·rw [Tr.tD f x hn];by_cases hm:m%2=0
   ·rw [Tr.ku _ _ _ hm,Tr.pR f .nil (n/2) x (m/2) (by omega),Tr.kP];by_cases e:m=n
    ·rw [DH (by omega),DH (by omega)]
    ·rw [DL (by omega),DL (by omega)]
   ·rw [Tr.iV _ _ _ (by omega),Tr.kP,DL (by omega)]
  ·rw [Tr.rL f x (by omega)];by_cases hm:m%2=0
   ·rw [Tr.ku _ _ _ hm,Tr.kP,DL (by omega)]
   ·rw [Tr.iV _ _ _ (by omega),Tr.pR f .nil (n/2) x (m/2) (by omega),Tr.kP];by_cases e:m=n
    ·rw [DH (by omega),DH (by omega)]
    ·rw [DL (by omega),DL (by omega)]
 |f+1,.node l v r,0,x,0,h=>rfl
 |f+1,.node l v r,0,x,m+1,h=>by
  rw [Tr.setF_zero,DL (by omega)];by_cases hm:m%2=0
  ·rw [Tr.ku _ _ _ hm,Tr.ku _ _ _ hm]
  ·rw [Tr.iV _ _ _ (by omega),Tr.iV _ _ _ (by omega)]
 |f+1,.node l v r,n+1,x,0,h=>by
  rw [DL (by omega),Tr.pj];by_cases hn:n%2=0
  ·rw [Tr.setF_odd f l v r x hn,Tr.pj]
  ·rw [Tr.Av f l v r x (by omega),Tr.pj]
 |f+1,.node l v r,n+1,x,m+1,h=>by
  by_cases hn:n%2=0
  ·rw [Tr.setF_odd f l v r x hn];by_cases hm:m%2=0
   ·rw [Tr.ku _ _ _ hm,Tr.ku _ _ _ hm,Tr.pR f l (n/2) x (m/2) (by omega)];by_cases e:m=n
    ·rw [DH (by omega),DH (by omega)]
    ·rw [DL (by omega),DL (by omega)]
   ·rw [Tr.iV _ _ _ (by omega),Tr.iV _ _ _ (by omega),DL (by omega)]
  ·rw [Tr.Av f l v r x (by omega)];by_cases hm:m%2=0
   ·rw [Tr.ku _ _ _ hm,Tr.ku _ _ _ hm,DL (by omega)]
   ·rw [Tr.iV _ _ _ (by omega),Tr.iV _ _ _ (by omega),Tr.pR f r (n/2) x (m/2) (by omega)];by_cases e:m=n
    ·rw [DH (by omega),DH (by omega)]
    ·rw [DL (by omega),DL (by omega)]
def Tr.oq (t:Tr) (n:Nat) (x:Option BB) (m:Nat):(t.set n x).get m=if m=n then x else t.get m:=
 Tr.pR _ _ _ _ _ (by omega)
section
variable (h:ae)
@[simp] theorem ae.next_put (b : Nat) (x : Option BB) : (h.put b x).next = h.next := rfl
@[simp] theorem ae.next_set (b : Nat) (x : eh) : (h.set b x).next = h.next := rfl
@[simp] theorem ae.ri (b : Nat) : (h.kill b).next = h.next := rfl
@[simp] theorem ae.fY (x : BB) : (h.ba x).next = h.next + 1 := rfl
@[simp] theorem ae.uR (x : BB) : (h.ba x).n0 = h.n0 := rfl
@[simp] theorem ae.old_allocB (x : BB) : (h.ba x).old = h.old := rfl
@[simp] theorem ae.jB (x : eh) : (h.alloc x).next = h.next + 1 := rfl
@[simp] theorem ae.n0_put (b : Nat) (x : Option BB) : (h.put b x).n0 = h.n0 := rfl
@[simp] theorem ae.Dh (b : Nat) (x : eh) : (h.set b x).n0 = h.n0 := rfl
@[simp] theorem ae.n0_kill (b : Nat) : (h.kill b).n0 = h.n0 := rfl
@[simp] theorem ae.n0_alloc (x : eh) : (h.alloc x).n0 = h.n0 := rfl
@[simp] theorem ae.old_put (b : Nat) (x : Option BB) : (h.put b x).old = h.old := rfl
@[simp] theorem ae.old_set (b : Nat) (x : eh) : (h.set b x).old = h.old := rfl
@[simp] theorem ae.mW (b : Nat) (x : fF) : (h.setO b x).next = h.next := rfl
@[simp] theorem ae.BU (b : Nat) (x : fF) : (h.setO b x).n0 = h.n0 := rfl
@[simp] theorem ae.old_setO (b : Nat) (x : fF) : (h.setO b x).old = h.old := rfl
@[simp] theorem ae.old_kill (b : Nat) : (h.kill b).old = h.old := rfl
@[simp] theorem ae.old_alloc (x : eh) : (h.alloc x).old = h.old := rfl
def ae.n0_le_next:h.n0<=h.next:=HL _ _
def ae.bK (x:BB) (c:Nat):(h.ba x).getB c=if c=h.next then some x else h.getB c:=by
 simp only [ae.eZ];unfold ae.ba ae.next;dsimp only;by_cases h1:c<h.n0
 ·simp only [h1,DV];rw [DL (by omega)]
 ·rw [DL h1,DL h1];by_cases h2:c=h.n0+h.cnt
  ·subst h2;simp [Tr.oq]
  ·rw [DL h2];by_cases h3:c<h.n0+h.cnt
   ·rw [DH (by omega),DH h3,Tr.oq,DL (by omega)]
   ·rw [DL (by omega),DL h3]
def ae.dg (x:eh) (c:Nat):(h.alloc x).getB c=if c=h.next then some (.cells x) else h.getB c:=h.bK _ _
def ae.aZ (x:eh) (c:Nat):(h.alloc x).get c=if c=h.next then some x else h.get c:=by unfold ae.get;rw [h.dg];split<;>rfl
def ae.fc {b:Nat} (hb:h.n0<=b) (hn:b<h.next) (x:Option BB) (c:Nat):(h.put b x).getB c=if c=b then x else h.getB c:=by
 unfold ae.next at hn;simp only [ae.eZ];unfold ae.put;dsimp only;by_cases h1:c<h.n0
 ·rw [DH h1,DH h1,DL (by omega)]
 ·rw [DL h1,DL h1];by_cases h3:c<h.n0+h.cnt
  ·rw [DH h3,DH h3,Tr.oq];by_cases h2:c=b
   ·subst h2;simp
   ·rw [DL h2,DL (by omega)]
  ·rw [DL h3,DL h3,DL (by omega)]
def ae.CI {b:Nat} (hb:h.n0<=b) (hn:b<h.next) (x:Option BB) (c:Nat):(h.put b x).get c=if c=b then x.bind BB.blk else h.get c:=by unfold ae.get;rw [h.fc hb hn];split<;>rfl
def ae.lt_of_getB {b:Nat} {k:BB} (hg:h.getB b=some k):b<h.next:=by
 rw [ae.eZ] at hg;unfold ae.next;split at hg
 ·omega
 ·split at hg
  ·omega
  ·cases hg
def ae.aJ {b:Nat} {k:eh} (hg:h.get b=some k):h.getB b=some (.cells k):=by
 unfold ae.get at hg;cases hb:h.getB b with
 |none=>rw [hb] at hg;cases hg
 |some x=>
  rw [hb] at hg;cases x with
  |cells k'=>cases hg;rfl
  |obj o=>cases hg
def ae.get_of_getB {b:Nat} {k:eh} (hg:h.getB b=some (.cells k)):h.get b=some k:=by unfold ae.get;rw [hg];rfl
def ae.aL {b:Nat} {k:eh} (hg:h.get b=some k):b<h.next:=h.lt_of_getB (h.aJ hg)
end
def ae.bO {h:ae} {b:Nat} {k:eh} (hb:h.n0<=b) (hg:h.get b=some k) (x:eh):(h.set b x).get b=some x:=by unfold ae.set;rw [h.CI hb (h.aL hg),DH rfl];rfl
def ae.mH {h:ae} {b c:Nat} (hb:h.n0<=b) (hn:b<h.next) (x:eh) (hc:c≠b):(h.set b x).get c=h.get c:=by unfold ae.set;rw [h.CI hb hn];simp [hc]
def ae.jK {h:ae} {b:Nat} {k:eh} (hb:h.n0<=b) (hg:h.get b=some k) (x:eh):(h.set b x).getB b=some (.cells x):=by unfold ae.set;rw [h.fc hb (h.aL hg),DH rfl]
def ae.cj {h:ae} {b c:Nat} (hb:h.n0<=b) (hn:b<h.next) (x:eh) (hc:c≠b):(h.set b x).getB c=h.getB c:=by unfold ae.set;rw [h.fc hb hn,DL hc]
def ae.fh {h:ae} {b:Nat} {k:BB} (hb:h.n0<=b) (hg:h.getB b=some k) (x:fF):(h.setO b x).getB b=some (.obj x):=by unfold ae.setO;rw [h.fc hb (h.lt_of_getB hg),DH rfl]
def ae.fK {h:ae} {b c:Nat} (hb:h.n0<=b) (hn:b<h.next) (x:fF) (hc:c≠b):(h.setO b x).getB c=h.getB c:=by unfold ae.setO;rw [h.fc hb hn,DL hc]
def ae.bS {h:ae} {b:Nat} {o:fF} (hg:h.getB b=some (.obj o)):h.n0<=b:=by
 rw [ae.eZ] at hg;split at hg
 ·simp only [DJ] at hg;obtain ⟨_,_,h2⟩:=hg;cases h2
 ·omega
def ae.rX {h:ae} {b:Nat} {o:fF} (hg:h.getB b=some (.obj o)):h.get b=none:=by unfold ae.get;rw [hg];rfl
def ae.get_setO {h:ae} {b:Nat} {o:fF} (hg:h.getB b=some (.obj o)) (x:fF) (c:Nat):(h.setO b x).get c=h.get c:=by
 by_cases e:c=b
 ·subst e;rw [ae.rX (h.fh (h.bS hg) hg x),h.rX hg]
 ·unfold ae.get;rw [h.fK (h.bS hg) (h.lt_of_getB hg) x e]
def ae.uS {h:ae} {b:Nat} {k:BB} (hg:h.getB b=some k) (x:BB):(h.ba x).getB b=some k:=by rw [h.bK,DL (by have:=h.lt_of_getB hg;omega)];exact hg
def ae.iU {h:ae} {b:Nat} {k:eh} (hg:h.get b=some k) (x:eh):(h.alloc x).get b=some k:=by rw [h.aZ,DL (by have:=h.aL hg;omega)];exact hg
structure Loc where
 blk:Nat
 off:Nat
 ext:Nat
 len:Nat
abbrev Mu:=Nat->Option Loc
def FRel (μ:Mu):Fn->Fn->Prop
 | .yield l,g => ∃ L,μ l=some L/\g = .yield L.blk
 |f,g=>g=f
def FRel.mono {μ μ':Mu} {f g:Fn} (h:FRel μ f g) (hm : ∀ b L,μ b=some L->μ' b=some L):FRel μ' f g:=by
 cases f with
 |yield l=>obtain ⟨L,h1,h2⟩:=h;exact ⟨L,hm _ _ h1,h2⟩
 |_=>exact h
def FRel.func {μ:Mu} {i:FuncId}:FRel μ (.func i) (.func i):=rfl
inductive aF (μ:Mu):Vl->Vl->Prop
 |flat {v:Vl} (h:flat v=true):aF μ v v
 |ptr {b off:Nat} {L:Loc} (h:μ b=some L):aF μ (.pointer (some ⟨b,off,none⟩)) (.pointer (some ⟨L.blk,L.off+off,none⟩))
 |slice {b off len cap:Nat} {L:Loc} (h:μ b=some L):aF μ (.slice (some ⟨b,off,none⟩) len cap) (.slice (some ⟨L.blk,L.off+off,none⟩) len cap)
 |pU {b off len cap cap' s:Nat} {L:Loc} (h:μ b=some L) (hl:len<=cap) (hc:cap<=cap') (hm:cap'<=maxLen) (h1:off+cap*s=L.len)
   (h2:L.off+off+cap'*s<=L.ext):aF μ (.slice (some ⟨b,off,some s⟩) len cap) (.slice (some ⟨L.blk,L.off+off,none⟩) len cap')
 |jQ {b off s O:Nat} {L:Loc} (h:μ b=some L):aF μ (.slice (some ⟨b,off,some s⟩) 0 0) (.slice (some ⟨L.blk,O,none⟩) 0 0)
 |map {b:Nat} {L:Loc} (h:μ b=some L):aF μ (.map (some b)) (.map (some L.blk))
 |zA {b off:Nat} {a:Addr}:aF μ (.slice (some ⟨b,off,some 0⟩) 0 0) (.slice (some a) 0 0)
 |agg {xs ys:Array Vl} (hs:xs.size=ys.size) (h : ∀ (i:Nat) (x y:Vl),xs[i]? = some x->ys[i]? = some y->aF μ x y):aF μ (.agg xs) (.agg ys)
 |tuple {xs ys:Array Vl} (hs:xs.size=ys.size) (h : ∀ (i:Nat) (x y:Vl),xs[i]? = some x->ys[i]? = some y->aF μ x y):aF μ (.tuple xs) (.tuple ys)
 |func {f g:Fn} {a b c d:Array Vl} (hf:FRel μ f g) (h1:a.size=b.size) (h2 : ∀ (i:Nat) (x y:Vl),a[i]? = some x->b[i]? = some y->aF μ x y)
   (h3:c.size=d.size) (h4 : ∀ (i:Nat) (x y:Vl),c[i]? = some x->d[i]? = some y->aF μ x y):aF μ (.func f a c) (.func g b d)
 |iface {t:TypeId} {x y:Vl} (h:aF μ x y):aF μ (.iface t x) (.iface t y)
def aF.undef (μ:Mu):aF μ undef undef := .tuple rfl (by intro i x y h;simp at h)
def aF.mono {μ μ':Mu} {v v':Vl} (h:aF μ v v') (hm : ∀ b L,μ b=some L->μ' b=some L):aF μ' v v':=by
 induction h with
 |flat h=>exact .flat h
 |ptr h=>exact .ptr (hm _ _ h)
 |slice h=>exact .slice (hm _ _ h)
 |pU h hl hc hx h1 h2=>exact .pU (hm _ _ h) hl hc hx h1 h2
 |jQ h=>exact .jQ (hm _ _ h)
 |map h=>exact .map (hm _ _ h)
 |zA=>exact .zA
 |agg hs _ ih=>exact .agg hs ih
 |tuple hs _ ih=>exact .tuple hs ih
 |func hf h1 _ h3 _ i1 i2=>exact .func (hf.mono hm) h1 i1 h3 i2
 |iface _ ih=>exact .iface ih
def aT (μ:Mu) (xs ys:List Vl):Prop:=xs.length=ys.length /\ ∀ (i:Nat) (x y:Vl),xs[i]? = some x->ys[i]? = some y->aF μ x y
def aT.mono {μ μ':Mu} {v v':List Vl} (h:aT μ v v') (hm : ∀ b L,μ b=some L->μ' b=some L):aT μ' v v':=
 ⟨h.1,fun i x y hx hy=>(h.2 i x y hx hy).mono hm⟩
def aT.nil (μ:Mu):aT μ [] []:=⟨rfl,by simp⟩
def aT.cons {μ:Mu} {x y:Vl} {xs ys:List Vl} (h:aF μ x y) (ht:aT μ xs ys):aT μ (x::xs) (y::ys):=by
 refine ⟨by simp [ht.1],fun i a b ha hb => ?_⟩;cases i with
 |zero=>simp at ha hb;subst ha hb;exact h
 |succ i=>simp at ha hb;exact ht.2 i a b ha hb
def aT.head {μ:Mu} {x y:Vl} {xs ys:List Vl} (h:aT μ (x::xs) (y::ys)):aF μ x y:=h.2 0 x y rfl rfl
def aT.tail {μ:Mu} {x y:Vl} {xs ys:List Vl} (h:aT μ (x::xs) (y::ys)):aT μ xs ys:=
 ⟨by have:=h.1;simpa using this,fun i a b ha hb=>h.2 (i+1) a b ha hb⟩
def aT.get {μ:Mu} {xs ys:List Vl} (h:aT μ xs ys) {i:Nat} {x:Vl} (hx:xs[i]? = some x) : ∃ y,ys[i]? = some y/\aF μ x y:=by
 have hi:i<ys.length:=by rw [<-h.1];exact (DZ.1 hx).1
 exact ⟨ys[i],DE hi,h.2 i x _ hx (DE hi)⟩
def aT.getD {μ:Mu} {xs ys:List Vl} (h:aT μ xs ys) (i:Nat):aF μ (xs.getD i Go.undef) (ys.getD i Go.undef):=by
 rw [DK,DK];cases hx:xs[i]? with
 |none=>
  have:ys[i]? = none:=by rw [ID] at hx |-;rw [<-h.1];exact hx
  rw [this];exact aF.undef μ
 |some x=>
  obtain ⟨y,hy,hv⟩:=h.get hx;rw [hy];exact hv
def aT.append {μ:Mu} {a b c d:List Vl} (h:aT μ a b) (k:aT μ c d):aT μ (a++c) (b++d):=by
 refine ⟨by simp [h.1,k.1],fun i x y hx hy => ?_⟩;by_cases hi:i<a.length
 ·rw [EI hi] at hx;rw [EI (h.1▸hi)] at hy;exact h.2 i x y hx hy
 ·rw [DX (by omega)] at hx;rw [DX (by rw [<-h.1];omega),<-h.1] at hy;exact k.2 _ x y hx hy
def aT.take {μ:Mu} {a b:List Vl} (h:aT μ a b) (n:Nat):aT μ (a.take n) (b.take n):=by
 refine ⟨by simp [h.1],fun i x y hx hy => ?_⟩;rw [E7] at hx hy;split at hx
 ·rename_i hi;rw [DH hi] at hy;exact h.2 i x y hx hy
 ·cases hx
def aT.drop {μ:Mu} {a b:List Vl} (h:aT μ a b) (n:Nat):aT μ (a.drop n) (b.drop n):=by refine ⟨by simp [h.1],fun i x y hx hy => ?_⟩;rw [EY] at hx hy;exact h.2 _ x y hx hy
def aT.splice {μ:Mu} {a b c d:List Vl} (h:aT μ a b) (k:aT μ c d) (off:Nat):aT μ (splice a off c) (splice b off d):=by unfold Abs.splice;rw [<-k.1];exact ((h.take off).append k).append (h.drop _)
def aT.set {μ:Mu} {a b:List Vl} (h:aT μ a b) (n:Nat) {x y:Vl} (hv:aF μ x y):aT μ (a.set n x) (b.set n y):=by
 refine ⟨by simp [h.1],fun i u v hu hv' => ?_⟩;rw [FU] at hu hv';by_cases e:n=i
 ·subst e;simp only [DV] at hu hv';split at hu
  ·rename_i hl;simp only [DA] at hu;rw [DH (h.1▸hl)] at hv';simp only [DA] at hv';subst hu hv';exact hv
  ·cases hu
 ·rw [DL e] at hu hv';exact h.2 i u v hu hv'
def aT.replicate (μ:Mu) (n:Nat) {x y:Vl} (hv:aF μ x y):aT μ (List.replicate n x) (List.replicate n y):=by
 refine ⟨by simp,fun i u v hu hv' => ?_⟩;simp only [HE] at hu hv';split at hu
 ·rename_i hi;rw [DH hi] at hv';simp at hu hv';subst hu hv';exact hv
 ·cases hu
def aT.gQ {μ:Mu} {l:List Vl} (h:bD l=true):aT μ l l:=by refine ⟨rfl,fun i x y hx hy => ?_⟩;rw [hx] at hy;cases hy;have:=D7 hx;exact .flat (DQ.1 h x this)
def aF.wP {μ:Mu} {xs:Array Vl} {v:Vl} (h:aF μ (.agg xs) v) : ∃ ys,v = .agg ys/\aT μ xs.toList ys.toList:=by
 cases h with
 |flat h=>simp [Abs.flat] at h
 |agg hs h=>exact ⟨_,rfl,by simpa using hs,fun i x y hx hy=>h i x y (by simpa using hx) (by simpa using hy)⟩
def aF.Bb {μ:Mu} {xs:Array Vl} {v:Vl} (h:aF μ (.tuple xs) v) : ∃ ys,v = .tuple ys/\aT μ xs.toList ys.toList:=by
 cases h with
 |flat h=>simp [Abs.flat] at h
 |tuple hs h=>exact ⟨_,rfl,by simpa using hs,fun i x y hx hy=>h i x y (by simpa using hx) (by simpa using hy)⟩
def aF.gD {μ:Mu} {xs ys:List Vl} (h:aT μ xs ys):aF μ (.agg xs.toArray) (.agg ys.toArray):=
 .agg (by simpa using h.1) (fun i x y hx hy=>h.2 i x y (by simpa using hx) (by simpa using hy))
def aF.cU {μ:Mu} {xs ys:List Vl} (h:aT μ xs ys):aF μ (.tuple xs.toArray) (.tuple ys.toArray):=
 .tuple (by simpa using h.1) (fun i x y hx hy=>h.2 i x y (by simpa using hx) (by simpa using hy))
def aF.bG {μ:Mu} {x v:Vl} (h:aF μ x v) (hf:Abs.flat x=true):v=x:=by
 cases h with
 |flat _=>rfl
 |func hg h1 _ h3 _=>
  rename_i f g a b c d _ _;cases f<;>simp [Abs.flat] at hf;cases hg;obtain ⟨ha,hc⟩:=hf;subst ha hc;have hb:b = #[]:=Array.eq_empty_of_size_eq_zero (by simpa using h1.symm);have hd:d = #[]:=Array.eq_empty_of_size_eq_zero (by simpa using h3.symm);rw [hb,hd]
 |_=>simp [Abs.flat] at hf
def aT.bG {μ:Mu} {xs ys:List Vl} (h:aT μ xs ys) (hf:bD xs=true):ys=xs:=by
 apply FC;intro i;cases hx:xs[i]? with
 |none=>rw [ID] at hx |-;rw [<-h.1];exact hx
 |some x=>
  obtain ⟨y,hy,hv⟩:=h.get hx;rw [hy,hv.bG (DQ.1 hf x (D7 hx))]
def aF.fu {μ:Mu} {x v:Vl} (h:aF μ x v) (hf:ground x=true):v=x:=by
 cases x with
 |agg cs=>
  obtain ⟨ys,rfl,hl⟩:=h.wP;have:=hl.bG (by simpa [ground] using hf);rw [Array.toList_inj] at this;rw [this]
 |_=>exact h.bG (by simpa [ground] using hf)
def aF.int {μ:Mu} {k:IntKind} {n:Int} {v:Vl} (h:aF μ (.int k n) v):v = .int k n:=h.bG rfl
def aF.bool {μ:Mu} {n:Bool} {v:Vl} (h:aF μ (.bool n) v):v = .bool n:=h.bG rfl
def aF.cells {μ:Mu} {x y:Vl} (h:aF μ x y):aT μ x.cells.toList y.cells.toList:=by
 cases h with
 |agg hs h=>exact ⟨by simpa [Value.cells] using hs,fun i a b ha hb=>h i a b (by simpa [Value.cells] using ha) (by simpa [Value.cells] using hb)⟩
 |flat h=>
  cases x<;>first|exact aT.cons (.flat h) (aT.nil μ)|(simp [Abs.flat] at h)
 |ptr h=>exact aT.cons (.ptr h) (aT.nil μ)
 |slice h=>exact aT.cons (.slice h) (aT.nil μ)
 |pU h a b c d e=>exact aT.cons (.pU h a b c d e) (aT.nil μ)
 |jQ h=>exact aT.cons (.jQ h) (aT.nil μ)
 |map h=>exact aT.cons (.map h) (aT.nil μ)
 |zA=>exact aT.cons .zA (aT.nil μ)
 |tuple a b=>exact aT.cons (.tuple a b) (aT.nil μ)
 |func f a b c d=>exact aT.cons (.func f a b c d) (aT.nil μ)
 |iface a=>exact aT.cons (.iface a) (aT.nil μ)
def aF.oneCell {μ:Mu} {x y:Vl} (h:aF μ x y):y.oneCell'=x.oneCell':=by cases h<;>simp [Value.oneCell']
def aT.aM {μ:Mu} {xs ys:List Vl} (h:aT μ xs ys) (ho:aM xs=true) : ∀ u∈ys,u.oneCell'=true:=by
 intro u hu;obtain ⟨i,hi⟩:=H7 hu;have hl:i<xs.length:=by rw [h.1];exact (DZ.1 hi).1
 have hx:xs[i]? = some xs[i]:=DE hl;have:=h.2 i _ _ hx hi;rw [this.oneCell];exact DQ.1 ho _ (GP hl)
def oD (μ:Mu) (xs ys:List Vl):Prop:=xs.length=ys.length /\ ∀ (i:Nat) (x y:Vl),xs[i]? = some x->ys[i]? = some y->bW x=false->aF μ x y
def aT.toC {μ:Mu} {a b:List Vl} (h:aT μ a b):oD μ a b:=⟨h.1,fun i x y hx hy _=>h.2 i x y hx hy⟩
def oD.mono {μ μ':Mu} {v v':List Vl} (h:oD μ v v') (hm : ∀ b L,μ b=some L->μ' b=some L):oD μ' v v':=
 ⟨h.1,fun i x y hx hy hh=>(h.2 i x y hx hy hh).mono hm⟩
def oD.get {μ:Mu} {xs ys:List Vl} (h:oD μ xs ys) {i:Nat} {x:Vl} (hx:xs[i]? = some x) (hh:bW x=false) : ∃ y,ys[i]? = some y/\aF μ x y:=by
 have hi:i<ys.length:=by rw [<-h.1];exact (DZ.1 hx).1
 exact ⟨ys[i],DE hi,h.2 i x _ hx (DE hi) hh⟩
def oD.take {μ:Mu} {a b:List Vl} (h:oD μ a b) (n:Nat):oD μ (a.take n) (b.take n):=by
 refine ⟨by simp [h.1],fun i x y hx hy => ?_⟩;rw [E7] at hx hy;split at hx
 ·rename_i hi;rw [DH hi] at hy;exact h.2 i x y hx hy
 ·cases hx
def oD.drop {μ:Mu} {a b:List Vl} (h:oD μ a b) (n:Nat):oD μ (a.drop n) (b.drop n):=by refine ⟨by simp [h.1],fun i x y hx hy => ?_⟩;rw [EY] at hx hy;exact h.2 _ x y hx hy
def oD.full {μ:Mu} {a b:List Vl} (h:oD μ a b) (hn:noHoles a=true):aT μ a b:=
 ⟨h.1,fun i x y hx hy=>h.2 i x y hx hy (by have:=DQ.1 hn x (D7 hx);simpa using this)⟩
def Holds (μ:Mu) (w:World) (n0:Nat) (b:Nat) (k:eh):Prop:=
 ∃ L arr T fr,μ b=some L/\L.len=k.length/\w.heap[L.blk]? = some (.cells arr T fr)/\arr.size=L.ext/\L.off+L.len<=L.ext /\
   (fr.1=fr.2\/arr.size<=fr.1)/\n0<=L.blk/\aT μ k ((arr.toList.drop L.off).take L.len)
def exCode:Ex->Code
 | .normal => .skip
 | .ret => .ret
 | .exit i => .exit i
def pC (μ:Mu):fF->Obj->Prop
 | .map es c,.map es' c'=>c=c'/\es.length=es'.size /\ ∀ (i:Nat) (x:Vl×Vl×Nat) (e:MapEntry),es[i]? = some x->es'[i]? = some e->aF μ x.1 e.key/\aF μ x.2.1 e.val/\x.2.2=e.born
 | .iter m since seen st,.mapIter m' since' seen' st'=>(match m,m' with|none,none=>True|some a,some B => ∃ L,μ a=some L/\L.blk=B|_,_=>False)/\since=since'/\seen=seen'.toList/\st=st'
 | .loop st pend tmps params assign body,.loop r=>r.state=st/\r.pending=pend.map exCode/\aT μ tmps r.tmps.toList/\r.params.toList=params/\r.assign=assign/\r.body=body
 |_,_=>False
def pC.mono {μ μ':Mu} {o:fF} {ob:Obj} (h:pC μ o ob) (hm : ∀ b L,μ b=some L->μ' b=some L):pC μ' o ob:=by
 cases o with
 |map es c=>
  cases ob with
  |map es' c'=>
   obtain ⟨h1,h2,h3⟩:=h;exact ⟨h1,h2,fun i x e hx he=>⟨(h3 i x e hx he).1.mono hm,(h3 i x e hx he).2.1.mono hm,(h3 i x e hx he).2.2⟩⟩
  |_=>exact h.elim
 |iter m since seen st=>
  cases ob with
  |mapIter m' since' seen' st'=>
   obtain ⟨h1,h2⟩:=h;refine ⟨?_,h2⟩;cases m with
   |none=>cases m' with
    |none=>trivial
    |some B=>exact h1
   |some a=>
    cases m' with
    |none=>exact h1
    |some B=>
     obtain ⟨L,h3,h4⟩:=h1;exact ⟨L,hm _ _ h3,h4⟩
  |_=>exact h.elim
 |loop st pend tmps params assign body=>
  cases ob with
  |loop r=>
   obtain ⟨h1,h2,h3,h4⟩:=h;exact ⟨h1,h2,h3.mono hm,h4⟩
  |_=>exact h.elim
def HoldsO (μ:Mu) (w:World) (n0:Nat) (b:Nat) (o:fF):Prop := ∃ L ob,μ b=some L/\w.heap[L.blk]? = some ob/\pC μ o ob/\n0<=L.blk/\L.off=0
structure cD (μ:Mu) (h:ae) (w:World):Prop where
 old : ∀ b cs,b<h.n0->h.old b=some cs -> ∃ L arr T fr,μ b=some L/\L.blk=b/\L.off=0/\w.heap[b]? = some (.cells arr T fr)/\oD μ cs (arr.toList.take cs.length)
 new : ∀ b k,h.n0<=b->h.get b=some k->Holds μ w h.n0 b k
 obj : ∀ b o,h.n0<=b->h.getB b=some (.obj o)->HoldsO μ w h.n0 b o
 inj : ∀ b b' k k' L L',h.n0<=b->h.n0<=b'->b≠b'->h.getB b=some k->h.getB b'=some k'->μ b=some L->μ b'=some L'->L.blk≠L'.blk
 size:h.n0<=w.heap.size
 low : ∀ b,b<h.n0 -> ∃ L,μ b=some L/\L.blk=b/\L.off=0
def Ci (μ:Mu) (h:ae) (B:Nat):Prop := ∃ b k L,h.n0<=b/\h.getB b=some k/\μ b=some L/\L.blk=B
structure ct (μ:Mu) (h:ae) (w:World) (μ':Mu) (h':ae) (w':World):Prop where
 ext : ∀ b,b<h.next\/h'.next<=b->μ' b=μ b
 n0:h'.n0=h.n0
 old:h'.old=h.old
 next:h.next<=h'.next
 os:w'.os=w.os
 tape:w'.tape=w.tape
 output:w'.output=w.output
 size:w.heap.size<=w'.heap.size
 same : ∀ B,B<w.heap.size -> ¬Ci μ h B->w'.heap[B]? = w.heap[B]?
 own : ∀ B,Ci μ' h' B->Ci μ h B\/w.heap.size<=B
 loops : ∀ (B:Nat) (r:Loop),w.heap[B]? = some (Obj.loop r) -> ∃ r',w'.heap[B]? = some (Obj.loop r')
 drawn:w.drawn<=w'.drawn
def fi (μ:Mu) (h h':ae):Prop := ∀ b,h.next<=b->b<h'.next->μ b=none
def ct.refl {μ:Mu} {h:ae} {w w':World} (ho:w'.os=w.os) (ht:w'.tape=w.tape) (hp:w'.output=w.output) (hh:w'.heap=w.heap) (hd:w.drawn<=w'.drawn:=by first|exact DG _|exact HH _):ct μ h w μ h w':=
 ⟨fun _ _=>rfl,rfl,rfl,DG _,ho,ht,hp,by rw [hh];exact DG _,fun B _ _=>by rw [hh],fun B hB => .inl hB,fun B r hB=>⟨r,by rw [hh];exact hB⟩,hd⟩
def ct.cq {μ:Mu} {h:ae} {w:World}:ct μ h w μ h w:=ct.refl rfl rfl rfl rfl
def ct.trans {μ μ' μ'':Mu} {h h' h'':ae} {w w' w'':World} (a:ct μ h w μ' h' w') (b:ct μ' h' w' μ'' h'' w''):ct μ h w μ'' h'' w'' where
 ext c hc:=by have h1:=a.next;have h2:=b.next;rw [b.ext c (by omega),a.ext c (by omega)]
 n0:=b.n0.trans a.n0
 old:=b.old.trans a.old
 next:=D9 a.next b.next
 os:=b.os.trans a.os
 tape:=b.tape.trans a.tape
 output:=b.output.trans a.output
 size:=D9 a.size b.size
 same B hB hO:=by rw [b.same B (EX hB a.size) (fun h1=>(a.own B h1).elim hO (fun h2=>by omega))];exact a.same B hB hO
 own B hB:=(b.own B hB).elim (fun h1=>a.own B h1) (fun h1 => .inr (D9 a.size h1))
 loops B r hB:=by obtain ⟨r1,h1⟩:=a.loops B r hB;exact b.loops B r1 h1
 drawn:=D9 a.drawn b.drawn
def ct.mono {μ μ':Mu} {h h':ae} {w w':World} (s:ct μ h w μ' h' w') (hf:fi μ h h') : ∀ b L,μ b=some L->μ' b=some L:=by
 intro b L hb;by_cases hl:b<h.next\/h'.next<=b
 ·rw [s.ext b hl];exact hb
 ·rw [hf b (by omega) (by omega)] at hb;cases hb
def fi.first {μ:Mu} {h h' h'':ae} (hf:fi μ h h'') (hn:h'.next<=h''.next):fi μ h h':=fun b h1 h2=>hf b h1 (EX h2 hn)
def fi.nO {μ μ':Mu} {h h' h'':ae} {w w':World} (hf:fi μ h h'') (s:ct μ h w μ' h' w'):fi μ' h' h'':=fun b h1 h2=>by rw [s.ext b (.inr h1)];exact hf b (D9 s.next h1) h2
def cD.read {μ:Mu} {h:ae} {w:World} (s:cD μ h w) {b:Nat} {k:eh} (hg:h.get b=some k) :
  ∃ L arr T fr,μ b=some L/\w.heap[L.blk]? = some (.cells arr T fr)/\oD μ k ((arr.toList.drop L.off).take k.length):=by
 by_cases hb:b<h.n0
 ·have hg':=hg;unfold ae.get at hg';simp only [ae.eZ] at hg';rw [DH hb] at hg';cases ho:h.old b with
  |none=>rw [ho] at hg';cases hg'
  |some cs=>
   rw [ho] at hg';have hg':some cs=some k:=hg';simp only [DA] at hg';subst hg';obtain ⟨L,arr,T,fr,h1,h2,h3,h4,h5⟩:=s.old b cs hb ho;exact ⟨L,arr,T,fr,h1,h2.symm▸h4,by rw [h3];exact h5⟩
 ·obtain ⟨L,arr,T,fr,h1,h2,h4,h5,h6,h7,h8,h9⟩:=s.new b k (by omega) hg;exact ⟨L,arr,T,fr,h1,h4,(h2▸h9:aT μ k _).toC⟩
def cD.place {μ:Mu} {h:ae} {w:World} (s:cD μ h w) {b:Nat} {k:BB} (hb:h.n0<=b) (hg:h.getB b=some k) : ∃ L ob,μ b=some L/\w.heap[L.blk]? = some ob/\h.n0<=L.blk:=by
 cases k with
 |cells k=>
  obtain ⟨L,arr,T,fr,h1,_,h4,_,_,_,h8,_⟩:=s.new b k hb (h.get_of_getB hg);exact ⟨L,_,h1,h4,h8⟩
 |obj o=>
  obtain ⟨L,ob,h1,h2,_,h4,_⟩:=s.obj b o hb hg;exact ⟨L,ob,h1,h2,h4⟩
def cell_at {w:World} {B:Nat} {arr:Array Vl} {T:TypeId} {fr:Nat×Nat} (hg:w.heap[B]? = some (.cells arr T fr)) (j:Nat):w.cell? ⟨B,j,none⟩=arr[j]? :=
 cell_of_row w B j arr T fr hg
def cD.loadCells {μ:Mu} {h:ae} {w:World} (s:cD μ h w) {b off n:Nat} {k:eh} (hg:h.get b=some k) (hn:off+n<=k.length) (hnh:noHoles ((k.drop off).take n)=true) (P:Program) :
  ∃ L cs,μ b=some L/\aT μ ((k.drop off).take n) cs /\ ∀ w',w'.heap=w.heap->(Go.loadCells ⟨L.blk,L.off+off,none⟩ n).run P w' = .ok cs.toArray w':=by
 obtain ⟨L,arr,T,fr,h1,h2,h3⟩:=s.read hg;refine ⟨L,(arr.toList.drop (L.off+off)).take n,h1,?_,?_⟩
 ·have:=(h3.drop off).take n;rw [IA,GG,IB] at this;rw [show min n (k.length-off)=n from by omega] at this;exact this.full hnh
 ·intro w' hw';rw [<-hw'] at h2;have hl:((arr.toList.drop (L.off+off)).take n).length=n:=by have:=h3.1;simp only [E8,F9,Array.length_toList] at this |-;omega
  have:=run_loadCells_list (P:=P) w' ⟨L.blk,L.off+off,none⟩ ((arr.toList.drop (L.off+off)).take n) (fun j v hv=>by
   rw [Addr.add_lit,cell_at h2];rw [E7] at hv;split at hv
   ·rw [EY] at hv;simpa using hv
   ·cases hv)
  rw [hl] at this;exact this
def cD.cell {μ:Mu} {h:ae} {w:World} (s:cD μ h w) {b off:Nat} {k:eh} {c:Vl} (hg:h.get b=some k) (hc:k[off]? = some c) (hnh:bW c=false) :
  ∃ L c',μ b=some L/\w.cell? ⟨L.blk,L.off+off,none⟩=some c'/\aF μ c c':=by
 obtain ⟨L,arr,T,fr,h1,h2,h3⟩:=s.read hg;obtain ⟨c',hc',hv⟩:=h3.get hc hnh;refine ⟨L,c',h1,?_,hv⟩;rw [cell_at h2];rw [E7] at hc';split at hc'
 ·rw [EY] at hc';simpa using hc'
 ·cases hc'
def iI (P:Program) (g o:Nat) (t:TypeId) (fr:Nat×Nat) : ∀ (vs:List Vl) (i:Nat) (cur:Array Vl) (w:World),w.heap[g]? = some (.cells cur t fr)->(fr.1=fr.2\/cur.size<=fr.1) ->
  o+i+vs.length<=cur.size->(∀ v∈vs,v.oneCell'=true) ->
  (storeCells ⟨g,o,none⟩ vs i).run P w = .ok () (w.setRow g (splice cur.toList (o+i) vs).toArray)
 | [],i,cur,w,hg,_,_,_=>by simp only [storeCells,splice,GC,List.length_nil,Nat.add_zero,HN,Array.toArray_toList];rw [setRow_self w g cur t fr hg];rfl
 |v::rest,i,cur,w,hg,hfr,hl,h1=>by
  have hi:o+i<cur.size:=by simp at hl;omega
  have hcell:w.cell? ⟨g,o+i,none⟩=some cur[o+i]:=by simp [World.cell?,hg,hi]
  have hfro:w.frozen? ⟨g,o+i,none⟩=false:=by simp only [World.frozen?,hg];simp only [IN,HC];omega
  have hst:(store ((⟨g,o,none⟩:Addr).add i) v).run P w = .ok () (w.setRow g (cur.setIfInBounds (o+i) v)):=by rw [Addr.add_lit,run_store P w _ v _ (h1 v (by simp)),hcell];simp [hfro,setCell_eq_setRow w g (o+i) cur t fr v hg]
  have ih:=iI P g o t fr rest (i+1) (cur.setIfInBounds (o+i) v) (w.setRow g (cur.setIfInBounds (o+i) v)) (setRow_heap w g cur _ t _ hg) (by simpa using hfr) (by simp at hl |-;omega) (fun x hx=>h1 x (by simp [hx]));simp only [storeCells,Sem.run_bind,hst,Result.andThen_ok,ih,setRow_setRow]
  congr 3
  have e:=list_seg_step cur.toList (o+i) v rest (by simp at hl |-;omega);simpa [splice,H6,F0] using e
def mF {l xs:List Vl} {off:Nat} (h:off+xs.length<=l.length):(splice l off xs).length=l.length:=by simp only [splice,DO,E8,F9];omega
def splice_seg {l xs:List Vl} {o off n:Nat} (h:off+xs.length<=n) (hl:o+n<=l.length) :
  ((splice l (o+off) xs).drop o).take n=splice ((l.drop o).take n) off xs:=by
 unfold splice;have e1:(l.take (o+off)).drop o=(l.drop o).take off:=by rw [IA];congr 1;omega
 have e2:List.drop o (l.take (o+off)++xs++l.drop (o+off+xs.length))=(l.drop o).take off++xs++l.drop (o+off+xs.length):=by rw [DY,HA (by simp;omega),e1,DY]
 rw [e2,IB,show min off n=off from by omega];have e3:((l.drop o).take off++xs).length=off+xs.length:=by simp;omega
 rw [List.take_append,D3 (by omega),e3]
 congr 1
 rw [IA,GG,show o+(off+xs.length)=o+off+xs.length from by omega]
def cD.storeCells {μ:Mu} {h:ae} {w:World} (s:cD μ h w) {b off:Nat} {k:eh} {xs ys:List Vl} (hb:h.n0<=b) (hg:h.get b=some k) (hn:off+xs.length<=k.length)
  (hx:aT μ xs ys) (ho:aM xs=true) (P:Program) :
  ∃ L w',μ b=some L/\(Go.storeCells ⟨L.blk,L.off+off,none⟩ ys).run P w = .ok () w'/\cD μ (h.set b (splice k off xs)) w'/\ct μ h w μ (h.set b (splice k off xs)) w':=by
 obtain ⟨L,arr,T,fr,h1,h2,h4,h5,h6,h7,h8,h9⟩:=s.new b k hb hg;have hlt:=h.aL hg;have hys:ys.length=xs.length:=hx.1.symm;refine ⟨L,w.setRow L.blk (splice arr.toList (L.off+off) ys).toArray,h1,?_,?_,?_⟩
 ·have:=iI P L.blk (L.off+off) T fr ys 0 arr w h4 h7 (by rw [hys];omega) (hx.aM ho);simpa using this
 ·have hB:(w.setRow L.blk (splice arr.toList (L.off+off) ys).toArray).heap[L.blk]? = some (.cells (splice arr.toList (L.off+off) ys).toArray T fr):=setRow_heap w L.blk arr _ T fr h4;have hsz:((splice arr.toList (L.off+off) ys).toArray).size=arr.size:=by have hal:arr.toList.length=arr.size:=Array.length_toList;rw [FR,mF (by omega),hal]
  constructor
  ·intro c cs hc hcs;obtain ⟨L',arr',T',fr',g1,g2,g3,g4,g5⟩:=s.old c cs (by simpa using hc) hcs;refine ⟨L',arr',T',fr',g1,g2,g3,?_,g5⟩;rw [setRow_other _ _ _ _ (by simp at hc;omega)];exact g4
  ·intro c kc hc hgc;simp only [ae.Dh] at hc |-;by_cases e:c=b
   ·subst e;rw [ae.bO hb hg] at hgc;cases hgc;refine ⟨L,_,T,fr,h1,?_,hB,hsz.trans h5,h6,?_,h8,?_⟩
    ·rw [mF hn];exact h2
    ·rcases h7 with h7|h7
     ·exact .inl h7
     ·exact .inr (hsz▸h7)
    ·rw [splice_seg (by omega) (by have hal:arr.toList.length=arr.size:=Array.length_toList;omega)];exact h9.splice hx off
   ·rw [ae.mH hb hlt _ e] at hgc;obtain ⟨L',arr',T',fr',g1,g2,g4,g5⟩:=s.new c kc hc hgc;refine ⟨L',arr',T',fr',g1,g2,?_,g5⟩;rw [setRow_other _ _ _ _ (s.inj c b _ _ L' L hc hb e (h.aJ hgc) (h.aJ hg) g1 h1)];exact g4
  ·intro c o hc hgc;simp only [ae.Dh] at hc |-;by_cases e:c=b
   ·subst e;rw [ae.jK hb hg] at hgc;cases hgc
   ·rw [ae.cj hb hlt _ e] at hgc;obtain ⟨L',ob,g1,g2,g3,g4⟩:=s.obj c o hc hgc;exact ⟨L',ob,g1,by rw [setRow_other _ _ _ _ (s.inj c b _ _ L' L hc hb e hgc (h.aJ hg) g1 h1)];exact g2,g3,g4⟩
  ·intro c c' kc kc' Lc Lc' hc hc' hne hgc hgc' hm hm';simp only [ae.Dh] at hc hc';have fix : ∀ d kd,(h.set b (splice k off xs)).getB d=some kd -> ∃ kd',h.getB d=some kd':=by
    intro d kd hd;by_cases e:d=b
    ·subst e;exact ⟨_,h.aJ hg⟩
    ·rw [ae.cj hb hlt _ e] at hd;exact ⟨kd,hd⟩
   obtain ⟨k1,g1⟩:=fix c kc hgc;obtain ⟨k2,g2⟩:=fix c' kc' hgc';exact s.inj c c' k1 k2 Lc Lc' hc hc' hne g1 g2 hm hm'
  ·simpa [World.setRow] using s.size
  ·exact s.low
 ·refine ⟨fun _ _=>rfl,rfl,rfl,DG _,rfl,rfl,rfl,by simp [World.setRow],?_,?_,fun B r hB=>⟨r,by rw [setRow_other _ _ _ _ (by rintro rfl;rw [h4] at hB;cases hB)];exact hB⟩,DG _⟩
  ·intro B hB hO;exact setRow_other _ _ _ _ (fun e=>hO ⟨b,_,L,hb,h.aJ hg,h1,e.symm⟩)
  ·rintro B ⟨c,kc,Lc,hc,hgc,hm,rfl⟩;refine .inl ?_;simp only [ae.Dh] at hc;by_cases e:c=b
   ·subst e;exact ⟨c,_,Lc,hc,h.aJ hg,hm,rfl⟩
   ·rw [ae.cj hb hlt _ e] at hgc;exact ⟨c,kc,Lc,hc,hgc,hm,rfl⟩
def Mu.put (μ:Mu) (b:Nat) (L:Loc):Mu:=fun c=>if c=b then some L else μ c
def Mu.cI (μ:Mu) (b:Nat) (L:Loc):μ.put b L b=some L:=by simp [Mu.put]
def Mu.cW (μ:Mu) {b c:Nat} (L:Loc) (h:c≠b):μ.put b L c=μ c:=by simp [Mu.put,h]
def Mu.np {μ:Mu} {b:Nat} {L:Loc} (h:μ b=none) : ∀ c M,μ c=some M->μ.put b L c=some M:=by intro c M hc;rw [Mu.cW _ _ (by rintro rfl;rw [h] at hc;cases hc)];exact hc
def cD.alloc {μ:Mu} {h:ae} {w:World} (s:cD μ h w) {k:eh} (hf:fi μ h (h.alloc k)) {arr:Array Vl} {T:TypeId} {fr:Nat×Nat} (hfr:fr.1=fr.2\/arr.size<=fr.1)
  (hl:k.length<=arr.size) (hx:aT μ k (arr.toList.take k.length)) {w1:World} (ho:w1.os=w.os) (ht:w1.tape=w.tape) (hp:w1.output=w.output)
  (hw:w1.heap=w.heap.push (.cells arr T fr)) (hdr:w.drawn<=w1.drawn:=by first|exact DG _|exact HH _) :
  cD (μ.put h.next ⟨w.heap.size,0,arr.size,k.length⟩) (h.alloc k) w1/\ct μ h w (μ.put h.next ⟨w.heap.size,0,arr.size,k.length⟩) (h.alloc k) w1:=by
 have hnone:μ h.next=none:=hf _ (DG _) (by simp);have hm:=Mu.np (L:=⟨w.heap.size,0,arr.size,k.length⟩) hnone;have hold : ∀ B,B<w.heap.size->w1.heap[B]? = w.heap[B]? := fun B hB=>by rw [hw,IH,DL (by omega)]
 have hnew:w1.heap[w.heap.size]? = some (.cells arr T fr):=by rw [hw];simp
 have blt : ∀ (B:Nat) (o:Obj),w.heap[B]? = some o->B<w.heap.size:=fun B o hB=>(DT.1 hB).1;have hn0:=h.n0_le_next;refine ⟨⟨?_,?_,?_,?_,?_,fun b hb=>by obtain ⟨L,h1,h2⟩:=s.low b hb;exact ⟨L,hm _ _ h1,h2⟩⟩,⟨?_,rfl,rfl,by simp,ho,ht,hp,by rw [hw];simp,fun B hB _=>hold B hB,?_,fun B r hB=>⟨r,by rw [hold _ (blt _ _ hB)];exact hB⟩,hdr⟩⟩
 ·intro b cs hb hcs;obtain ⟨L,a,T',f',g1,g2,g3,g4,g5⟩:=s.old b cs hb hcs;exact ⟨L,a,T',f',hm _ _ g1,g2,g3,by rw [hold _ (blt _ _ g4)];exact g4,g5.mono hm⟩
 ·intro b kb hb hg;rw [h.aZ] at hg;by_cases e:b=h.next
  ·subst e;rw [DH rfl] at hg;cases hg;refine ⟨_,arr,T,fr,Mu.cI _ _ _,rfl,hnew,rfl,by simpa using hl,hfr,by simpa using s.size,?_⟩;simpa using hx.mono hm
  ·rw [DL e] at hg;obtain ⟨L,a,T',f',g1,g2,g4,g5,g6,g7,g8,g9⟩:=s.new b kb hb hg;exact ⟨L,a,T',f',hm _ _ g1,g2,by rw [hold _ (blt _ _ g4)];exact g4,g5,g6,g7,g8,g9.mono hm⟩
 ·intro b o hb hg;rw [h.dg] at hg;by_cases e:b=h.next
  ·rw [DH e] at hg;cases hg
  ·rw [DL e] at hg;obtain ⟨L,ob,g1,g2,g3,g4⟩:=s.obj b o hb hg;exact ⟨L,ob,hm _ _ g1,by rw [hold _ (blt _ _ g2)];exact g2,g3.mono hm,g4⟩
 ·intro b b' kb kb' L L' hb hb' hne hg hg' h1 h2;rw [h.dg] at hg hg';by_cases e:b=h.next
  ·subst e;rw [Mu.cI] at h1;cases h1;rw [DL (Ne.symm hne)] at hg';rw [Mu.cW _ _ (Ne.symm hne)] at h2;obtain ⟨L2,ob,g1,g4,_⟩:=s.place hb' hg';rw [g1] at h2;cases h2;have:=blt _ _ g4;simp only [ne_eq];omega
  ·rw [DL e] at hg;rw [Mu.cW _ _ e] at h1;by_cases e':b'=h.next
   ·subst e';rw [Mu.cI] at h2;cases h2;obtain ⟨L2,ob,g1,g4,_⟩:=s.place hb hg;rw [g1] at h1;cases h1;have:=blt _ _ g4;simp only [ne_eq];omega
   ·rw [DL e'] at hg';rw [Mu.cW _ _ e'] at h2;exact s.inj b b' kb kb' L L' hb hb' hne hg hg' h1 h2
 ·rw [hw];have:=s.size;simp;omega
 ·intro b hb;rw [Mu.cW _ _ (by simp at hb;omega)]
 ·rintro B ⟨b,kb,L,hb,hg,h1,rfl⟩;rw [h.dg] at hg;by_cases e:b=h.next
  ·subst e;rw [Mu.cI] at h1;cases h1;exact .inr (DG _)
  ·rw [DL e] at hg;rw [Mu.cW _ _ e] at h1;exact .inl ⟨b,kb,L,hb,hg,h1,rfl⟩
def cD.world {μ:Mu} {h:ae} {w w':World} (s:cD μ h w) (hh:w'.heap=w.heap):cD μ h w':=
 ⟨fun b cs hb hc=>by rw [hh];exact s.old b cs hb hc,fun b k hb hg=>by unfold Holds;rw [hh];exact s.new b k hb hg,fun b o hb hg=>by unfold HoldsO;rw [hh];exact s.obj b o hb hg,s.inj,by rw [hh];exact s.size,s.low⟩
def cD.kill {μ:Mu} {h:ae} {w:World} (s:cD μ h w) {b:Nat} (hb:h.n0<=b) (hn:b<h.next):cD μ (h.kill b) w/\ct μ h w μ (h.kill b) w:=by
 have hgetB : ∀ c k,(h.kill b).getB c=some k->h.getB c=some k:=fun c k hc=>by
  unfold ae.kill at hc;rw [h.fc hb hn] at hc;split at hc
  ·cases hc
  ·exact hc
 have hget : ∀ c k,(h.kill b).get c=some k->h.get c=some k:=fun c k hc=>h.get_of_getB (hgetB c _ ((h.kill b).aJ hc));refine ⟨⟨s.old,fun c k hc hg=>s.new c k hc (hget _ _ hg),fun c o hc hg=>s.obj c o hc (hgetB _ _ hg),fun c c' k k' L L' h1 h2 h3 h4 h5=>s.inj c c' k k' L L' h1 h2 h3 (hgetB _ _ h4) (hgetB _ _ h5),s.size,s.low⟩,?_⟩;refine ⟨fun _ _=>rfl,rfl,rfl,DG _,rfl,rfl,rfl,DG _,fun _ _ _=>rfl,?_,fun B r hB=>⟨r,hB⟩,DG _⟩;rintro B ⟨c,k,L,h1,h2,h3,h4⟩;exact .inl ⟨c,k,L,h1,hgetB _ _ h2,h3,h4⟩
section types
variable {P:Program} {t:TypeId} (w:World)
def mG {n:Nat} (h:cQ P t=some n) : ∃ i,P.info? t=some i/\i.size=n:=by
 unfold cQ at h;cases hi:P.info? t with
 |none=>rw [hi] at h;cases h
 |some i=>rw [hi] at h;exact ⟨i,rfl,by simpa using h⟩
def ep {i:TypeInfo} (h:P.info? t=some i):(typeInfo t).run P w = .ok i w:=by simp [typeInfo,h]
def cS {n:Nat} (h:cQ P t=some n):(sizeOf t).run P w = .ok n w:=by obtain ⟨i,hi,rfl⟩:=mG h;simp [sizeOf,ep w hi]
def fP {z:Vl} (h:jr P t=some z):(zeroValue t).run P w = .ok z w:=by
 unfold jr at h;cases hi:P.info? t with
 |none=>rw [hi] at h;cases h
 |some i=>
  rw [hi] at h;simp only [Option.bind_some] at h;simp [zeroValue,ep w hi,h]
def nc {b:Bool} (h:sK P t=some b):(isAgg t).run P w = .ok b w:=by
 unfold sK at h;cases hu:P.underlying t with
 |none=>rw [hu] at h;cases h
 |some d=>
  rw [hu] at h;unfold isAgg;rw [Sem.run_bind,run_underlying hu];cases d<;>simp at h<;>subst h<;>rfl
end types
section ops
variable {P:Program} {μ:Mu} {h:ae} {w:World}
def jy {b off:Nat} {v:Vl} (hv:aF μ (.pointer (some ⟨b,off,none⟩)) v) : ∃ L,μ b=some L/\v = .pointer (some ⟨L.blk,L.off+off,none⟩):=by
 cases hv with
 |flat h=>simp [flat] at h
 |ptr h=>exact ⟨_,h,rfl⟩
def ld_sound {t:TypeId} {v v' r:Vl} {h':ae} (s:cD μ h w) (hv:aF μ v v') (e:ld P t v h=some (r,h')) :
  h'=h /\ ∃ r',(Instr.loadAt t v').run P w = .ok r' w/\aF μ r r':=by
 unfold ld at e;cases ha:sK P t with
 |none=>rw [ha] at e;cases e
 |some ag=>
  cases hs:cQ P t with
  |none=>rw [ha,hs] at e;cases ag<;>cases e
  |some n=>
   rw [ha,hs] at e;cases ag with
   |true=>
    simp only at e;unfold bQ at e;split at e
    ·rename_i b off;obtain ⟨L,hL,rfl⟩:=jy hv;split at e
     ·rename_i k hk;split at e
      ·rename_i hle;simp only [DA,DF] at e;obtain ⟨rfl,rfl⟩:=e;obtain ⟨L',cs,hL',hr,hrun⟩:=s.loadCells hk hle.1 hle.2 P;rw [hL] at hL';cases hL';refine ⟨rfl,.agg cs.toArray,?_,.gD hr⟩;simp [Instr.loadAt,Instr.sureAddr,loadVar,nc w ha,cS w hs,hrun w rfl]
      ·cases e
     ·cases e
    ·cases e
   |false=>
    simp only at e;unfold ld1 at e;split at e
    ·rename_i b off;obtain ⟨L,hL,rfl⟩:=jy hv;split at e
     ·rename_i k hk;split at e
      ·rename_i c hc;split at e
       ·rename_i hnh;simp only [DA,DF] at e;obtain ⟨rfl,rfl⟩:=e;obtain ⟨L',c',hL',hr,hv'⟩:=s.cell hk hc hnh;rw [hL] at hL';cases hL';refine ⟨rfl,c',?_,hv'⟩;simp [Instr.loadAt,Instr.sureAddr,loadVar,nc w ha,hr]
       ·cases e
      ·cases e
     ·cases e
    ·cases e
def hU {b off:Nat} {xs ys:List Vl} {h':ae} (s:cD μ h w) (hx:aT μ xs ys) (e:stL b off xs h=some h') :
  ∃ L w',μ b=some L/\(Go.storeCells ⟨L.blk,L.off+off,none⟩ ys).run P w = .ok () w'/\cD μ h' w'/\ct μ h w μ h' w':=by
 unfold stL at e;split at e
 ·rename_i k hk;split at e
  ·rename_i hc;simp only [DD,DR] at hc;simp only [DA] at e;subst e;exact s.storeCells hc.1.1 hk hc.1.2 hx hc.2 P
  ·cases e
 ·cases e
def st_sound {t:TypeId} {v v' x x' r:Vl} {h':ae} (s:cD μ h w) (hv:aF μ v v') (hx:aF μ x x') (e:st P t v x h=some (r,h')) :
  r=undef /\ ∃ w',(Instr.storeAt t v' x').run P w = .ok () w'/\cD μ h' w'/\ct μ h w μ h' w':=by
 unfold st at e;cases hs:cQ P t with
 |none=>rw [hs] at e;cases e
 |some n=>
  rw [hs] at e;simp only at e;unfold bI at e;split at e
  ·rename_i b off;obtain ⟨L,hL,rfl⟩:=jy hv;split at e
   ·rename_i hsz;simp only [DJ,DF] at e;obtain ⟨h1,he,rfl,rfl⟩:=e;obtain ⟨L',w',hL',hrun,hS,hSt⟩:=hU (P:=P) s hx.cells he;rw [hL] at hL';cases hL';refine ⟨rfl,w',?_,hS,hSt⟩;have hsz':x'.cells.size=n:=by have:=hx.cells.1;simp only [Array.length_toList] at this;omega
    simp [Instr.storeAt,Instr.sureAddr,storeVar,cS w hs,hsz',hrun]
   ·cases e
  ·cases e
def kC {xs ys:List Vl} (s:cD μ h w) (hf:fi μ h (h.alloc xs)) (hx:aT μ xs ys) (T:TypeId) :
  ∃ μ' w',(Go.newRow T ys.toArray).run P w = .ok ⟨w.heap.size,0,none⟩ w'/\cD μ' (h.alloc xs) w'/\ct μ h w μ' (h.alloc xs) w' /\
    ∃ L,μ' h.next=some L/\L.blk=w.heap.size/\L.off=0/\L.ext=ys.length/\L.len=xs.length:=by
 obtain ⟨h1,h2⟩:=s.alloc (k:=xs) hf (arr:=ys.toArray) (T:=T) (fr:=(0,0)) (.inl rfl) (by simp [hx.1]) (by simpa [hx.1] using hx) (w1:={ w with heap:=w.heap.push (.cells ys.toArray T (0,0)) }) rfl rfl rfl rfl;refine ⟨_,_,?_,h1,h2,_,Mu.cI _ _ _,rfl,rfl,by simp,rfl⟩;simp [Go.newRow]
def zero_sound {t:TypeId} {r old:Vl} {h':ae} (s:cD μ h w) (hf:fi μ h h') (e:zero P t h=some (r,h')) :
  ∃ μ' r' w',(Instr.alloc t true old).run P w = .ok r' w'/\cD μ' h' w'/\ct μ h w μ' h' w'/\aF μ' r r':=by
 unfold zero at e;cases hz:jr P t with
 |none=>rw [hz] at e;cases e
 |some z=>
  rw [hz] at e;simp only at e;split at e
  ·rename_i hfl;simp only [Abs.newRow,DA,DF] at e;obtain ⟨rfl,rfl⟩:=e;obtain ⟨μ',w',hrun,hS,hSt,L,hL,hB,hO,_⟩:=kC (P:=P) s hf (aT.gQ hfl) t;refine ⟨μ',.pointer (some ⟨w.heap.size,0,none⟩),w',?_,hS,hSt,?_⟩
   ·simp only [Array.toArray_toList] at hrun;simp [Instr.alloc,fP w hz,newVar,hrun]
   ·have:=aF.ptr (off:=0) hL;rw [hB,hO] at this;exact this
  ·cases e
def box_sound {t:TypeId} {x x' r:Vl} {h':ae} (s:cD μ h w) (hf:fi μ h h') (hx:aF μ x x') (e:box x h=some (r,h')) :
  ∃ μ' r' w',(Instr.box t x').run P w = .ok r' w'/\cD μ' h' w'/\ct μ h w μ' h' w'/\aF μ' r r':=by
 unfold box at e;split at e
 ·simp only [Abs.newRow,DA,DF] at e;obtain ⟨rfl,rfl⟩:=e;obtain ⟨μ',w',hrun,hS,hSt,L,hL,hB,hO,_⟩:=kC (P:=P) s hf hx.cells t;refine ⟨μ',.pointer (some ⟨w.heap.size,0,none⟩),w',?_,hS,hSt,?_⟩
  ·simp only [Array.toArray_toList] at hrun;simp [Instr.box,newVar,hrun]
  ·have:=aF.ptr (off:=0) hL;rw [hB,hO] at this;exact this
 ·cases e
def Ba (off:Nat) : ∀ (l:List Vl) (k:Nat) (cs:Array Vl),off+k+l.length<=cs.size ->
  (l.zipIdx k).foldl (fun (cs:Array Vl) (x:Vl×Nat)=>cs.setIfInBounds (off+x.2) x.1) cs=(splice cs.toList (off+k) l).toArray
 | [],k,cs,_=>by simp [splice]
 |v::l,k,cs,h=>by simp only [List.zipIdx_cons,List.foldl_cons];rw [Ba off l (k+1) _ (by simp at h |-;omega)];have hal:cs.toList.length=cs.size:=Array.length_toList;have:=list_seg_step cs.toList (off+k) v l (by simp at h;omega);simp only [splice,H6,List.length_cons];rw [<-this];simp [F0]
def fill_one (off:Nat) (v:Vl) (cs:List Vl) (h:off+v.cells.size<=cs.length) :
  v.cells.zipIdx.foldl (fun (cs:Array Vl) (x:Vl×Nat)=>cs.setIfInBounds (off+x.2) x.1) cs.toArray=(splice cs off v.cells.toList).toArray:=by
 have:=Ba off v.cells.toList 0 cs.toArray (by simpa using h);simp only [Nat.add_zero] at this;rw [<-this,<-Array.foldl_toList];simp
inductive lH (μ:Mu) (pl:Nat->Option (Nat×Nat)):List (Nat×Nat×Vl)->List (Nat×Vl)->Prop
 |nil:lH μ pl [] []
 |cons {i off n:Nat} {x y:Vl} {ts cs} (hp:pl i=some (off,n)) (hv:aF μ x y) (ht:lH μ pl ts cs):lH μ pl ((off,n,x)::ts) ((i,y)::cs)
def sQ {pl:Nat->Option (Nat×Nat)} {ts:List (Nat×Nat×Vl)} {cps:List (Nat×Vl)} (hp:lH μ pl ts cps) :
  ∀ {cells cc out:List Vl},aT μ cells cc->jq cells ts=some out -> ∃ out',Instr.fill pl cc.toArray cps=some out'.toArray/\aT μ out out':=by
 induction hp with
 |nil=>
  intro cells cc out hc e;simp only [jq,DA] at e;subst e;exact ⟨cc,by simp [Instr.fill],hc⟩
 | @cons i off n x y ts cs hp hv ht ih=>
   intro cells cc out hc e;simp only [jq] at e;split at e
   ·rename_i hb;simp only [DD,DR] at hb;obtain ⟨out',ho,hr⟩:=ih (hc.splice hv.cells off) e;refine ⟨out',?_,hr⟩;have hs:y.cells.size=n:=by have:=hv.cells.1;simp only [Array.length_toList] at this;omega
    have hl:=hc.1;simp only [Instr.fill,hp];rw [DL (by simp [hs];omega)];have:=fill_one off y cc (by omega);rw [this];exact ho
   ·cases e
def CY {α β:Type} (P:Program) (w:World) (f:α->Sem β) (g:α->β) (arr:Array α) (hf : ∀ x∈arr.toList,(f x).run P w = .ok (g x) w):(arr.mapM f).run P w = .ok (arr.map g) w:=by
 rw [Array.mapM_eq_mapM_toList,Sem.run_map];have key : ∀ l:List α,(∀ x∈l,(f x).run P w = .ok (g x) w)->(l.mapM f).run P w = .ok (l.map g) w:=by
  intro l;induction l with
  |nil=>intro _;simp
  |cons x l ih=>
   intro h;rw [FJ,Sem.run_bind,h x (by simp),Result.andThen_ok,Sem.run_bind,ih (fun y hy=>h y (by simp [hy]))];simp
 rw [key _ hf];simp [<-Array.toList_map]
def lH.AK {fs:Array Field} : ∀ {aps cps:List (Nat×Vl)} {ts},aps.length=cps.length->(∀ (i:Nat) (x y:Nat×Vl),aps[i]? = some x->cps[i]? = some y->x.1=y.1/\aF μ x.2 y.2) ->
  fieldPlaces P fs aps=some ts->lH μ (fun i=>(fs.map fun (f:Field)=>(f.offset,(cQ P f.type).getD 0))[i]?) ts cps
 | [],[],ts,_,_,e=>by simp [fieldPlaces] at e;subst e;exact .nil
 | [],_::_,_,hl,_,_=>by simp at hl
 |_::_,[],_,hl,_,_=>by simp at hl
 |x::aps,y::cps,ts,hl,hr,e=>by
  unfold fieldPlaces at e;rw [FJ] at e;simp only [bind,DU,pure,DA] at e;obtain ⟨a,ha,l,hl',rfl⟩:=e;split at ha
  ·rename_i f hf;simp only [DJ] at ha;obtain ⟨n,hn,rfl⟩:=ha;obtain ⟨h1,h2⟩:=hr 0 x y rfl rfl;obtain ⟨i,u⟩:=y;subst h1;exact .cons (by simp [hf,hn]) h2 (lH.AK (by simpa using hl) (fun j a b ha hb=>hr (j+1) a b ha hb) hl')
  ·cases ha
def lH.yf {n:Nat} : ∀ {aps cps:List (Nat×Vl)},aps.length=cps.length->(∀ (i:Nat) (x y:Nat×Vl),aps[i]? = some x->cps[i]? = some y->x.1=y.1/\aF μ x.2 y.2) ->
  lH μ (fun i=>some (i*n,n)) (aps.map fun x=>(x.1*n,n,x.2)) cps
 | [],[],_,_ => .nil
 | [],_::_,hl,_=>by simp at hl
 |_::_,[],hl,_=>by simp at hl
 |x::aps,(i,u)::cps,hl,hr=>by obtain ⟨h1,h2⟩:=hr 0 x (i,u) rfl rfl;subst h1;exact .cons rfl h2 (lH.yf (by simpa using hl) (fun j a b ha hb=>hr (j+1) a b ha hb))
def build_sound {t:TypeId} {aps:List (Nat×Vl)} {cps:Array (Nat×Vl)} {r:Vl} (hl:aps.length=cps.size)
  (hr : ∀ (i:Nat) (x y:Nat×Vl),aps[i]? = some x->cps.toList[i]? = some y->x.1=y.1/\aF μ x.2 y.2) (e:buildA P t aps=some r) :
  ∃ r',(Instr.build t cps).run P w = .ok r' w/\aF μ r r':=by
 unfold buildA at e;cases hz:jr P t with
 |none=>rw [hz] at e;simp at e
 |some z=>
  rw [hz] at e;cases hu:P.underlying t with
  |none=>rw [hu] at e;cases e
  |some d=>
   rw [hu] at e;cases d<;>simp only at e<;>try (cases e;done)
   ·rename_i len el;split at e
    ·rename_i n hn;split at e
     ·rename_i hfl;simp only [DJ] at e;obtain ⟨cs,hcs,rfl⟩:=e;obtain ⟨out,ho,hrel⟩:=sQ (lH.yf (n:=n) (by simpa using hl) hr) (aT.gQ hfl) hcs;refine ⟨.agg out.toArray,?_,.gD hrel⟩;simp only [Array.toArray_toList] at ho;simp [Instr.build,fP w hz,run_underlying hu,cS w hn,ho]
     ·cases e
    ·cases e
   ·rename_i fs;split at e
    ·rename_i hfl;simp only [DD] at hfl;split at e
     ·rename_i ps hps;simp only [DJ] at e;obtain ⟨cs,hcs,rfl⟩:=e;obtain ⟨out,ho,hrel⟩:=sQ (lH.AK (by simpa using hl) hr hps) (aT.gQ hfl.1) hcs;refine ⟨.agg out.toArray,?_,.gD hrel⟩;simp only [Array.toArray_toList] at ho;have hm:(fs.mapM fun (f:Field)=>(do pure (f.offset,<-sizeOf f.type):Sem (Nat×Nat))).run P w = .ok (fs.map fun (f:Field)=>(f.offset,(cQ P f.type).getD 0)) w:=by refine CY P w _ _ fs fun f hf => ?_;have:=DQ.1 hfl.2 f hf;obtain ⟨n,hn⟩:=E9.1 this;simp [cS w hn,hn]
      simp only [Instr.build,Sem.run_bind,fP w hz,Result.andThen_ok,run_underlying hu,hm,ho,Sem.run_pure]
     ·cases e
    ·cases e
end ops
def rF {α:Type} {P:Program} (s:Sem α) {a:α} (h:cZ P s=some a) (w:World):s.run P w = .ok a w:=by
 induction s with
 |pure b=>simp [cZ] at h;subst h;rfl
 |program k ih=>simp only [cZ] at h;simp only [Sem.run];exact ih P h
 |_=>simp [cZ] at h
def mA (z:Array Vl) (hz:0<z.size) : ∀ n,((List.range (n*z.size)).map fun i=>z[i%z.size]!)=dJ z.toList n
 | 0=>by simp [dJ]
 |n+1=>by
  rw [Nat.succ_mul,List.range_add,GA,mA z hz n];simp only [dJ,H2,GR,FT,IF,GC]
  congr 1
  rw [HY];apply FC;intro j;rw [D4];by_cases hj:j<z.size
  ·have h1:(n*z.size+j)%z.size=j:=by rw [II,Nat.mul_add_mod,FK hj]
   simp [FZ hj,h1,hj]
  ·rw [EN (by simp;omega),EN (by simp;omega)];rfl
section ops
variable {P:Program} {μ:Mu} {h:ae} {w:World}
def zi {op:BinOp} {k:IntKind} {a b:Int} {r:Vl} (e:oL op k a b=some r):(Op.intBits op k a b).run P w = .ok r w:=by unfold oL at e;unfold Op.intBits;cases op<;>simp at e |- <;> exact e
def binI_sound {op:BinOp} {t:TypeId} {k k':IntKind} {a b:Int} {r:Vl} (e:iw op k k' a b=some r):(binOp op t (.int k a) (.int k' b)).run P w = .ok r w:=by
 unfold iw at e;cases op
 case shl=>
  simp only at e;split at e
  ·cases e
  ·rename_i hb;cases e;simp [binOp,Op.shift,hb]
 case shr=>
  simp only at e;split at e
  ·cases e
  ·rename_i hb;cases e;simp [binOp,Op.shift,hb]
 all_goals
  simp only at e;split at e
  ·cases e
  ·rename_i hk;have hk':k=k':=IL.1 hk;subst hk';first
    | (simp only [DA] at e;subst e;simp [binOp,Op.intArith,Op.intCmp])
    | (split at e
       ·cases e
       ·rename_i hb;cases e;simp [binOp,Op.intDiv,hb])
    | (have:=zi (P:=P) (w:=w) e
       simp [binOp];exact this)
def aF.nilptr {b:Option Addr} {v:Vl} (hv:aF μ (.pointer b) v) : ∃ b',v = .pointer b'/\b'.isNone=b.isNone:=by
 cases hv with
 |flat h=>exact ⟨b,rfl,rfl⟩
 |ptr h=>exact ⟨_,rfl,rfl⟩
def aF.jZ {b:Option Addr} {l c:Nat} {v:Vl} (hv:aF μ (.slice b l c) v) : ∃ b' c',v = .slice b' l c'/\b'.isNone=b.isNone:=by
 cases hv with
 |flat h=>exact ⟨b,c,rfl,rfl⟩
 |slice h=>exact ⟨_,_,rfl,rfl⟩
 |pU h=>exact ⟨_,_,rfl,rfl⟩
 |jQ h=>exact ⟨_,_,rfl,rfl⟩
 |zA=>exact ⟨_,_,rfl,rfl⟩
def zU {t e:TypeId} (hu:P.underlying t=some (.pointer e)) (a b:Option Addr) (h:a=none\/b=none) :
  (Op.equal t (.pointer a) (.pointer b)).run P w = .ok (a.isNone&&b.isNone) w:=by
 show (Op.equalIn (9999+1) t (.pointer a) (.pointer b)).run P w=_;unfold Op.equalIn;rw [Sem.run_bind,run_underlying hu,Result.andThen_ok];rcases h with rfl|rfl
 ·simp
 ·cases a<;>simp
def vP {t e:TypeId} (hu:P.underlying t=some (.slice e)) (a b:Option Addr) (l m c d:Nat) (h:a=none\/b=none) :
  (Op.equal t (.slice a l c) (.slice b m d)).run P w = .ok (a.isNone&&b.isNone) w:=by
 show (Op.equalIn (9999+1) t (.slice a l c) (.slice b m d)).run P w=_;unfold Op.equalIn;rw [Sem.run_bind,run_underlying hu,Result.andThen_ok];rcases h with rfl|rfl
 ·simp
 ·cases a<;>simp
def Ae {t k e:TypeId} (hu:P.underlying t=some (.map k e)) (a b:Option Nat) (h:a=none\/b=none) :
  (Op.equal t (.map a) (.map b)).run P w = .ok (a.isNone&&b.isNone) w:=by
 show (Op.equalIn (9999+1) t (.map a) (.map b)).run P w=_;unfold Op.equalIn;rw [Sem.run_bind,run_underlying hu,Result.andThen_ok];rcases h with rfl|rfl
 ·simp
 ·cases a<;>simp
def aF.nilmap {b:Option Nat} {v:Vl} (hv:aF μ (.map b) v) : ∃ b',v = .map b'/\b'.isNone=b.isNone:=by
 cases hv with
 |flat h=>exact ⟨b,rfl,rfl⟩
 |map h=>exact ⟨_,rfl,rfl⟩
def isNone_orN {a b:Option Nat} (h:a.isNone=true\/b.isNone=true):a=none\/b=none:=by simpa [Option.isNone_iff_eq_none] using h
def AY {a b:Option Addr} (h:a.isNone=true\/b.isNone=true):a=none\/b=none:=by simpa [Option.isNone_iff_eq_none] using h
def binA_sound {op:BinOp} {t:TypeId} {x y x' y' r:Vl} (hx:aF μ x x') (hy:aF μ y y') (e:binA P op t x y=some r) :
  (binOp op t x' y').run P w = .ok r w:=by
 unfold binA at e;split at e
 ·rw [hx.int,hy.int];exact binI_sound e
 ·rename_i a b;obtain ⟨a',rfl,ha⟩:=hx.nilptr;obtain ⟨b',rfl,hb⟩:=hy.nilptr;split at e<;>first
   | (cases e;done)
   | (rename_i hu
      simp only [DA] at e;subst e;have hn:a'=none\/b'=none:=AY (by simp [ha,hb]);simp [binOp,zU hu a' b' hn,ha,hb])
 ·rename_i a l c b m d;obtain ⟨a',c',rfl,ha⟩:=hx.jZ;obtain ⟨b',d',rfl,hb⟩:=hy.jZ;split at e<;>first
   | (cases e;done)
   | (rename_i hu
      simp only [DA] at e;subst e;have hn:a'=none\/b'=none:=AY (by simp [ha,hb]);simp [binOp,vP hu a' b' l m c' d' hn,ha,hb])
 ·rename_i a b;obtain ⟨a',rfl,ha⟩:=hx.nilmap;obtain ⟨b',rfl,hb⟩:=hy.nilmap;split at e<;>first
   | (cases e;done)
   | (rename_i hu
      simp only [DA] at e;subst e;have hn:a'=none\/b'=none:=isNone_orN (by simp [ha,hb]);simp [binOp,Ae hu a' b' hn,ha,hb])
 ·split at e
  ·rename_i hg;simp only [DD] at hg;rw [hx.fu hg.1,hy.fu hg.2];split at e
   ·rename_i r hr;split at e
    ·cases e;exact rF _ hr w
    ·cases e
   ·cases e
  ·cases e
def aF.vC {x:Vl} (hx:aF μ x .nilIface):x = .nilIface:=by cases hx;rfl
def aF.to_agg {x:Vl} {ys:Array Vl} (hx:aF μ x (.agg ys)) : ∃ xs,x = .agg xs:=by
 cases hx with
 |flat h=>simp [Abs.flat] at h
 |agg _ _=>exact ⟨_,rfl⟩
def Ag {op:BinOp} {t:TypeId} {ox oy:Operand} {x y x' y':Vl} (hx:aF μ x x') (hy:aF μ y y') (e:eqOk P op t x y=true) :
  (eqGuard op t ox oy x' y').run P w = .ok () w:=by
 have key:op = .eql\/op = .neq\/(op ≠ .eql/\op ≠ .neq):=by cases op<;>simp
 have main:(op = .eql\/op = .neq)->(eqGuard op t ox oy x' y').run P w = .ok () w:=by
  intro h1;have hm : ∀ (o:BinOp),o=op->(eqGuard o t ox oy x' y').run P w = .ok () w:=by
   intro o ho;rcases h1 with h1|h1<;>(
    rw [h1] at ho;subst ho;rw [h1] at e;unfold eqGuard;simp only [EK,DB,DS];split
    ·have:=hx.vC;have:=hy.vC
     subst_vars
     simp [eqOk] at e
    ·obtain ⟨xs,rfl⟩:=hx.to_agg;obtain ⟨ys,rfl⟩:=hy.to_agg;simp [eqOk] at e;simp [e]
    ·rfl)
  exact hm op rfl
 rcases key with h1|h1|h1
 ·exact main (.inl h1)
 ·exact main (.inr h1)
 ·have hm:eqGuard op t ox oy x' y'=pure ():=by cases op<;>first|rfl|(simp at h1;done)
  rw [hm];rfl
def bin_sound {op:BinOp} {t:TypeId} {ox oy:Operand} {x y x' y' r:Vl} (hx:aF μ x x') (hy:aF μ y y') (e:aA P op t x y=some r) :
  (do eqGuard op t ox oy x' y';binOp op t x' y':Sem Vl).run P w = .ok r w:=by
 unfold aA at e;split at e
 ·rename_i hg;rw [Sem.run_bind,Ag hx hy hg,Result.andThen_ok];exact binA_sound hx hy e
 ·cases e
def un_sound {op:UnOp} {x x' r:Vl} (hx:aF μ x x') (e:unA op x=some r):(Op.unary op x').run P w = .ok r w:=by
 unfold unA at e;split at e
 ·rw [hx.int];cases e;simp [Op.unary,Op.intArith]
 ·rw [hx.int];simp only [Op.unary];exact zi e
 ·rw [hx.bool];cases e;simp [Op.unary]
 ·cases e
def AZ {op:BinOp} {k:IntKind} {a b:Int} {r:Vl} (e:oL op k a b=some r):flat r=true:=by unfold oL at e;cases op<;>simp at e<;>subst e<;>rfl
def binI_flat {op:BinOp} {k k':IntKind} {a b:Int} {r:Vl} (e:iw op k k' a b=some r):flat r=true:=by
 unfold iw at e;cases op<;>simp only at e<;>(repeat' split at e)<;>first
  | (cases e;done)
  | (simp only [DA] at e;subst e;rfl)
  |exact AZ e
def bin_flat {op:BinOp} {t:TypeId} {x y r:Vl} (e:aA P op t x y=some r):flat r=true:=by
 unfold aA at e;split at e
 ·unfold binA at e;split at e
  ·exact binI_flat e
  ·split at e<;>first
    | (cases e;done)
    | (simp only [DA] at e;subst e;rfl)
  ·split at e<;>first
    | (cases e;done)
    | (simp only [DA] at e;subst e;rfl)
  ·split at e<;>first
    | (cases e;done)
    | (simp only [DA] at e;subst e;rfl)
  ·split at e
   ·split at e
    ·split at e
     ·rename_i hf;cases e;exact hf
     ·cases e
    ·cases e
   ·cases e
 ·cases e
def un_flat {op:UnOp} {x r:Vl} (e:unA op x=some r):flat r=true:=by
 unfold unA at e;split at e
 ·cases e;rfl
 ·exact AZ e
 ·cases e;rfl
 ·cases e
def Dd {x x' r:Vl} (hx:aF μ x x') (e:nilCheckA x=some r):aF μ r x'/\((∃ a,x' = .pointer (some a))\/(∃ f a b,x' = .func (.func f) a b) \/ ∃ f a b,x' = .func (.yield f) a b):=by
 unfold nilCheckA at e;split at e
 ·cases e;refine ⟨hx,?_⟩;cases hx with
  |flat h=>simp [flat] at h
  |ptr h=>exact .inl ⟨_,rfl⟩
 ·cases e;refine ⟨hx,?_⟩;cases hx with
  |flat h=>exact .inr (.inl ⟨_,_,_,rfl⟩)
  |func hf _ _ _ _=>cases hf;exact .inr (.inl ⟨_,_,_,rfl⟩)
 ·cases e;refine ⟨hx,?_⟩;cases hx with
  |flat h=>simp [flat] at h
  |func hf _ _ _ _=>obtain ⟨L,_,rfl⟩:=hf;exact .inr (.inr ⟨_,_,_,rfl⟩)
 ·cases e
def uN {t:TypeId} {len:Nat} {aps:List (Nat×Vl)} {cps:Array (Nat×Vl)} {r:Vl} {h':ae} (s:cD μ h w) (hf:fi μ h h') (hl:aps.length=cps.size)
  (hr : ∀ (i:Nat) (x y:Nat×Vl),aps[i]? = some x->cps.toList[i]? = some y->x.1=y.1/\aF μ x.2 y.2) (e:buildSliceA P t len aps h=some (r,h')) :
  ∃ μ' r' w',(Instr.buildSlice t len cps).run P w = .ok r' w'/\cD μ' h' w'/\ct μ h w μ' h' w'/\aF μ' r r':=by
 unfold buildSliceA at e;cases hu:P.underlying t with
 |none=>rw [show elemT P t=none from by simp [elemT,hu]] at e;cases e
 |some d=>
  cases d with
  |slice el=>
   rw [show elemT P t=some el from by simp [elemT,hu]] at e;simp only at e;split at e
   ·rename_i n z hn hz;split at e
    ·rename_i hc;simp only [DD,DR] at hc;obtain ⟨⟨⟨⟨hfl,hzn⟩,hpos⟩,hsz⟩,hone⟩:=hc;split at e
     ·rename_i cs hcs;simp only [DA,DF] at e;obtain ⟨rfl,rfl⟩:=e;have hz1:dJ z.cells.toList len=(List.range (len*n)).map fun i=>z.cells[i%z.cells.size]! := by rw [<-hzn,mA z.cells (by omega)]
      obtain ⟨out,ho,hrel⟩:=sQ (lH.yf (n:=n) (by simpa using hl) hr) (aT.gQ (μ:=μ) (l:=dJ z.cells.toList len) (by simp only [bD,DQ,dJ,HV] at hfl |-;rintro x ⟨_,_,hx⟩;exact hfl x hx)) hcs
      have harr:(Array.range (len*n)).map (fun i=>z.cells[i%z.cells.size]!)=(dJ z.cells.toList len).toArray:=by apply IJ;rw [hz1];simp
      obtain ⟨μ',w',hrun,hS,hSt,L,hL,hB,hO,_⟩:=kC (P:=P) s hf hrel el;refine ⟨μ',.slice (some ⟨w.heap.size,0,none⟩) len len,w',?_,hS,hSt,?_⟩
      ·by_cases hlen:len*n=0
       ·have hnil:dJ z.cells.toList len = []:=by rw [hz1,hlen];rfl
        rw [hnil] at ho;simp only [Instr.buildSlice,Sem.run_bind,run_underlying hu,Result.andThen_ok,cS w hn];rw [DL (by omega)];have ho':Instr.fill (fun i=>some (i*n,n)) #[] cps.toList=some out.toArray:=ho;have hr0:Array.range (len*n) = #[]:=by rw [hlen];rfl
        rw [DH hlen,hr0];simp [ho',hrun]
       ·simp only [Instr.buildSlice,Sem.run_bind,run_underlying hu,Result.andThen_ok,cS w hn];rw [DL (by omega)];simp only [hlen,DS,Sem.run_bind,fP w hz,Result.andThen_ok,Sem.run_pure,harr,ho,hrun]
      ·have:=aF.slice (off:=0) (len:=len) (cap:=len) hL;rw [hB,hO] at this;exact this
     ·cases e
    ·cases e
   ·cases e
  |_=>rw [show elemT P t=none from by simp [elemT,hu]] at e;cases e
def modify_push {α:Type} (a:Array α) (x:α) (f:α->α):(a.push x).modify a.size f=a.push (f x):=by
 apply Array.ext
 ·simp
 ·intro i h1 h2;rw [Array.getElem_modify];by_cases e:a.size=i
  ·subst e;simp
  ·rw [DL e,Array.getElem_push,Array.getElem_push];simp at h1;rw [dif_pos (by omega),dif_pos (by omega)]
def freeze_push (w:World) (arr:Array Vl) (e:TypeId) :
  ({ w with heap:=w.heap.push (.cells arr e (0,0)) }:World).freeze ⟨w.heap.size,arr.size,none⟩ 1={ w with heap:=w.heap.push (.cells arr e (arr.size,arr.size+1)) }:=by
 unfold World.freeze;rw [DL (by decide)];simp only [modify_push];rfl
def tJ (e:TypeId) (sb:ByteArray) (hsz:sb.size<=maxLen) : ∃ cap arr,sb.size<=cap/\cap<=maxLen/\arr.size=cap /\
  (arr.toList.take sb.size=sb.data.toList.map fun b => .int .u8 b.toNat) /\
  (Conv.stringToBytes e sb).run P w = .ok (.slice (some ⟨w.heap.size,0,none⟩) sb.size cap) { w.drew with heap:=w.heap.push (.cells arr e (arr.size,arr.size+1)) }:=by
 have hge:=grownCap_ge w sb.size 0 e;have hle:=grownCap_le_maxLen w sb.size 0 e hsz;have hds:sb.data.size=sb.size:=rfl;refine ⟨grownCap w sb.size 0 e,(sb.data.map fun (b:UInt8)=>Value.int .u8 (b.toNat:Int))++Array.replicate (grownCap w sb.size 0 e-sb.size) (.int .u8 0),hge,hle,?_,?_,?_⟩
 ·simp [Array.size_append];omega
 ·rw [GD,List.take_append_of_le_length (by simp [hds]),D3 (by simp [hds])];simp
 ·unfold Conv.stringToBytes markStringish;rw [Sem.run_bind,run_choose];simp only [Question.forced,DB,DS,Result.andThen_ok,Sem.run_bind,Go.newRow,run_newObj,Sem.run_pure,run_shape,World.shape?,Array.getElem?_push_size,run_freeze];have:=freeze_push w.drew ((sb.data.map fun (b:UInt8)=>Value.int .u8 (b.toNat:Int))++Array.replicate (grownCap w sb.size 0 e-sb.size) (.int .u8 0)) e;exact FP (Result.ok _) this
def cD.freeze {b O:Nat} {k:eh} {L:Loc} (s:cD μ h w) (hb:h.n0<=b) (hg:h.get b=some k) (hL:μ b=some L) :
  ∃ w',(markStringish ⟨L.blk,O,none⟩).run P w = .ok () w'/\cD μ h w'/\ct μ h w μ h w':=by
 obtain ⟨L',arr,T,fr,h1,h2,h4,h5,h6,h7,h8,h9⟩:=s.new b k hb hg;rw [hL] at h1;cases h1;have hsame : ∀ B,B≠L.blk->(w.freeze ⟨L.blk,arr.size,none⟩ 1).heap[B]? = w.heap[B]? := by intro B hB;unfold World.freeze;rw [DL (by decide)];simp only [IS];rw [DL (Ne.symm hB)]
 obtain ⟨fr',hfr',hnew⟩ : ∃ fr',arr.size<=fr'.1/\(w.freeze ⟨L.blk,arr.size,none⟩ 1).heap[L.blk]? = some (.cells arr T fr'):=by
  unfold World.freeze;rw [DL (by decide)];simp only [IS];rw [DH trivial,h4];obtain ⟨lo,hi⟩:=fr;simp only [Option.map_some];by_cases e:lo=hi
  ·subst e;exact ⟨(arr.size,arr.size+1),DG _,by simp⟩
  ·refine ⟨(min lo arr.size,max hi (arr.size+1)),?_,by simp [e]⟩;simp only at h7 |-;omega
 refine ⟨w.freeze ⟨L.blk,arr.size,none⟩ 1,?_,⟨?_,?_,?_,s.inj,?_,s.low⟩,⟨fun _ _=>rfl,rfl,rfl,DG _,rfl,rfl,rfl,?_,?_,fun B hB => .inl hB,fun B r hB=>⟨r,by rw [hsame _ (by rintro rfl;rw [h4] at hB;cases hB)];exact hB⟩,by simp [World.freeze];try (repeat' split)<;>exact DG _⟩⟩
 ·unfold markStringish;simp only [Sem.run_bind,run_shape,World.shape?,h4,Result.andThen_ok,run_freeze]
 ·intro c cs hc hcs;obtain ⟨L2,a,T2,f2,g1,g2,g3,g4,g5⟩:=s.old c cs hc hcs;exact ⟨L2,a,T2,f2,g1,g2,g3,by rw [hsame c (by omega)];exact g4,g5⟩
 ·intro c kc hc hgc;by_cases e:c=b
  ·subst e;rw [hg] at hgc;cases hgc;exact ⟨L,arr,T,fr',hL,h2,hnew,h5,h6,.inr hfr',h8,h9⟩
  ·obtain ⟨L2,a,T2,f2,g1,g2,g4,g5⟩:=s.new c kc hc hgc;exact ⟨L2,a,T2,f2,g1,g2,by rw [hsame _ (s.inj c b _ _ L2 L hc hb e (h.aJ hgc) (h.aJ hg) g1 hL)];exact g4,g5⟩
 ·intro c o hc hgc;obtain ⟨L2,ob,g1,g2,g3,g4⟩:=s.obj c o hc hgc;have e:c≠b:=by rintro rfl;rw [h.aJ hg] at hgc;cases hgc
  exact ⟨L2,ob,g1,by rw [hsame _ (s.inj c b _ _ L2 L hc hb e hgc (h.aJ hg) g1 hL)];exact g2,g3,g4⟩
 ·unfold World.freeze;simpa using s.size
 ·unfold World.freeze;simp
 ·intro B hB hO;exact hsame B (fun e=>hO ⟨b,_,L,hb,h.aJ hg,hL,e.symm⟩)
def vx {l:List Vl} {bs:List UInt8} (e:l.mapM asByte=some bs) : ∃ ns:List Int,l=ns.map (Value.int .u8)/\ns.map (fun n=>UInt8.ofNat n.toNat)=bs:=by
 induction l generalizing bs with
 |nil=>simp at e;subst e;exact ⟨[],rfl,rfl⟩
 |cons v l ih=>
  rw [FJ] at e;simp only [bind,DU,pure,DA] at e;obtain ⟨a,ha,r,hr,rfl⟩:=e;unfold asByte at ha;split at ha
  ·rename_i n;cases ha;obtain ⟨ns,rfl,rfl⟩:=ih hr;exact ⟨n::ns,rfl,rfl⟩
  ·cases ha
def foldl_push (ns:List Int) : ∀ (s:ByteArray),ns.foldl (fun r n=>r.push (UInt8.ofNat n.toNat)) s=⟨s.data++(ns.map fun n=>UInt8.ofNat n.toNat).toArray⟩:=by
 induction ns with
 |nil=>intro s;simp
 |cons n ns ih=>
  intro s;simp only [List.foldl_cons,ih,FD];simp [ByteArray.push]
def om {size n:Nat} {a:Option Addr} {len cap:Nat} {v':Vl} {cs:List Vl} (s:cD μ h w) (hx:aF μ (.slice a len cap) v') (e:firstA size n (.slice a len cap) h=some cs) (hn:n<=len) (P:Program) :
  ∃ cs',(∀ w',w'.heap=w.heap->(Builtin.firstCells size n v').run P w' = .ok cs'.toArray w')/\aT μ cs cs' /\ ∀ a' l c,v' = .slice (some a') l c->(Go.loadCells a' (n*size)).run P w = .ok cs'.toArray w:=by
 unfold firstA at e;split at e
 ·rename_i heq;cases heq;split at e
  ·cases e;rw [hx.bG rfl];exact ⟨[],by intro w' _;simp [Builtin.firstCells],aT.nil μ,by intro a' l c h;cases h⟩
  ·cases e
 ·rename_i b off sp l c heq;cases heq;split at e
  ·rename_i h0;cases e;refine ⟨[],?_,aT.nil μ,?_⟩
   ·intro w' _;cases hx<;>simp [Builtin.firstCells,h0,Go.loadCells,Go.loadCellsFrom]
   ·intro a' l c _;simp [h0,Go.loadCells,Go.loadCellsFrom]
  ·rename_i h0;split at e
   ·rename_i k hk;split at e
    ·rename_i hle;cases e;have hne:n≠0:=by rintro rfl;simp at h0
     obtain ⟨L,cs',hL,hr,hrun⟩:=s.loadCells hk hle.1 hle.2 P;cases hx with
     |flat h=>simp [flat] at h
     |slice h=>rw [h] at hL;cases hL;exact ⟨cs',by simpa [Builtin.firstCells] using hrun,hr,by intro a' l c h;cases h;exact hrun w rfl⟩
     |pU h=>rw [h] at hL;cases hL;exact ⟨cs',by simpa [Builtin.firstCells] using hrun,hr,by intro a' l c h;cases h;exact hrun w rfl⟩
     |jQ h=>exact absurd hn (by omega)
     |zA=>exact absurd hn (by omega)
    ·cases e
   ·cases e
 ·rename_i heq;cases heq
 ·cases e
def conv_sound {src dst:TypeId} {x x' r:Vl} {h':ae} (s:cD μ h w) (hf:fi μ h h') (hx:aF μ x x') (e:convA P src dst x h=some (r,h')) :
  ∃ μ' r' w',(convert src dst x').run P w = .ok r' w'/\cD μ' h' w'/\ct μ h w μ' h' w'/\aF μ' r r':=by
 unfold convA at e;split at e
 ·rename_i hs hd;rw [hx.int];cases e;refine ⟨μ,_,w,?_,s,.cq,.flat rfl⟩;simp [convert,run_underlying hs,run_underlying hd,Conv.intToInt]
 ·rename_i hs hd;rw [hx.bG rfl];cases e;refine ⟨μ,_,w,?_,s,.cq,.flat rfl⟩;rename_i d _ _ _;cases d<;>simp [convert,run_underlying hs,run_underlying hd]
 ·rename_i d el sb hs hd;rw [hx.bG rfl];split at e
  ·rename_i hel;split at e
   ·rename_i hsz;simp only [DA,DF] at e;obtain ⟨rfl,rfl⟩:=e;obtain ⟨cap,arr,c1,c2,c3,c4,c5⟩:=tJ (P:=P) (w:=w) el sb (by unfold maxLen;omega);obtain ⟨hS,hSt⟩:=s.alloc (k:=sb.data.toList.map fun b => .int .u8 b.toNat) hf (arr:=arr) (T:=el) (fr:=(arr.size,arr.size+1)) (.inr (DG _))
     (by have:sb.data.size=sb.size:=rfl;simp;omega)
     (by have:sb.data.size=sb.size:=rfl
         simp only [EB,Array.length_toList,this,c4];exact aT.gQ (by rw [bD,DQ];intro x hx;obtain ⟨b,_,rfl⟩:=EZ.1 hx;rfl)) (w1:={ w.drew with heap:=w.heap.push (.cells arr el (arr.size,arr.size+1)) }) rfl rfl rfl rfl
    refine ⟨_,.slice (some ⟨w.heap.size,0,none⟩) sb.size cap,_,?_,hS,hSt,?_⟩
    ·have:(convert src dst (.string sb)).run P w=(Conv.stringToBytes el sb).run P w:=by cases d<;>simp [convert,run_underlying hs,run_underlying hd,run_underlying hel]
     rw [this,c5]
    ·have:sb.data.size=sb.size:=rfl;have:=aF.pU (μ:=μ.put h.next ⟨w.heap.size,0,arr.size,(sb.data.toList.map fun b=>Value.int .u8 b.toNat).length⟩) (b:=h.next) (off:=0) (len:=sb.size) (cap:=sb.size) (cap':=cap) (s:=1)
      (Mu.cI _ _ _) (DG _) c1 c2 (by simp) (by simp only;omega)
     simpa using this
   ·cases e
  ·cases e
 ·rename_i el0 el a n c hs hd;split at e
  ·rename_i hel;split at e
   ·rename_i hc;simp only [DD,DR] at hc;obtain ⟨⟨⟨rfl,hb⟩,hlive⟩,hsp⟩:=hc;obtain ⟨k,hk⟩:=E9.1 hlive;cases e;rw [hs] at hd;cases hd;have main : ∀ (L:Loc) (O c':Nat),μ a.block=some L->x' = .slice (some ⟨L.blk,O,none⟩) n c' -> ∃ μ' r' w',(convert src src x').run P w = .ok r' w'/\cD μ' h w'/\ct μ h w μ' h w'/\aF μ' (.slice (some a) n c) r':=by rintro L O c' hL rfl;obtain ⟨w',hrun,hS,hSt⟩:=s.freeze (P:=P) (O:=O) hb hk hL;refine ⟨μ,_,w',?_,hS,hSt,hx⟩;simp [convert,run_underlying hs,run_underlying hel,hrun]
    cases hx with
    |flat h=>simp [flat] at h
    |slice h=>exact main _ _ _ h rfl
    |pU h=>exact main _ _ _ h rfl
    |jQ h=>exact main _ _ _ h rfl
    |zA=>simp at hsp
   ·cases e
  ·cases e
 ·rename_i el a n c hs hd;split at e
  ·rename_i hel;split at e
   ·rename_i l hl;split at e
    ·rename_i bs hbs;cases e;obtain ⟨cs',h1,h2,h3⟩:=om s hx hl (DG _) P;obtain ⟨ns,rfl,rfl⟩:=vx hbs;have hcs:cs'=ns.map (Value.int .u8):=h2.bG (by simp [bD,flat]);subst hcs;refine ⟨μ,.string ⟨(ns.map fun n=>UInt8.ofNat n.toNat).toArray⟩,w,?_,s,.cq,.flat rfl⟩;obtain ⟨b',c',rfl,hnone⟩:=hx.jZ;rw [run_convert_bytes_string w src dst el b' n c' hs hel hd];cases b' with
     |none=>
      have:a=none:=by simpa using hnone.symm
      subst this;have hns:ns = []:=by
       have hl':(if n=0 then some [] else none)=some (ns.map (Value.int .u8)):=hl;split at hl'
       ·simpa using (HT hl').symm
       ·simp at hl'
      subst hns;rfl
     |some a'=>
      have hrun:=h3 a' n c' rfl;rw [FG] at hrun;rw [run_bytesToString w a' n c' ns hrun,foldl_push];simp
    ·cases e
   ·cases e
  ·cases e
 ·cases e
end ops
end
end Go.Abs
