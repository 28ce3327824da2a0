/-
  A part of the proof, spaces and names shortened by a program (a claim may hold 1,500,000 bytes).
  Conditions: as each theorem states.
-/
import Derived.Orders
import Derived.Scope
import Derived.WalkKit
namespace Go.Abs
abbrev DA:=@Option.some.injEq
abbrev DB:=@List.getElem?_eq_getElem
abbrev DC:=@decide_eq_true
abbrev DD:=@Nat.le_refl
abbrev DE:=@List.length_append
abbrev DF:=@decide_eq_false
abbrev DG:=@Bool.false_eq_true
abbrev DH:=@Nat.zero_add
abbrev DJ:=@List.getD_eq_getElem?_getD
abbrev DK:=@Bool.and_eq_true
abbrev DL:=@if_pos
abbrev DM:=@if_neg
abbrev DN:=@Prod.mk.injEq
abbrev DO:=@Bool.not_false
abbrev DP:=@Bool.not_true
abbrev DQ:=@Option.map_eq_some_iff
abbrev DR:=@List.all_eq_true
abbrev DS:=@decide_eq_true_eq
abbrev DT:=@Array.getElem?_eq_some_iff
abbrev DU:=@List.mem_append
abbrev DV:=@List.length_take
abbrev DW:=@List.length_eq_zero_iff
abbrev DX:=@List.take_of_length_le
abbrev DY:=@List.length_map
abbrev DZ:=@Option.bind_eq_some_iff
abbrev D7:=@Nat.le_trans
abbrev D9:=@Bool.and_true
abbrev EA:=@if_true
abbrev EB:=@List.length_drop
abbrev EC:=@beq_self_eq_true
abbrev ED:=@List.mem_cons_self
abbrev EE:=@List.mem_filter
abbrev EF:=@if_false
abbrev EG:=@Bool.false_and
abbrev EH:=@List.getElem?_append_right
abbrev EI:=@List.mem_cons_of_mem
abbrev EJ:=@Nat.lt_of_lt_of_le
abbrev EK:=@List.mem_singleton
abbrev EL:=@List.getElem_mem
abbrev EM:=@Bool.true_and
abbrev EN:=@List.getElem?_map
abbrev EO:=@Bool.false_or
abbrev EP:=@List.drop_zero
abbrev ER:=@List.append_assoc
abbrev ES:=@Bool.and_false
abbrev ET:=@List.getElem?_eq_none
abbrev EU:=@List.append_nil
abbrev EV:=@List.getElem?_eq_some_iff
abbrev EW:=@List.mem_append_right
abbrev EX:=@Bool.or_false
abbrev EY:=@Nat.le_of_ble_eq_true
abbrev EZ:=@List.mem_of_mem_take
abbrev E0:=@List.mem_map
abbrev E3:=@List.mem_of_getElem?
abbrev E6:=@List.flatMap_cons
abbrev E7:=@Bool.or_true
abbrev E8:=@List.drop_eq_getElem_cons
abbrev E9:=@List.getElem?_append_left
abbrev FA:=@Bool.true_or
abbrev FB:=@List.length_filter_le
abbrev FC:=@List.take_append_drop
abbrev FD:=@List.mem_append_left
abbrev FE:=@List.mem_iff_getElem
abbrev FF:=@List.take_succ_eq_append_getElem
abbrev FG:=@List.eq_nil_of_length_eq_zero
abbrev FH:=@List.map_append
abbrev FI:=@List.all_append
abbrev FJ:=@List.mem_of_mem_drop
abbrev FK:=@List.getElem?_take
abbrev FL:=@List.getElem?_drop
abbrev FM:=@Nat.le_of_lt
abbrev FN:=@Nat.zero_le
abbrev FO:=@Nat.add_sub_cancel_left
abbrev FP:=@Nat.not_lt_zero
abbrev FQ:=@List.mem_cons
abbrev FR:=@List.map_cons
abbrev FT:=@List.size_toArray
abbrev FU:=@List.ext_getElem?
abbrev FV:=@List.drop_drop
abbrev FW:=@Bool.not_eq_true'
abbrev FX:=@decide_eq_false_iff_not
abbrev FY:=@Bool.or_eq_true
abbrev FZ:=@Option.isSome_iff_exists
abbrev GA:=@List.take_append_of_le_length
abbrev GB:=@Nat.lt_or_ge
abbrev GC:=@Nat.mul_le_mul_right
abbrev GD:=@Array.getElem?_eq_getElem
abbrev GF:=@Nat.mul_one
abbrev GG:=@Array.toList_append
abbrev GH:=@Nat.lt_irrefl
abbrev GI:=@Nat.zero_mul
abbrev GJ:=@List.getElem?_range
abbrev GK:=@Bool.and_self
abbrev GL:=@Nat.add_assoc
abbrev GM:=@congrArg
abbrev GN:=@List.take_length
abbrev GO:=@List.not_mem_nil
abbrev GP:=@List.eq_of_mem_replicate
abbrev GQ:=@Nat.eq_of_beq_eq_true
abbrev GS:=@List.drop_append_of_le_length
abbrev GU:=@List.drop_eq_nil_of_le
abbrev GV:=@Array.getElem?_eq_none
abbrev GW:=@List.getElem_append_left
abbrev GX:=@Nat.mod_eq_of_lt
abbrev GY:=@List.getElem?_replicate
abbrev G0:=@Array.mem_toList_iff
abbrev HA:=@List.map_eq_cons_iff
abbrev HB:=@List.getElem_append_right
abbrev HC:=@List.take_left'
abbrev HE:=@List.pairwise_iff_getElem
abbrev HF:=@List.mem_or_eq_of_mem_set
abbrev HG:=@List.getElem?_set
abbrev HH:=@List.mem_zipIdx_iff_getElem?
abbrev HI:=@Nat.min_eq_left
abbrev HJ:=@List.cons.injEq
abbrev HK:=@List.filter_cons_of_pos
abbrev HL:=@List.filter_cons_of_neg
abbrev HM:=@Nat.add_mul
abbrev HN:=@Nat.mod_lt
abbrev HO:=@List.mem_flatMap
abbrev HP:=@List.map_nil
abbrev HQ:=@Nat.ne_of_beq_eq_false
abbrev HR:=@List.flatMap_append
abbrev HS:=@List.map_eq_nil_iff
abbrev HT:=@List.mapM_cons
abbrev HU:=@List.getElem?_toArray
abbrev HV:=@Array.mem_of_getElem?
abbrev HW:=@List.drop_left'
abbrev HX:=@Bool.false_ne_true
abbrev HY:=@Bool.not_eq_true
abbrev HZ:=@Nat.le_succ
abbrev H2:=@List.take_take
abbrev H3:=@List.any_eq_false
abbrev H4:=@List.drop_succ_cons
abbrev H5:=@Option.some.inj
abbrev H6:=@List.length_set
abbrev H7:=@List.length_pos_iff
abbrev H8:=@List.flatMap_nil
abbrev H9:=@Nat.le_add_right
abbrev IA:=@Nat.ble_eq_true_of_le
abbrev IB:=@List.filter_append
abbrev IC:=@List.length_replicate
abbrev ID:=@Bool.and_eq_false_iff
abbrev IE:=@Array.getElem?_toList
abbrev IF:=@BitVec.toNat_ofNat
abbrev IG:=@List.getElem?_zip_eq_some
abbrev IH:=@List.drop_take
abbrev II:=@bne_self_eq_false
abbrev IJ:=@List.length_range
abbrev IK:=@Nat.not_lt
abbrev IL:=@Array.ext'
abbrev IM:=@Nat.sub_self
abbrev IN:=@Array.foldl_toList
abbrev IP:=@List.mem_iff_getElem?
abbrev IQ:=@List.range_succ
abbrev IS:=@List.contains_iff_mem
abbrev IT:=@Bool.eq_iff_iff
abbrev IU:=@List.map_map
abbrev IV:=@List.set_append_right
abbrev IW:=@List.getElem_take
abbrev IX:=@List.getElem_drop
abbrev IY:=@List.perm_ext_iff_of_nodup
abbrev IZ:=@Array.toList_setIfInBounds
abbrev I8:=@List.Pairwise.filter
abbrev I9:=@List.getElem?_eq_none_iff
abbrev JA:=@Array.toList_map
abbrev JB:=@List.drop_length
abbrev JC:=@decide_eq_decide
abbrev JD:=@Array.getElem?_push
abbrev JE:=@List.filter_eq_self
abbrev JF:=@getElem!_pos
abbrev JG:=@or_false
abbrev JH:=@List.find?_cons_of_neg
abbrev JI:=@List.take_add_one
abbrev JJ:=@List.nodup_append
abbrev JK:=@Decidable.not_not
abbrev JL:=@List.take_left
abbrev JM:=@Nat.add_comm
abbrev JN:=@List.map_set
abbrev JO:=@Array.getElem?_modify
abbrev JP:=@List.getElem_map
abbrev JQ:=@List.getElem?_of_mem
abbrev JR:=@List.range_eq_range'
abbrev JS:=@List.set_append_left
abbrev JT:=@Nat.one_mul
abbrev JU:=@Nat.mul_comm
abbrev JV:=@List.mem_range
abbrev JW:=@and_true
abbrev JX:=@Ne.symm
abbrev ju:=List Value
inductive Ex where
 |normal|ret|exit (id:Nat)
 deriving DecidableEq
inductive fN where
 |map (es:List (Value×Value×Nat)) (clock:Nat)
 |iter (m:Option Nat) (since:Nat) (seen:List Nat) (stepped:Nat)
 |loop (st:LoopState) (pend:Option Ex) (tmps:List Value) (params:List Tmp) (assign body:Code)
inductive BB where
 |cells (k:ju)
 |obj (o:fN)
def BB.blk:BB->Option ju
 | .cells k=>some k
 | .obj _=>none
inductive Tr where
 |nil
 |node (l:Tr) (v:Option BB) (r:Tr)
def Tr.get:Tr->Nat->Option BB
 | .nil,_=>none
 | .node l v r,n=>if n=0 then v else if n%2=1 then l.get (n/2) else r.get (n/2-1)
def Tr.setF:Nat->Tr->Nat->Option BB->Tr
 | 0,t,_,_=>t
 |f+1,.nil,n,x=>
  if n=0 then .node .nil x .nil else if n%2=1 then .node (Tr.setF f .nil (n/2) x) none .nil else .node .nil none (Tr.setF f .nil (n/2-1) x)
 |f+1,.node l v r,n,x=>
  if n=0 then .node l x r else if n%2=1 then .node (Tr.setF f l (n/2) x) v r else .node l v (Tr.setF f r (n/2-1) x)
def Tr.set (t:Tr) (n:Nat) (x:Option BB):Tr:=Tr.setF (n+1) t n x
structure ai where
 n0:Nat
 old:Nat->Option (List Value)
 new:Tr
 cnt:Nat
def ai.next (h:ai):Nat:=h.n0+h.cnt
def ai.getB (h:ai) (b:Nat):Option BB:=if b<h.n0 then (h.old b).map .cells else if b<h.n0+h.cnt then h.new.get (b-h.n0) else none
def ai.get (h:ai) (b:Nat):Option ju:=(h.getB b).bind BB.blk
def ai.put (h:ai) (b:Nat) (x:Option BB):ai:={ h with new:=h.new.set (b-h.n0) x }
def ai.set (h:ai) (b:Nat) (x:ju):ai:=h.put b (some (.cells x))
def ai.setO (h:ai) (b:Nat) (x:fN):ai:=h.put b (some (.obj x))
def ai.kill (h:ai) (b:Nat):ai:=h.put b none
def ai.br (h:ai) (x:BB):ai:={ h with new:=h.new.set h.cnt (some x),cnt:=h.cnt+1 }
def ai.alloc (h:ai) (x:ju):ai:=h.br (.cells x)
abbrev bc:=Option (Value×ai)
def flat:Value->Bool
 | .bool _ | .int _ _ | .float _ _ | .complex _ _ _ | .string _ | .pointer none | .slice none _ _ | .map none | .chan none | .nilFunc | .nilIface=>true
 | .func (.func _) f c=>f.isEmpty&&c.isEmpty
 |_=>false
def bI (l:List Value):Bool:=l.all flat
def ground:Value->Bool
 | .agg cs=>bI cs.toList
 |v=>flat v
def su (P:Program) (t:TypeId):Option Bool:=
 match P.underlying t with
 |some (.struct _)|some (.array _ _)=>some true
 |some _=>some false
 |none=>none
def cS (P:Program) (t:TypeId):Option Nat:=(P.info? t).map (·.size)
def yp (P:Program) (t:TypeId):Option Nat:=(P.info? t).map (·.bytes)
def kF (P:Program) (t:TypeId):Option Value:=(P.info? t).bind (·.zero)
def elemT (P:Program) (t:TypeId):Option TypeId:=
 match P.underlying t with
 |some (.slice e)=>some e
 |_=>none
def splice (l:List Value) (off:Nat) (xs:List Value):List Value:=l.take off++xs++l.drop (off+xs.length)
def ptr (b off:Nat):Value := .pointer (some ⟨b,off,none⟩)
def eK:Value->Bool
 | .chan (some _)=>true
 |_=>false
def noHoles (l:List Value):Bool:=l.all fun v => !(eK v)
def ld1 (v:Value) (h:ai):bc:=
 match v with
 | .pointer (some ⟨b,off,none⟩)=>
   match h.get b with
   |some k=>match k[off]? with
    |some c=>if eK c=false then some (c,h) else none
    |none=>none
   |none=>none
 |_=>none
def du (n:Nat) (v:Value) (h:ai):bc:=
 match v with
 | .pointer (some ⟨b,off,none⟩)=>
   match h.get b with
   |some k=>if off+n<=k.length/\noHoles ((k.drop off).take n)=true then some (.agg ((k.drop off).take n).toArray,h) else none
   |none=>none
 |_=>none
def ld (P:Program) (t:TypeId) (v:Value) (h:ai):bc:=
 match su P t,cS P t with
 |some true,some n=>du n v h
 |some false,some _=>ld1 v h
 |_,_=>none
def aM (l:List Value):Bool:=l.all Value.oneCell'
def stL (b off:Nat) (xs:List Value) (h:ai):Option ai:=
 match h.get b with
 |some k=>if h.n0<=b&&(off+xs.length<=k.length)&&aM xs then some (h.set b (splice k off xs)) else none
 |none=>none
def eY (n:Nat) (v x:Value) (h:ai):bc:=
 match v with
 | .pointer (some ⟨b,off,none⟩)=>
   if x.cells.size=n then (stL b off x.cells.toList h).map fun h'=>(undef,h') else none
 |_=>none
def st (P:Program) (t:TypeId) (v x:Value) (h:ai):bc:=
 match cS P t with
 |some n=>eY n v x h
 |none=>none
def newRow (cells:List Value) (h:ai):Value×ai:=(ptr h.next 0,h.alloc cells)
def box (v:Value) (h:ai):bc:=if aM v.cells.toList then some (newRow v.cells.toList h) else none
def zero (P:Program) (t:TypeId) (h:ai):bc:=
 match kF P t with
 |some z=>if bI z.cells.toList then some (newRow z.cells.toList h) else none
 |none=>none
def fillL:List Value->List (Nat×Nat×Value)->Option (List Value)
 |cells,[]=>some cells
 |cells,(off,n,v)::cU=>
  if v.cells.size=n&&(off+n<=cells.length) then fillL (splice cells off v.cells.toList) cU else none
def fieldPlaces (P:Program) (fs:Array Field) (parts:List (Nat×Value)):Option (List (Nat×Nat×Value)):=
 parts.mapM fun x=>
  match fs[x.1]? with
  |some f=>(cS P f.type).map fun n=>(f.offset,n,x.2)
  |none=>none
def allSizes (P:Program) (fs:Array Field):Bool:=fs.toList.all fun f=>(cS P f.type).isSome
def buildA (P:Program) (t:TypeId) (parts:List (Nat×Value)):Option Value:=
 match kF P t,P.underlying t with
 |some z,some (.struct fs)=>
  if bI z.cells.toList&&allSizes P fs then
   match fieldPlaces P fs parts with
   |some ps=>(fillL z.cells.toList ps).map fun cs => .agg cs.toArray
   |none=>none
  else none
 |some z,some (.array _ e)=>
  match cS P e with
  |some n=>if bI z.cells.toList then (fillL z.cells.toList (parts.map fun x=>(x.1*n,n,x.2))).map fun cs => .agg cs.toArray else none
  |none=>none
 |_,_=>none
def dj (z:List Value) (n:Nat):List Value:=(List.range n).flatMap fun _=>z
def buildSliceA (P:Program) (t:TypeId) (len:Nat) (parts:List (Nat×Value)) (h:ai):bc:=
 match elemT P t with
 |some e=>match cS P e,kF P e with
  |some n,some z=>
   if bI z.cells.toList&&z.cells.size=n&&0<n&&len*n<=16777216&&aM (parts.flatMap fun x=>x.2.cells.toList) then
    match fillL (dj z.cells.toList len) (parts.map fun x=>(x.1*n,n,x.2)) with
    |some cs=>some (.slice (some ⟨h.next,0,none⟩) len len,h.alloc cs)
    |none=>none
   else none
  |_,_=>none
 |none=>none
def nilCheckA:Value->Option Value
 | .pointer (some a)=>some (.pointer (some a))
 | .func (.func f) x c=>some (.func (.func f) x c)
 | .func (.yield l) x c=>some (.func (.yield l) x c)
 |_=>none
def qu (op:BinOp) (k:IntKind) (x y:Int):Option Value:=
 let a:=BitVec.ofInt k.bits x
 let b:=BitVec.ofInt k.bits y
 match op with
 | .and=>some (.int k (k.wrap (a &&& b).toNat))
 | .or=>some (.int k (k.wrap (a ||| b).toNat))
 | .xor=>some (.int k (k.wrap (a ^^^ b).toNat))
 | .andNot=>some (.int k (k.wrap (a &&& ~~~b).toNat))
 |_=>none
def jw (op:BinOp) (k k':IntKind) (a b:Int):Option Value:=
 match op with
 | .shl=>if b<0 then none else some (.int k (k.wrap (a*2^(min b.toNat k.bits))))
 | .shr=>if b<0 then none else some (.int k (a.fdiv (2^(min b.toNat k.bits))))
 |op=>if k≠k' then none else
  match op with
  | .add=>some (.int k (k.wrap (a+b)))
  | .sub=>some (.int k (k.wrap (a-b)))
  | .mul=>some (.int k (k.wrap (a*b)))
  | .quo=>if b=0 then none else some (.int k (k.wrap (a.tdiv b)))
  | .rem=>if b=0 then none else some (.int k (a.tmod b))
  | .eql=>some (.bool (a==b))
  | .neq=>some (.bool (a != b))
  | .lss=>some (.bool (a<b))
  | .leq=>some (.bool (a<=b))
  | .gtr=>some (.bool (a>b))
  | .geq=>some (.bool (a>=b))
  |op=>qu op k a b
def cf {α:Type} (P:Program):Sem α->Option α
 | .pure a=>some a
 | .program k=>cf P (k P)
 |_=>none
def binA (P:Program) (op:BinOp) (t:TypeId) (x y:Value):Option Value:=
 match x,y with
 | .int k a,.int k' b=>jw op k k' a b
 | .pointer a,.pointer b=>
   match P.underlying t,a,b,op with
   |some (.pointer _),none,b,.eql=>some (.bool b.isNone)
   |some (.pointer _),none,b,.neq=>some (.bool !b.isNone)
   |some (.pointer _),some _,none,.eql=>some (.bool false)
   |some (.pointer _),some _,none,.neq=>some (.bool true)
   |_,_,_,_=>none
 | .slice a _ _,.slice b _ _=>
   match P.underlying t,a,b,op with
   |some (.slice _),none,b,.eql=>some (.bool b.isNone)
   |some (.slice _),none,b,.neq=>some (.bool !b.isNone)
   |some (.slice _),some _,none,.eql=>some (.bool false)
   |some (.slice _),some _,none,.neq=>some (.bool true)
   |_,_,_,_=>none
 | .map a,.map b=>
   match P.underlying t,a,b,op with
   |some (.map _ _),none,b,.eql=>some (.bool b.isNone)
   |some (.map _ _),none,b,.neq=>some (.bool !b.isNone)
   |some (.map _ _),some _,none,.eql=>some (.bool false)
   |some (.map _ _),some _,none,.neq=>some (.bool true)
   |_,_,_,_=>none
 |x,y=>if ground x&&ground y then
   match cf P (binOp op t x y) with
   |some r=>if flat r then some r else none
   |none=>none
  else none
def eqOk (P:Program) (op:BinOp) (t:TypeId) (x y:Value):Bool:=
 match op,x,y with
 | .eql,.agg _,.agg _ | .neq,.agg _,.agg _ => !(P.eqGuardType P.depth t)
 | .eql,.nilIface,.nilIface | .neq,.nilIface,.nilIface=>false
 |_,_,_=>true
def aF (P:Program) (op:BinOp) (t:TypeId) (x y:Value):Option Value:=if eqOk P op t x y then binA P op t x y else none
def unA (op:UnOp) (x:Value):Option Value:=
 match op,x with
 | .neg,.int k n=>some (.int k (k.wrap (0-n)))
 | .xor,.int k n=>qu .xor k (if k.signed then -1 else k.max) n
 | .not,.bool b=>some (.bool !b)
 |_,_=>none
def firstA (size n:Nat) (x:Value) (h:ai):Option (List Value):=
 match x with
 | .slice none _ _=>if n=0 then some [] else none
 | .slice (some ⟨b,off,_⟩) _ _=>
   if n*size=0 then some [] else
   match h.get b with
   |some k=>if off+n*size<=k.length/\noHoles ((k.drop off).take (n*size))=true then some ((k.drop off).take (n*size)) else none
   |none=>none
 | .string s=>some ((s.extract 0 n).data.toList.map fun b => .int .u8 b.toNat)
 |_=>none
def ik:Value->Option Nat
 | .slice _ n _=>some n
 | .string s=>some s.size
 |_=>none
def asByte:Value->Option UInt8
 | .int .u8 n=>some (UInt8.ofNat n.toNat)
 |_=>none
def convA (P:Program) (src dst:TypeId) (x:Value) (h:ai):bc:=
 match P.underlying src,P.underlying dst,x with
 |some _,some (.int k),.int _ n=>some (.int k (k.wrap n),h)
 |some _,some .string,.string s=>some (.string s,h)
 |some _,some (.slice e),.string s=>
  match P.underlying e with
  |some (.int .u8)=>if s.size<=140737488355328 then some (.slice (some ⟨h.next,0,some 1⟩) s.size s.size,h.alloc (s.data.toList.map fun b => .int .u8 b.toNat)) else none
  |_=>none
 |some (.slice _),some (.slice e),.slice (some a) n c=>
  match P.underlying e with
  |some (.int .u8)=>if src=dst&&h.n0<=a.block&&(h.get a.block).isSome && !(a.spot==some 0) then some (.slice (some a) n c,h) else none
  |_=>none
 |some (.slice e),some .string,.slice a n c=>
  match P.underlying e with
  |some (.int .u8)=>
   match firstA 1 n (.slice a n c) h with
   |some l=>match l.mapM asByte with
    |some bs=>some (.string ⟨bs.toArray⟩,h)
    |none=>none
   |none=>none
  |_=>none
 |_,_,_=>none
def makeA (P:Program) (t:TypeId) (len cap:Value) (h:ai):bc:=
 match elemT P t,len,cap with
 |some e,.int .i64 l,.int .i64 c=>
  match cS P e,yp P e,kF P e with
  |some n,some jt,some z=>
   if 0<=l&&l<=c&&c<=9223372036854775807&&jt*c<=281474976710656&&bI z.cells.toList&&z.cells.size=n&&0<n then
    some (.slice (some ⟨h.next,0,none⟩) l.toNat c.toNat,h.alloc (dj z.cells.toList c.toNat))
   else none
  |_,_,_=>none
 |_,_,_=>none
def boundA (d:Nat) (y:Nat):Option Value->Option Nat
 |none=>some d
 |some (.int _ i)=>if 0<=i/\i<=y then some i.toNat else none
 |some _=>none
def boundsA (len cap:Nat) (lo hi mx:Option Value):Option (Nat×Nat×Nat):=
 match boundA cap cap mx with
 |some m=>
  match hi,mx with
  |none,some _=>none
  |_,_=>
   match boundA len m hi with
   |some h=>match boundA 0 h lo with
    |some l=>some (l,h,m)
    |none=>none
   |none=>none
 |none=>none
def sliceArr (n size:Nat) (x:Value) (lo hi mx:Option Value):Option Value:=
 match x with
 | .pointer (some ⟨b,off,none⟩)=>
   match boundsA n n lo hi mx with
   |some (l,h,m)=>some (.slice (some ⟨b,if m=l then off else off+l*size,none⟩) (h-l) (m-l))
   |none=>none
 |_=>none
def sliceSl (size:Nat) (x:Value) (lo hi mx:Option Value):Option Value:=
 match x with
 | .slice none len cap=>
   match boundsA len cap lo hi mx with
   |some (l,h,m)=>some (.slice none (h-l) (m-l))
   |none=>none
 | .slice (some ⟨b,off,none⟩) len cap=>
   match boundsA len cap lo hi mx with
   |some (l,h,m)=>some (.slice (some ⟨b,if m=l then off else off+l*size,none⟩) (h-l) (m-l))
   |none=>none
 | .slice (some ⟨b,off,some s⟩) len cap=>
   match mx with
   |some u=>match boundsA len cap lo hi (some u) with
    |some (l,h,m)=>if s=size/\s≠0 then (if m=l then some (.slice (some ⟨b,off,some s⟩) 0 0) else some (.slice (some ⟨b,off+l*size,none⟩) (h-l) (m-l))) else none
    |none=>none
   |none=>match boundsA len cap lo hi none with
    |some (l,h,m)=>if s=size/\s≠0 then some (.slice (some ⟨b,off+l*size,some s⟩) (h-l) (m-l)) else if s=0/\len=0/\cap=0 then some (.slice (some ⟨b,off,some 0⟩) 0 0) else none
    |none=>none
 | .string s=>
   match mx with
   |some _=>none
   |none=>match boundsA s.size s.size lo hi none with
    |some (l,h,_)=>some (.string (s.extract l h))
    |none=>none
 |_=>none
def sliceA (P:Program) (t:TypeId) (x:Value) (lo hi mx:Option Value):Option Value:=
 match P.underlying t with
 |some (.array n e)=>(cS P e).bind fun z=>sliceArr n z x lo hi mx
 |some (.pointer arr)=>match P.underlying arr with
  |some (.array n e)=>(cS P e).bind fun z=>sliceArr n z x lo hi mx
  |_=>none
 |some (.slice e)=>match x with
  | .string _=>none
  |x=>(cS P e).bind fun z=>sliceSl z x lo hi mx
 |some .string=>match x with
  | .string s=>sliceSl 1 (.string s) lo hi mx
  |_=>none
 |_=>none
def aP (v:Value) (n:Nat):Option Value:=
 match v with
 | .pointer (some ⟨b,off,none⟩)=>some (ptr b (off+n))
 |_=>none
def fieldAtA (P:Program) (t:TypeId) (x:Value) (i:Nat):Option Value:=
 match P.underlying t with
 |some (.struct fs)=>match fs[i]? with
  |some f=>match cS P f.type with
   |some n=>if n=0 then none else aP x f.offset
   |none=>none
  |none=>none
 |_=>none
def idxA (n size:Nat) (v ix:Value):Option Value:=
 match ix with
 | .int _ i=>if 0<=i/\i<n then aP v (i.toNat*size) else none
 |_=>none
def idxS (size:Nat) (v ix:Value):Option Value:=
 match v,ix with
 | .slice (some ⟨b,off,_⟩) len _,.int _ i=>if 0<=i/\i<len then some (ptr b (off+i.toNat*size)) else none
 |_,_=>none
def indexAtA (P:Program) (t:TypeId) (x ix:Value):Option Value:=
 match P.underlying t with
 |some (.array n e)=>(cS P e).bind fun z=>idxA n z x ix
 |some (.slice e)=>(cS P e).bind fun z=>idxS z x ix
 |_=>none
def j9 (P:Program) (t:TypeId) (cs:Array Value) (off:Nat):Option Value:=
 match su P t,cS P t with
 |some true,some n=>some (.agg (cs.extract off (off+n)))
 |some false,some _=>cs[off]?
 |_,_=>none
def fieldA (P:Program) (t:TypeId) (x:Value) (i:Nat):Option Value:=
 match P.underlying t,x with
 |some (.struct fs),.agg cs=>match fs[i]? with
  |some f=>j9 P f.type cs f.offset
  |none=>none
 |_,_=>none
def indexA (P:Program) (t:TypeId) (x ix:Value):Option Value:=
 match P.underlying t,x,ix with
 |some (.array n e),.agg cs,.int _ i=>if 0<=i/\i<n then (cS P e).bind fun z=>j9 P e cs (i.toNat*z) else none
 |some .string,.string s,.int _ i=>if 0<=i then (s[i.toNat]?).map fun b => .int .u8 b.toNat else none
 |_,_,_=>none
def extractA (t:Value) (i:Nat):Option Value:=
 match t with
 | .tuple vs=>vs[i]?
 |_=>none
def appendA (size jt:Nat) (s x:Value) (h:ai):bc:=
 match s,ik x with
 | .slice b9 len cap,some m=>
   match firstA size m x h with
   |none=>none
   |some news=>
    if !(aM news) || !((len+m)*jt<=140737488355328) || !(len+m<=4611686018427387904)||news.length≠m*size then none else
    if len+m<=cap then
     if m=0 then some (s,h) else
     match b9 with
     |some ⟨b,off,_⟩=>(stL b (off+len*size) news h).map fun h'=>(.slice b9 (len+m) cap,h')
     |none=>none
    else
     match b9 with
     |none=>if len=0 then some (.slice (some ⟨h.next,0,some size⟩) (len+m) (len+m),h.alloc news) else none
     |some ⟨b,_,sp⟩=>
      match firstA size len s h with
      |none=>none
      |some olds=>
       if olds.length≠len*size then none else
       match sp with
       |none=>some (.slice (some ⟨h.next,0,some size⟩) (len+m) (len+m),h.alloc (olds++news))
       |some z=>if z=size&&h.n0<=b&&(h.get b).isSome then some (.slice (some ⟨h.next,0,some size⟩) (len+m) (len+m),(h.kill b).alloc (olds++news)) else none
 |_,_=>none
def tC (size:Nat) (d s:Value) (h:ai):bc:=
 match d,ik s with
 | .slice b9 dLen _,some m=>
   let n:=min m dLen
   match firstA size n s h with
   |none=>none
   |some news=>
    if n=0 then some (.int .i64 n,h) else
    match b9 with
    |none=>none
    |some ⟨b,off,_⟩=>(stL b off news h).map fun h'=>(.int .i64 n,h')
 |_,_=>none
def clearA (P:Program) (e:TypeId) (size:Nat) (d:Value) (h:ai):bc:=
 match d with
 | .slice none _ _=>some (undef,h)
 | .slice (some ⟨b,off,_⟩) n _=>
   if n=0 then some (undef,h) else
   match kF P e with
   |some z=>if bI z.cells.toList&&z.cells.size=size&&0<size then (stL b off (dj z.cells.toList n) h).map fun h'=>(undef,h') else none
   |none=>none
 |_=>none
def lenOfT (P:Program) (t:TypeId) (x:Value):Option Value:=
 match P.underlying t,x with
 |some .string,.string s=>some (.int .i64 s.size)
 |some (.array n _),_=>some (.int .i64 n)
 |some (.pointer arr),_=>match P.underlying arr with
  |some (.array n _)=>some (.int .i64 n)
  |_=>none
 |some (.slice _),.slice _ n _=>some (.int .i64 n)
 |_,_=>none
def minmax (mx:Bool):Value->List Value->Option Value
 |v,[]=>some v
 | .int k x,.int k' y::cU=>if k=k' then minmax mx (.int k (if (if mx then y>x else y<x) then y else x)) cU else none
 |_,_=>none
def mapT (P:Program) (t:TypeId):Option (TypeId×TypeId):=
 match P.underlying t with
 |some (.map k e)=>some (k,e)
 |_=>none
def keyOk (P:Program):Nat->TypeId->Value->Bool
 | 0,_,_=>false
 |n+1,t,v=>
  match P.underlying t,v with
  |some (.interface _),_=>false
  |some (.array len e),.agg cs=>
   match cS P e with
   |some z=>(List.range len).all fun i=>match j9 P e cs (i*z) with
    |some x=>keyOk P n e x
    |none=>false
   |none=>false
  |some (.struct fs),.agg cs=>fs.toList.all fun f=>match j9 P f.type cs f.offset with
    |some x=>keyOk P n f.type x
    |none=>false
  |some (.array _ _),_|some (.struct _),_=>false
  |some _,_=>true
  |none,_=>false
def eqA (P:Program) (t:TypeId) (x y:Value):Option Bool:=if ground x&&ground y then cf P (Op.equal t x y) else none
def findA (P:Program) (t:TypeId) (k:Value):List (Value×Value×Nat)->Nat->Option (Option (Nat×Value))
 | [],_=>some none
 |e::es,i=>match eqA P t k e.1 with
  |some true=>some (some (i,e.2.1))
  |some false=>findA P t k es (i+1)
  |none=>none
def entriesA (x:Value) (h:ai):Option (List (Value×Value×Nat)):=
 match x with
 | .map none=>some []
 | .map (some b)=>match h.getB b with
   |some (.obj (.map es _))=>some es
   |_=>none
 |_=>none
def lookupA (P:Program) (t:TypeId) (x k:Value) (ok:Bool) (h:ai):bc:=
 match mapT P t,entriesA x h with
 |some (kt,et),some es=>
  if keyOk P 10000 kt k&&ground k then
   match findA P kt k es 0,kF P et with
   |some (some (_,v)),some _=>some (if ok then .tuple #[v,.bool true] else v,h)
   |some none,some z=>if ground z then some (if ok then .tuple #[z,.bool false] else z,h) else none
   |_,_=>none
  else none
 |_,_=>none
def mapUpdateA (P:Program) (t:TypeId) (m k v:Value) (h:ai):bc:=
 match mapT P t,m with
 |some (kt,_),.map (some b)=>match h.getB b with
  |some (.obj (.map es clock))=>
   if keyOk P 10000 kt k&&ground k then
    match findA P kt k es 0 with
    |some (some (i,_))=>match es[i]? with
     |some x=>if Instr.sameBits 10000 x.1 k then some (undef,h.setO b (.map (es.set i (k,v,x.2.2)) clock)) else none
     |none=>none
    |some none=>some (undef,h.setO b (.map (es ++ [(k,v,clock)]) (clock+1)))
    |none=>none
   else none
  |_=>none
 |_,_=>none
def jH (P:Program) (t:TypeId) (m k:Value) (h:ai):bc:=
 match mapT P t,m with
 |some (kt,et),.map (some b)=>match h.getB b with
  |some (.obj (.map es clock))=>
   if keyOk P 10000 kt k&&ground k then
    match findA P kt k es 0 with
    |some (some (i,v))=>match es[i]? with
     |some x=>if Instr.sameBits 10000 x.1 k then some (.tuple #[v,goInt x.2.2],h.setO b (.map (es.set i (k,x.2.1,x.2.2)) clock)) else none
     |none=>none
    |some none=>match kF P et with
     |some z=>if ground z then some (.tuple #[z,goInt clock],h.setO b (.map (es ++ [(k,z,clock)]) (clock+1))) else none
     |none=>none
    |none=>none
   else none
  |_=>none
 |_,_=>none
def entryStoreA (m s v:Value) (h:ai):bc:=
 match m,s with
 | .map (some b),.int _ n=>match h.getB b with
   |some (.obj (.map es clock))=>
    match es.findIdx? (fun e=>(e.2.2:Int)==n) with
    |some i=>match es[i]? with
     |some x=>some (undef,h.setO b (.map (es.set i (x.1,v,x.2.2)) clock))
     |none=>none
    |none=>none
   |_=>none
 |_,_=>none
def iv (r:Option Value) (P:Program) (t:TypeId) (h:ai):bc:=
 match r with
 |none=>some (.map (some h.next),h.br (.obj (.map [] 0)))
 |some (.int _ _)=>if (mapT P t).isSome then some (.map (some h.next),h.br (.obj (.map [] 0))) else none
 |some _=>none
def rangeA (P:Program) (t:TypeId) (x:Value) (h:ai):bc:=
 match mapT P t,x with
 |some _,.map none=>some (ptr h.next 0,h.br (.obj (.iter none 0 [] 0)))
 |some _,.map (some b)=>match h.getB b with
  |some (.obj (.map _ clock))=>some (ptr h.next 0,h.br (.obj (.iter (some b) clock [] clock)))
  |_=>none
 |_,_=>none
def vM (es:List (Value×Value×Nat)) (since:Nat) (seen:List Nat) (iC:Nat):Option (List (Option (Value×Value×Nat))):=
 if !seen.isEmpty && !es.isEmpty&&es.all (fun e=>decide (iC<=e.2.2)) then none else
 let left:=es.filter fun e => !seen.contains e.2.2
 let old:=left.filter fun e=>decide (e.2.2<since)
 let new:=left.filter fun e=>decide (since<=e.2.2)
 some ((if old.isEmpty then [none] else [])++(old++new).map some)
def stepTo (r m since:Nat) (seen:List Nat) (clock:Nat) (c:Option (Value×Value×Nat)) (h:ai):Value×ai:=
 match c with
 |some e=>(.tuple #[.bool true,e.1,e.2.1],h.setO r (.iter (some m) since (seen ++ [e.2.2]) clock))
 |none=>(.tuple #[.bool false],h)
def nextsA (it:Value) (h:ai):Option (List (Value×ai)):=
 match it with
 | .pointer (some ⟨r,0,none⟩)=>match h.getB r with
   |some (.obj (.iter none _ _ _))=>some [(.tuple #[.bool false],h)]
   |some (.obj (.iter (some m) since seen iC))=>match h.getB m with
    |some (.obj (.map es clock))=>(vM es since seen iC).map fun l=>l.map fun c=>stepTo r m since seen clock c h
    |_=>none
   |_=>none
 |_=>none
def nextA (it:Value) (str:Bool) (h:ai):bc:=
 if str then none else
 match nextsA it h with
 |some [r]=>some r
 |_=>none
def entryA (it:Value) (h:ai):bc:=
 match it with
 | .pointer (some ⟨r,0,none⟩)=>match h.getB r with
   |some (.obj (.iter (some m) _ seen iC))=>match seen.getLast?,h.getB m with
    |some stamp,some (.obj (.map es clock))=>
     if clock=iC then (es.find? fun e=>e.2.2==stamp).map fun e=>(.tuple #[e.1,e.2.1],h) else none
    |_,_=>none
   |_=>none
 |_=>none
def deleteA (P:Program) (t:TypeId) (m k:Value) (h:ai):bc:=
 match mapT P t with
 |some (kt,_)=>
  if keyOk P 10000 kt k&&ground k then
   match m with
   | .map none=>some (undef,h)
   | .map (some b)=>match h.getB b with
     |some (.obj (.map es clock))=>match findA P kt k es 0 with
      |some (some (i,_))=>some (undef,h.setO b (.map (es.eraseIdx i) clock))
      |some none=>some (undef,h.setO b (.map es clock))
      |none=>none
     |_=>none
   |_=>none
  else none
 |none=>none
def xC (x:Value) (h:ai):Option Value:=(entriesA x h).map fun es => .int .i64 es.length
def jQ (x:Value) (h:ai):bc:=
 match x with
 | .map none=>some (undef,h)
 | .map (some b)=>match h.getB b with
   |some (.obj (.map _ clock))=>some (undef,h.setO b (.map [] clock))
   |_=>none
 |_=>none
def pN:TypeDesc->Bool
 | .int _=>true
 |_=>false
def builtinA (P:Program) (b:Builtin) (ts:List TypeId) (args:List Value) (h:ai):bc:=
 match b,args,ts with
 | .append,[s,x],[t,tx]=>
   match elemT P t with
   |some e=>match cS P e,yp P e,kF P e,P.underlying tx with
    |some n,some jt,some z,some d=>
     if pN d || !(z.cells.size=n)||n=0 then none else appendA n jt s x h
    |_,_,_,_=>none
   |none=>none
 | .copy,[d,s],[t,_]=>match elemT P t with
   |some e=>(cS P e).bind fun n=>tC n d s h
   |none=>none
 | .clear,[d],[t]=>match elemT P t with
   |some e=>(cS P e).bind fun n=>clearA P e n d h
   |none=>if (mapT P t).isSome then jQ d h else none
 | .len,[x],[t]=>match lenOfT P t x with
   |some v=>some (v,h)
   |none=>if (mapT P t).isSome then (xC x h).map fun v=>(v,h) else none
 | .delete,[m,k],t::_=>deleteA P t m k h
 | .max,v::u::r,_=>(minmax true v (u::r)).map fun v=>(v,h)
 | .min,v::u::r,_=>(minmax false v (u::r)).map fun v=>(v,h)
 |_,_,_=>none
abbrev au:=FuncId->List Value->ai->bc
def BS (P:Program) (l:Nat):FuncId:=P.funcs.size+l
def callA (P:Program) (C:au) (f:Value) (args:List Value) (h:ai):bc:=
 match f with
 | .func (.func i) first captured=>if i<P.funcs.size then C i (first.toList++args++captured.toList) h else none
 | .func (.yield l) first _=>C (BS P l) (first.toList++args) h
 |_=>none
def ifaceA (P:Program) (t:TypeId) (x:Value):Option Value:=
 match P.underlying t with
 |some (.interface _)=>none
 |some _=>some (.iface t x)
 |none=>none
def assertA (P:Program) (asserted:TypeId) (ok:Bool) (x:Value):Option Value:=
 match P.underlying asserted with
 |some (.interface _)=>none
 |some _=>match x with
  | .iface t v=>if t=asserted then some (if ok then .tuple #[v,.bool true] else v) else none
  |_=>none
 |none=>none
def opA (P:Program) (C:au) (o:Oper) (ρ:Operand->Value) (h:ai):bc:=
 let pu (v:Option Value):bc:=v.map fun v=>(v,h)
 match o.op with
 | .move x | .assign x=>some (ρ x,h)
 | .pick c a b=>match ρ c with
   | .bool t=>some (if t then ρ a else ρ b,h)
   |_=>none
 | .alloc t=>zero P t h
 | .box _ x=>box (ρ x) h
 | .build t parts=>pu (buildA P t (parts.toList.map fun (i,x)=>(i,ρ x)))
 | .buildSlice t len parts=>buildSliceA P t len (parts.toList.map fun (i,x)=>(i,ρ x)) h
 | .load t x=>ld P t (ρ x) h
 | .store t x v=>st P t (ρ x) (ρ v) h
 | .nilCheck x=>pu (nilCheckA (ρ x))
 | .binOp op t x y _=>pu (aF P op t (ρ x) (ρ y))
 | .unOp op _ x=>pu (unA op (ρ x))
 | .convert s d x=>convA P s d (ρ x) h
 | .makeSlice t l c=>makeA P t (ρ l) (ρ c) h
 | .slice t x lo hi mx=>pu (sliceA P t (ρ x) (lo.map ρ) (hi.map ρ) (mx.map ρ))
 | .fieldAddr t x i=>pu (fieldAtA P t (ρ x) i)
 | .field t x i=>pu (fieldA P t (ρ x) i)
 | .indexAddr t x i=>pu (indexAtA P t (ρ x) (ρ i))
 | .index t x i=>pu (indexA P t (ρ x) (ρ i))
 | .extract t i=>pu (extractA (ρ t) i)
 | .makeFunc f first captured=>match f with
   | .yield _=>none
   |f=>some (.func f (first.map ρ) (captured.map ρ),h)
 | .makeInterface t x=>pu (ifaceA P t (ρ x))
 | .typeAssert x _ t ok=>pu (assertA P t ok (ρ x))
 | .makeMap t r=>iv (r.map ρ) P t h
 | .lookup t x k ok=>lookupA P t (ρ x) (ρ k) ok h
 | .mapUpdate t m k v | .insert t m k v=>mapUpdateA P t (ρ m) (ρ k) (ρ v) h
 | .mapEntry t m k=>jH P t (ρ m) (ρ k) h
 | .entryStore _ m s v=>entryStoreA (ρ m) (ρ s) (ρ v) h
 | .range t x=>rangeA P t (ρ x) h
 | .next it str=>nextA (ρ it) str h
 | .entry it=>entryA (ρ it) h
 | .call c=>
   let args:=c.args.toList.map ρ
   match c.callee with
   | .builtin b=>builtinA P b c.argTypes.toList args h
   | .value f=>callA P C (ρ f) args h
   | .invoke _ _=>none
 |_=>none
abbrev aX:=List Value
def ev (e:aX):Operand->Value
 | .tmp t=>e.getD t undef
 | .const v=>v
 | .global g=>ptr g 0
 | .func f => .func (.func f) #[] #[]
def putD (e:aX) (d:Option Tmp) (v:Value):aX:=
 match d with
 |some t=>e.set t v
 |none=>e
def iM (ops:Array Oper) (e:aX) (j:Nat):Option Bool:=
 match ((ops[j]?).bind (·.dst)).bind (e[·]?) with
 |some (.bool b)=>some b
 |_=>none
def iZ (ops:Array Oper) (o:Oper) (e:aX):Bool:=
 match o.guard with
 |none=>true
 |some (j,want)=>iM ops e j==some want
def stepA (P:Program) (C:au) (ops:Array Oper) (o:Oper) (e:aX) (h:ai):Option (aX×ai):=
 if iZ ops o e then
  match opA P C o (ev e) h with
  |some (v,h')=>some (putD e o.dst v,h')
  |none=>none
 else some (putD e o.dst undef,h)
def opsA (P:Program) (C:au) (ops:Array Oper):List Oper->aX->ai->Option (aX×ai)
 | [],e,h=>some (e,h)
 |o::cU,e,h=>match stepA P C ops o e h with
  |some (e',h')=>opsA P C ops cU e' h'
  |none=>none
inductive Kd where
 |pure|read|alloc|eff
 deriving DecidableEq
def kindOf (P:Program) (o:Oper):Kd:=
 match o.op with
 | .move _ | .assign _ | .pick .. | .build .. | .nilCheck _ | .binOp .. | .unOp .. | .slice .. | .fieldAddr .. | .field .. | .indexAddr .. | .index .. | .extract .. | .makeFunc .. | .makeInterface .. | .typeAssert .. => .pure
 | .load .. => .read
 | .lookup .. | .entry _ => .read
 | .alloc _ | .box .. | .buildSlice .. | .makeSlice .. | .makeMap .. => .alloc
 | .convert _ d _=>match P.underlying d with
   |some (.int _) => .read
   |some .string => .read
   |_ => .eff
 | .call c=>match c.callee with
   | .builtin .len | .builtin .max | .builtin .min => .read
   |_ => .eff
 |_ => .eff
def yP (o:Oper):List Tmp:=o.op.operands.toList.filterMap fun | .tmp t=>some t|_=>none
def guardTmp (ops:Array Oper) (o:Oper):List Tmp:=
 match o.guard with
 |some (j,_)=>((ops[j]?).bind (·.dst)).toList
 |none => []
def jC (ops:Array Oper) (o:Oper):List Tmp:=o.dst.toList++yP o++guardTmp ops o
def im (ops:Array Oper):Array Nat:=Region.before ops
def fP (m:Array Nat) (i j:Nat):Bool:=(m.getD i 0).testBit j
def lateGo (P:Program) (m:Array Nat):List (Nat×Oper)->List (Nat×Oper)->List (Nat×Oper)
 | [],pend=>pend
 |x::cU,pend=>
  if kindOf P x.2 = .alloc then lateGo P m cU (pend ++ [x])
  else pend.filter (fun a=>fP m x.1 a.1)++x::lateGo P m cU (pend.filter fun a => !fP m x.1 a.1)
def late0 (P:Program) (ops:Array Oper):List (Nat×Oper):=lateGo P (im ops) (ops.toList.zipIdx.map fun x=>(x.2,x.1)) []
def early (P:Program) (ops:Array Oper) (m:Array Nat) (x:Nat×Oper):Bool:=
 (kindOf P x.2 == .pure||kindOf P x.2 == .read)&&ops.toList.zipIdx.all fun y => !(fP m x.1 y.2)||kindOf P y.1 == .pure||kindOf P y.1 == .read
def late1 (P:Program) (ops:Array Oper):List (Nat×Oper):=
 let l:=ops.toList.zipIdx.map fun x=>(x.2,x.1)
 l.filter (early P ops (im ops))++lateGo P (im ops) (l.filter fun x => !early P ops (im ops) x) []
def kG (P:Program) (ops:Array Oper) (x y:Nat×Oper):Bool:=
 (match y.2.dst with|some t=>(jC ops x.2).contains t|none=>false) ||
 (match x.2.dst with|some t=>(jC ops y.2).contains t|none=>false) ||
 (kindOf P x.2 == .eff&&kindOf P y.2 == .eff) ||
 (kindOf P x.2 == .alloc&&kindOf P y.2 == .eff)
def clashS (P:Program) (ops:Array Oper) (x y:Nat×Oper):Bool:=kG P ops x y||(kindOf P x.2 == .alloc&&kindOf P y.2 == .read)
def th (r:(Nat×Oper)->(Nat×Oper)->Bool):List (Nat×Oper)->Bool
 | []=>true
 |x::cU=>cU.all (r x)&&th r cU
def tc (P:Program) (ops:Array Oper) (l:List (Nat×Oper)):Bool:=
 let m:=im ops
 l.length==ops.size &&
 l.all (fun x=>(ops[x.1]?).isSome&&(match x.2.guard with|some (j,_)=>fP m x.1 j|none=>true)) &&
 (ops.toList.zipIdx.all fun x=>x.1.after.all fun e => !Region.binds .any e||e.on<x.2) &&
 th (fun x y=>x.1 != y.1 && !fP m x.1 y.1&&(fP m y.1 x.1 || !kG P ops x y)) l
def statS (P:Program) (ops:Array Oper) (l:List (Nat×Oper)):Bool:=
 let m:=im ops
 l.length==ops.size &&
 l.all (fun x=>(ops[x.1]?).isSome&&(match x.2.guard with|some (j,_)=>fP m x.1 j|none=>true)) &&
 (ops.toList.zipIdx.all fun x=>x.1.after.all fun e => !Region.binds .any e||e.on<x.2) &&
 th (fun x y=>x.1 != y.1 && !fP m x.1 y.1&&(fP m y.1 x.1 || !clashS P ops x y)) l
def late (P:Program) (ops:Array Oper):List (Nat×Oper):=
 match statS P ops (late0 P ops) with
 |true=>late0 P ops
 |false=>late1 P ops
structure Tr1 where
 e:aX
 h:ai
 v:Value
 tg:Bool
def traceA (P:Program) (C:au) (ops:Array Oper):List (Nat×Oper)->aX->ai->Option (List Tr1×aX×ai)
 | [],e,h=>some ([],e,h)
 | (_,o)::cU,e,h=>
   if iZ ops o e then
    match opA P C o (ev e) h with
    |some (v,h')=>match traceA P C ops cU (putD e o.dst v) h' with
     |some (l,r)=>some (⟨e,h,v,true⟩::l,r)
     |none=>none
    |none=>none
   else
    match traceA P C ops cU (putD e o.dst undef) h with
    |some (l,r)=>some (⟨e,h,undef,false⟩::l,r)
    |none=>none
mutual
def rD:Value->Value->Bool
 | .bool a,.bool b=>a==b
 | .int k a,.int j b=>k==j&&a==b
 | .string a,.string b=>a.data==b.data
 | .pointer a,.pointer b=>a==b
 | .slice a l c,.slice b m d=>a==b&&l==m&&c==d
 | .map a,.map b=>a==b
 | .chan a,.chan b=>a==b
 | .nilFunc,.nilFunc=>true
 | .nilIface,.nilIface=>true
 | .float k a,.float j b=>k==j&&a==b
 | .complex k a b,.complex j c d=>k==j&&a==c&&b==d
 | .agg ⟨a⟩,.agg ⟨b⟩=>xa a b
 | .tuple ⟨a⟩,.tuple ⟨b⟩=>xa a b
 | .func f ⟨a⟩ ⟨b⟩,.func g ⟨c⟩ ⟨d⟩=>f==g&&xa a c&&xa b d
 | .iface t a,.iface u b=>t==u&&rD a b
 |_,_=>false
def xa:List Value->List Value->Bool
 | [],[]=>true
 |a::x,b::y=>rD a b&&xa x y
 |_,_=>false
end
def same (r:bc) (v:Value):Bool:=
 match r with
 |some (x,_)=>rD x v
 |none=>false
def ai.pad:Nat->ai->ai
 | 0,h=>h
 |c+1,h=>((ai.pad c h).alloc []).kill (ai.pad c h).next
def ai.plus (tg:Bool) (h a b:ai):ai:=
 if tg then match b.getB a.next with
  |some k=>(ai.pad (a.next-h.next) h).br k
  |none=>h
 else h
def madeIn (P:Program) (l:List (Nat×Oper)) (x:Nat×Nat):List Nat:=
 if x.2<x.1 then (List.range x.1).filter fun r=>decide (x.2<=r)&&match l[r]?,l[x.1]? with
  |some y,some z=>kindOf P y.2 == .alloc&&(match y.2.dst with|some t=>(yP z.2).contains t|none=>false)
  |_,_=>false
 else []
def tP (rs:List Bool) (hs:List ai) (h:ai) (r:Nat):ai:=
 match rs[r]?,hs[r]?,hs[r+1]? with
 |some q,some a,some b=>ai.plus q h a b
 |_,_,_=>h
def qm (rs:List Bool) (hs:List ai) (mk:List Nat) (i:Nat):Option ai:=(hs[i]?).map fun h=>mk.foldl (tP rs hs) h
def hard (P:Program) (y:Oper) (q p:Nat):Bool:=kindOf P y == .eff||(kindOf P y == .alloc&&Nat.blt q p)
def dynOk (P:Program) (C:au) (ops:Array Oper) (l:List (Nat×Oper)) (tr:List Tr1) (hEnd:ai):Bool:=
 let m:=im ops
 let hs:=tr.map (·.h) ++ [hEnd]
 let lt:=(l.zip tr).zipIdx
 lt.all fun x => !(kindOf P x.1.1.2 == .read&&x.1.2.tg) ||
   (l.zipIdx.filter fun y=>hard P y.1.2 y.2 x.2).all fun y=>fP m x.1.1.1 y.1.1||fP m y.1.1 x.1.1.1 ||
     match qm (tr.map (·.tg)) hs (madeIn P l (x.2,y.2)) (if y.2<x.2 then y.2 else y.2+1) with
     |some h=>same (opA P C x.1.1.2 (ev x.1.2.e) h) x.1.2.v
     |none=>false
def regionA (P:Program) (C:au) (ops:Array Oper) (draw:Bool) (e:aX) (h:ai):Option (aX×ai):=
 if draw then
  if tc P ops (late P ops) then
   match traceA P C ops (late P ops) e h with
   |some (tr,e',h')=>if dynOk P C ops (late P ops) tr h' then some (e',h') else none
   |none=>none
  else none
 else opsA P C ops ops.toList e h
def iter (step:aX->ai->Option (Ex×aX×ai)):Nat->aX->ai->Option (Ex×aX×ai)
 | 0,_,_=>none
 |n+1,e,h=>match step e h with
  |some (.normal,e',h')=>iter step n e' h'
  |r=>r
def aD:Nat:=18446744073709551616
def hasBody (P:Program) (i:FuncId):Bool:=
 match P.funcs[i]? with
 | some fn => fn.body.isSome && !(fn.name == "runtime.NumGoroutine")
 |none=>false
def endLoopA (l:Nat) (e:aX) (h:ai):Option (Ex×aX×ai):=
 match h.getB l with
 |some (.obj (.loop st pend tmps params assign body))=>
  if st = .busy then none else some (pend.getD .normal,e,h.setO l (.loop .exhausted pend tmps params assign body))
 |_=>none
def codeA (P:Program) (C:au):Code->aX->ai->Option (Ex×aX×ai)
 | .skip,e,h=>some (.normal,e,h)
 | .region _ ops draw,e,h=>match regionA P C ops draw e h with
   |some (e',h')=>some (.normal,e',h')
   |none=>none
 | .seq a b,e,h=>match codeA P C a e h with
   |some (.normal,e',h')=>codeA P C b e' h'
   |r=>r
 | .cond c a b,e,h=>match ev e c with
   | .bool true=>codeA P C a e h
   | .bool false=>codeA P C b e h
   |_=>none
 | .block id b,e,h=>match codeA P C b e h with
   |some (.exit i,e',h')=>some (if i=id then .normal else .exit i,e',h')
   |r=>r
 | .loop b,e,h=>iter (codeA P C b) aD e h
 | .exit i,e,h=>some (.exit i,e,h)
 | .scope b,e,h=>codeA P C b e h
 | .label _,e,h=>some (.normal,e,h)
 | .ret,e,h=>some (.ret,e,h)
 | .rangeFunc g params assign body,e,h=>
   match ev e g with
   | .func (.func i) first captured=>
     if hasBody P i=true then
      match C i (first.toList ++ [.func (.yield h.next) #[] #[]]++captured.toList) (h.br (.obj (.loop .ready none e params.toList assign body))) with
      |some (_,h2)=>endLoopA h.next e h2
      |none=>none
     else none
   |_=>none
 | .goto _,_,_=>none
 | .refuse _,_,_=>none
def gh (P:Program) (r:ResultVar) (e:aX) (h:ai):Option Value:=
 match r with
 | .tmp t=>some (e.getD t undef)
 | .cell a t=>(ld P t (e.getD a undef) h).map (·.1)
def resultsA (P:Program) (rs:List ResultVar) (e:aX) (h:ai):bc:=
 match rs with
 | [r]=>(gh P r e h).map fun v=>(v,h)
 |rs=>(rs.mapM fun r=>gh P r e h).map fun vs=>(.tuple vs.toArray,h)
def bodyA (P:Program) (C:au) (fn:Func) (args:List Value) (h:ai):bc:=
 match fn.body with
 |none=>none
 |some c=>match codeA P C c (args++List.replicate (fn.ntmps-args.length) undef) h with
  |some (.normal,e,h')|some (.ret,e,h')=>resultsA P fn.results.toList e h'
  |_=>none
def zX (P:Program):Operand->Bool
 | .const v=>flat v
 | .global g=>g<P.globals.size
 |_=>true
def oF (P:Program) (o:Oper):Bool:=o.op.operands.toList.all (zX P)
def codeOk (P:Program):Code->Bool
 | .skip | .exit _ | .label _ | .ret=>true
 | .region _ ops _=>ops.toList.all (oF P)
 | .seq a b=>codeOk P a&&codeOk P b
 | .cond c a b=>zX P c&&codeOk P a&&codeOk P b
 | .block _ b | .loop b | .scope b=>codeOk P b
 | .rangeFunc g _ _ _=>zX P g
 | .goto _ | .refuse _=>false
def fo:aX->List (Tmp×Value)->aX
 |e,[]=>e
 |e,(t,v)::l=>fo (e.set t v) l
def ff (l:Nat) (x:Ex) (h:ai):bc:=
 match h.getB l with
 |some (.obj (.loop _ _ tmps params assign body))=>
  some (.bool (x == .normal),h.setO l (.loop (if x = .normal then .ready else .done) (if x = .normal then none else some x) tmps params assign body))
 |_=>none
def roundA (P:Program) (C:au) (l:Nat) (args:List Value) (h:ai):bc:=
 match h.getB l with
 |some (.obj (.loop _ _ tmps params assign body))=>
  if args.length=params.length/\codeOk P assign=true/\codeOk P body=true then
   match codeA P C assign (fo tmps (params.zip args)) h with
   |some (.normal,e1,h1)=>match h1.getB l with
    |some (.obj (.loop .ready p1 t1 q1 a1 b1))=>
     match codeA P C body e1 (h1.setO l (.loop .busy p1 t1 q1 a1 b1)) with
     |some (x,_,h2)=>ff l x h2
     |none=>none
    |_=>none
   |_=>none
  else none
 |_=>none
section
theorem Tr.qo : ∀ (f:Nat) (t:Tr) (n:Nat) (x:Option BB) (m:Nat),n<f->(Tr.setF f t n x).get m=if m=n then x else t.get m
 | 0,_,_,_,_,h=>by omega
 |f+1,.nil,n,x,m,h=>by
  unfold Tr.setF;by_cases h0:n=0
  ·subst h0;simp only [EA,Tr.get];by_cases hm:m=0
   ·simp [hm]
   ·simp [hm]
  ·rw [DM h0];by_cases h1:n%2=1
   ·rw [DL h1];simp only [Tr.get];by_cases hm:m=0
    ·have : ¬m=n:=by omega
     simp [hm,JX h0]
    ·rw [DM hm];by_cases hm1:m%2=1
     ·rw [DL hm1,Tr.qo f .nil (n/2) x (m/2) (by omega)];by_cases e:m=n
      ·subst e;simp
      ·rw [DM e,DM (by omega)];simp [Tr.get]
     ·rw [DM hm1,DM (by intro e;subst e;exact hm1 h1)]
   ·rw [DM h1];simp only [Tr.get];by_cases hm:m=0
    ·simp [hm,JX h0]
    ·rw [DM hm];by_cases hm1:m%2=1
     ·rw [DL hm1,DM (by intro e;subst e;exact h1 hm1)]
     ·rw [DM hm1,Tr.qo f .nil (n/2-1) x (m/2-1) (by omega)];by_cases e:m=n
      ·subst e;simp
      ·rw [DM e,DM (by omega)];simp [Tr.get]
 |f+1,.node l v r,n,x,m,h=>by
  unfold Tr.setF;by_cases h0:n=0
  ·subst h0;simp only [EA,Tr.get];by_cases hm:m=0
   ·simp [hm]
   ·simp [hm]
  ·rw [DM h0];by_cases h1:n%2=1
   ·rw [DL h1];simp only [Tr.get];by_cases hm:m=0
    ·simp [hm,JX h0]
    ·rw [DM hm];by_cases hm1:m%2=1
     ·rw [DL hm1,Tr.qo f l (n/2) x (m/2) (by omega),DM hm,DL hm1];by_cases e:m=n
      ·subst e;simp
      ·rw [DM e,DM (by omega)]
     ·rw [DM hm1,DM (by intro e;subst e;exact hm1 h1),DM hm,DM hm1]
   ·rw [DM h1];simp only [Tr.get];by_cases hm:m=0
    ·simp [hm,JX h0]
    ·rw [DM hm];by_cases hm1:m%2=1
     ·rw [DL hm1,DM (by intro e;subst e;exact h1 hm1),DM hm,DL hm1]
     ·rw [DM hm1,Tr.qo f r (n/2-1) x (m/2-1) (by omega),DM hm,DM hm1];by_cases e:m=n
      ·subst e;simp
      ·rw [DM e,DM (by omega)]
theorem Tr.oP (t:Tr) (n:Nat) (x:Option BB) (m:Nat):(t.set n x).get m=if m=n then x else t.get m:=
 Tr.qo _ _ _ _ _ (by omega)
section
variable (h:ai)
@[simp] theorem ai.next_put (b : Nat) (x : Option BB) : (h.put b x).next = h.next := rfl
@[simp] theorem ai.next_set (b : Nat) (x : ju) : (h.set b x).next = h.next := rfl
@[simp] theorem ai.fU (b : Nat) : (h.kill b).next = h.next := rfl
@[simp] theorem ai.gF (x : BB) : (h.br x).next = h.next + 1 := rfl
@[simp] theorem ai.uS (x : BB) : (h.br x).n0 = h.n0 := rfl
@[simp] theorem ai.old_allocB (x : BB) : (h.br x).old = h.old := rfl
@[simp] theorem ai.cO (x : ju) : (h.alloc x).next = h.next + 1 := rfl
@[simp] theorem ai.n0_put (b : Nat) (x : Option BB) : (h.put b x).n0 = h.n0 := rfl
@[simp] theorem ai.Ci (b : Nat) (x : ju) : (h.set b x).n0 = h.n0 := rfl
@[simp] theorem ai.n0_kill (b : Nat) : (h.kill b).n0 = h.n0 := rfl
@[simp] theorem ai.n0_alloc (x : ju) : (h.alloc x).n0 = h.n0 := rfl
@[simp] theorem ai.old_put (b : Nat) (x : Option BB) : (h.put b x).old = h.old := rfl
@[simp] theorem ai.old_set (b : Nat) (x : ju) : (h.set b x).old = h.old := rfl
@[simp] theorem ai.kQ (b : Nat) (x : fN) : (h.setO b x).next = h.next := rfl
@[simp] theorem ai.Cp (b : Nat) (x : fN) : (h.setO b x).n0 = h.n0 := rfl
@[simp] theorem ai.old_setO (b : Nat) (x : fN) : (h.setO b x).old = h.old := rfl
@[simp] theorem ai.old_kill (b : Nat) : (h.kill b).old = h.old := rfl
@[simp] theorem ai.old_alloc (x : ju) : (h.alloc x).old = h.old := rfl
theorem ai.n0_le_next:h.n0<=h.next:=H9 _ _
theorem ai.bO (x:BB) (c:Nat):(h.br x).getB c=if c=h.next then some x else h.getB c:=by
 unfold ai.getB ai.br ai.next;dsimp only;by_cases h1:c<h.n0
 ·simp only [h1,EA];rw [DM (by omega)]
 ·rw [DM h1,DM h1];by_cases h2:c=h.n0+h.cnt
  ·subst h2;simp [Tr.oP]
  ·rw [DM h2];by_cases h3:c<h.n0+h.cnt
   ·rw [DL (by omega),DL h3,Tr.oP,DM (by omega)]
   ·rw [DM (by omega),DM h3]
theorem ai.cN (x:ju) (c:Nat):(h.alloc x).getB c=if c=h.next then some (.cells x) else h.getB c:=h.bO _ _
theorem ai.aN (x:ju) (c:Nat):(h.alloc x).get c=if c=h.next then some x else h.get c:=by unfold ai.get;rw [h.cN];split<;>rfl
theorem ai.cT {b:Nat} (hb:h.n0<=b) (hn:b<h.next) (x:Option BB) (c:Nat):(h.put b x).getB c=if c=b then x else h.getB c:=by
 unfold ai.next at hn;unfold ai.getB ai.put;dsimp only;by_cases h1:c<h.n0
 ·rw [DL h1,DL h1,DM (by omega)]
 ·rw [DM h1,DM h1];by_cases h3:c<h.n0+h.cnt
  ·rw [DL h3,DL h3,Tr.oP];by_cases h2:c=b
   ·subst h2;simp
   ·rw [DM h2,DM (by omega)]
  ·rw [DM h3,DM h3,DM (by omega)]
theorem ai.xF {b:Nat} (hb:h.n0<=b) (hn:b<h.next) (x:Option BB) (c:Nat):(h.put b x).get c=if c=b then x.bind BB.blk else h.get c:=by unfold ai.get;rw [h.cT hb hn];split<;>rfl
theorem ai.lt_of_getB {b:Nat} {k:BB} (hg:h.getB b=some k):b<h.next:=by
 unfold ai.getB at hg;unfold ai.next;split at hg
 ·omega
 ·split at hg
  ·omega
  ·cases hg
theorem ai.bg {b:Nat} {k:ju} (hg:h.get b=some k):h.getB b=some (.cells k):=by
 unfold ai.get at hg;cases hb:h.getB b with
 |none=>rw [hb] at hg;cases hg
 |some x=>
  rw [hb] at hg;cases x with
  |cells k'=>cases hg;rfl
  |obj o=>cases hg
theorem ai.get_of_getB {b:Nat} {k:ju} (hg:h.getB b=some (.cells k)):h.get b=some k:=by unfold ai.get;rw [hg];rfl
theorem ai.aO {b:Nat} {k:ju} (hg:h.get b=some k):b<h.next:=h.lt_of_getB (h.bg hg)
end
theorem ai.dZ {h:ai} {b:Nat} {k:ju} (hb:h.n0<=b) (hg:h.get b=some k) (x:ju):(h.set b x).get b=some x:=by unfold ai.set;rw [h.xF hb (h.aO hg),DL rfl];rfl
theorem ai.Aw {h:ai} {b c:Nat} (hb:h.n0<=b) (hn:b<h.next) (x:ju) (hc:c≠b):(h.set b x).get c=h.get c:=by unfold ai.set;rw [h.xF hb hn];simp [hc]
theorem ai.A0 {h:ai} {b:Nat} {k:ju} (hb:h.n0<=b) (hg:h.get b=some k) (x:ju):(h.set b x).getB b=some (.cells x):=by unfold ai.set;rw [h.cT hb (h.aO hg),DL rfl]
theorem ai.jo {h:ai} {b c:Nat} (hb:h.n0<=b) (hn:b<h.next) (x:ju) (hc:c≠b):(h.set b x).getB c=h.getB c:=by unfold ai.set;rw [h.cT hb hn,DM hc]
theorem ai.iU {h:ai} {b:Nat} {k:BB} (hb:h.n0<=b) (hg:h.getB b=some k) (x:fN):(h.setO b x).getB b=some (.obj x):=by unfold ai.setO;rw [h.cT hb (h.lt_of_getB hg),DL rfl]
theorem ai.eN {h:ai} {b c:Nat} (hb:h.n0<=b) (hn:b<h.next) (x:fN) (hc:c≠b):(h.setO b x).getB c=h.getB c:=by unfold ai.setO;rw [h.cT hb hn,DM hc]
theorem ai.bE {h:ai} {b:Nat} {o:fN} (hg:h.getB b=some (.obj o)):h.n0<=b:=by
 unfold ai.getB at hg;split at hg
 ·simp only [DQ] at hg;obtain ⟨_,_,h2⟩:=hg;cases h2
 ·omega
theorem ai.sL {h:ai} {b:Nat} {o:fN} (hg:h.getB b=some (.obj o)):h.get b=none:=by unfold ai.get;rw [hg];rfl
theorem ai.ug {h:ai} {b:Nat} {o:fN} (hg:h.getB b=some (.obj o)) (x:fN) (c:Nat):(h.setO b x).get c=h.get c:=by
 by_cases e:c=b
 ·subst e;rw [ai.sL (h.iU (h.bE hg) hg x),h.sL hg]
 ·unfold ai.get;rw [h.eN (h.bE hg) (h.lt_of_getB hg) x e]
theorem ai.vT {h:ai} {b:Nat} {k:BB} (hg:h.getB b=some k) (x:BB):(h.br x).getB b=some k:=by rw [h.bO,DM (by have:=h.lt_of_getB hg;omega)];exact hg
theorem ai.qi {h:ai} {b:Nat} {k:ju} (hg:h.get b=some k) (x:ju):(h.alloc x).get b=some k:=by rw [h.aN,DM (by have:=h.aO hg;omega)];exact hg
structure xj where
 blk:Nat
 off:Nat
 ext:Nat
 len:Nat
abbrev Mu:=Nat->Option xj
def FRel (μ:Mu):Fn->Fn->Prop
 | .yield l,g => ∃ L,μ l=some L/\g = .yield L.blk
 |f,g=>g=f
theorem FRel.mono {μ μ':Mu} {f g:Fn} (h:FRel μ f g) (hm : ∀ b L,μ b=some L->μ' b=some L):FRel μ' f g:=by
 cases f with
 |yield l=>obtain ⟨L,h1,h2⟩:=h;exact ⟨L,hm _ _ h1,h2⟩
 |_=>exact h
theorem FRel.func {μ:Mu} {i:FuncId}:FRel μ (.func i) (.func i):=rfl
inductive aI (μ:Mu):Value->Value->Prop
 |flat {v:Value} (h:flat v=true):aI μ v v
 |ptr {b off:Nat} {L:xj} (h:μ b=some L):aI μ (.pointer (some ⟨b,off,none⟩)) (.pointer (some ⟨L.blk,L.off+off,none⟩))
 |slice {b off len cap:Nat} {L:xj} (h:μ b=some L):aI μ (.slice (some ⟨b,off,none⟩) len cap) (.slice (some ⟨L.blk,L.off+off,none⟩) len cap)
 |vx {b off len cap cap' s:Nat} {L:xj} (h:μ b=some L) (hl:len<=cap) (hc:cap<=cap') (hm:cap'<=maxLen) (h1:off+cap*s=L.len)
   (h2:L.off+off+cap'*s<=L.ext):aI μ (.slice (some ⟨b,off,some s⟩) len cap) (.slice (some ⟨L.blk,L.off+off,none⟩) len cap')
 |jD {b off s O:Nat} {L:xj} (h:μ b=some L):aI μ (.slice (some ⟨b,off,some s⟩) 0 0) (.slice (some ⟨L.blk,O,none⟩) 0 0)
 |map {b:Nat} {L:xj} (h:μ b=some L):aI μ (.map (some b)) (.map (some L.blk))
 |zu {b off:Nat} {a:Addr}:aI μ (.slice (some ⟨b,off,some 0⟩) 0 0) (.slice (some a) 0 0)
 |agg {xs ys:Array Value} (hs:xs.size=ys.size) (h : ∀ (i:Nat) (x y:Value),xs[i]? = some x->ys[i]? = some y->aI μ x y):aI μ (.agg xs) (.agg ys)
 |tuple {xs ys:Array Value} (hs:xs.size=ys.size) (h : ∀ (i:Nat) (x y:Value),xs[i]? = some x->ys[i]? = some y->aI μ x y):aI μ (.tuple xs) (.tuple ys)
 |func {f g:Fn} {a b c d:Array Value} (hf:FRel μ f g) (h1:a.size=b.size) (h2 : ∀ (i:Nat) (x y:Value),a[i]? = some x->b[i]? = some y->aI μ x y)
   (h3:c.size=d.size) (h4 : ∀ (i:Nat) (x y:Value),c[i]? = some x->d[i]? = some y->aI μ x y):aI μ (.func f a c) (.func g b d)
 |iface {t:TypeId} {x y:Value} (h:aI μ x y):aI μ (.iface t x) (.iface t y)
theorem aI.undef (μ:Mu):aI μ undef undef := .tuple rfl (by intro i x y h;simp at h)
theorem aI.mono {μ μ':Mu} {v v':Value} (h:aI μ v v') (hm : ∀ b L,μ b=some L->μ' b=some L):aI μ' v v':=by
 induction h with
 |flat h=>exact .flat h
 |ptr h=>exact .ptr (hm _ _ h)
 |slice h=>exact .slice (hm _ _ h)
 |vx h hl hc hx h1 h2=>exact .vx (hm _ _ h) hl hc hx h1 h2
 |jD h=>exact .jD (hm _ _ h)
 |map h=>exact .map (hm _ _ h)
 |zu=>exact .zu
 |agg hs _ ih=>exact .agg hs ih
 |tuple hs _ ih=>exact .tuple hs ih
 |func hf h1 _ h3 _ i1 i2=>exact .func (hf.mono hm) h1 i1 h3 i2
 |iface _ ih=>exact .iface ih
def aR (μ:Mu) (xs ys:List Value):Prop:=xs.length=ys.length /\ ∀ (i:Nat) (x y:Value),xs[i]? = some x->ys[i]? = some y->aI μ x y
theorem aR.mono {μ μ':Mu} {v v':List Value} (h:aR μ v v') (hm : ∀ b L,μ b=some L->μ' b=some L):aR μ' v v':=
 ⟨h.1,fun i x y hx hy=>(h.2 i x y hx hy).mono hm⟩
theorem aR.nil (μ:Mu):aR μ [] []:=⟨rfl,by simp⟩
theorem aR.cons {μ:Mu} {x y:Value} {xs ys:List Value} (h:aI μ x y) (ht:aR μ xs ys):aR μ (x::xs) (y::ys):=by
 refine ⟨by simp [ht.1],fun i a b ha hb => ?_⟩;cases i with
 |zero=>simp at ha hb;subst ha hb;exact h
 |succ i=>simp at ha hb;exact ht.2 i a b ha hb
theorem aR.head {μ:Mu} {x y:Value} {xs ys:List Value} (h:aR μ (x::xs) (y::ys)):aI μ x y:=h.2 0 x y rfl rfl
theorem aR.tail {μ:Mu} {x y:Value} {xs ys:List Value} (h:aR μ (x::xs) (y::ys)):aR μ xs ys:=
 ⟨by have:=h.1;simpa using this,fun i a b ha hb=>h.2 (i+1) a b ha hb⟩
theorem aR.get {μ:Mu} {xs ys:List Value} (h:aR μ xs ys) {i:Nat} {x:Value} (hx:xs[i]? = some x) : ∃ y,ys[i]? = some y/\aI μ x y:=by
 have hi:i<ys.length:=by rw [<-h.1];exact (EV.1 hx).1
 exact ⟨ys[i],DB hi,h.2 i x _ hx (DB hi)⟩
theorem aR.getD {μ:Mu} {xs ys:List Value} (h:aR μ xs ys) (i:Nat):aI μ (xs.getD i Go.undef) (ys.getD i Go.undef):=by
 rw [DJ,DJ];cases hx:xs[i]? with
 |none=>
  have:ys[i]? = none:=by rw [I9] at hx |-;rw [<-h.1];exact hx
  rw [this];exact aI.undef μ
 |some x=>
  obtain ⟨y,hy,hv⟩:=h.get hx;rw [hy];exact hv
theorem aR.append {μ:Mu} {a b c d:List Value} (h:aR μ a b) (k:aR μ c d):aR μ (a++c) (b++d):=by
 refine ⟨by simp [h.1,k.1],fun i x y hx hy => ?_⟩;by_cases hi:i<a.length
 ·rw [E9 hi] at hx;rw [E9 (h.1▸hi)] at hy;exact h.2 i x y hx hy
 ·rw [EH (by omega)] at hx;rw [EH (by rw [<-h.1];omega),<-h.1] at hy;exact k.2 _ x y hx hy
theorem aR.take {μ:Mu} {a b:List Value} (h:aR μ a b) (n:Nat):aR μ (a.take n) (b.take n):=by
 refine ⟨by simp [h.1],fun i x y hx hy => ?_⟩;rw [FK] at hx hy;split at hx
 ·rename_i hi;rw [DL hi] at hy;exact h.2 i x y hx hy
 ·cases hx
theorem aR.drop {μ:Mu} {a b:List Value} (h:aR μ a b) (n:Nat):aR μ (a.drop n) (b.drop n):=by refine ⟨by simp [h.1],fun i x y hx hy => ?_⟩;rw [FL] at hx hy;exact h.2 _ x y hx hy
theorem aR.splice {μ:Mu} {a b c d:List Value} (h:aR μ a b) (k:aR μ c d) (off:Nat):aR μ (splice a off c) (splice b off d):=by unfold Abs.splice;rw [<-k.1];exact ((h.take off).append k).append (h.drop _)
theorem aR.set {μ:Mu} {a b:List Value} (h:aR μ a b) (n:Nat) {x y:Value} (hv:aI μ x y):aR μ (a.set n x) (b.set n y):=by
 refine ⟨by simp [h.1],fun i u v hu hv' => ?_⟩;rw [HG] at hu hv';by_cases e:n=i
 ·subst e;simp only [EA] at hu hv';split at hu
  ·rename_i hl;simp only [DA] at hu;rw [DL (h.1▸hl)] at hv';simp only [DA] at hv';subst hu hv';exact hv
  ·cases hu
 ·rw [DM e] at hu hv';exact h.2 i u v hu hv'
theorem aR.replicate (μ:Mu) (n:Nat) {x y:Value} (hv:aI μ x y):aR μ (List.replicate n x) (List.replicate n y):=by
 refine ⟨by simp,fun i u v hu hv' => ?_⟩;simp only [GY] at hu hv';split at hu
 ·rename_i hi;rw [DL hi] at hv';simp at hu hv';subst hu hv';exact hv
 ·cases hu
theorem aR.jU {μ:Mu} {l:List Value} (h:bI l=true):aR μ l l:=by refine ⟨rfl,fun i x y hx hy => ?_⟩;rw [hx] at hy;cases hy;have:=E3 hx;exact .flat (DR.1 h x this)
theorem aI.xr {μ:Mu} {xs:Array Value} {v:Value} (h:aI μ (.agg xs) v) : ∃ ys,v = .agg ys/\aR μ xs.toList ys.toList:=by
 cases h with
 |flat h=>simp [Abs.flat] at h
 |agg hs h=>exact ⟨_,rfl,by simpa using hs,fun i x y hx hy=>h i x y (by simpa using hx) (by simpa using hy)⟩
theorem aI.Bp {μ:Mu} {xs:Array Value} {v:Value} (h:aI μ (.tuple xs) v) : ∃ ys,v = .tuple ys/\aR μ xs.toList ys.toList:=by
 cases h with
 |flat h=>simp [Abs.flat] at h
 |tuple hs h=>exact ⟨_,rfl,by simpa using hs,fun i x y hx hy=>h i x y (by simpa using hx) (by simpa using hy)⟩
theorem aI.gO {μ:Mu} {xs ys:List Value} (h:aR μ xs ys):aI μ (.agg xs.toArray) (.agg ys.toArray):=
 .agg (by simpa using h.1) (fun i x y hx hy=>h.2 i x y (by simpa using hx) (by simpa using hy))
theorem aI.de {μ:Mu} {xs ys:List Value} (h:aR μ xs ys):aI μ (.tuple xs.toArray) (.tuple ys.toArray):=
 .tuple (by simpa using h.1) (fun i x y hx hy=>h.2 i x y (by simpa using hx) (by simpa using hy))
theorem aI.bM {μ:Mu} {x v:Value} (h:aI μ x v) (hf:Abs.flat x=true):v=x:=by
 cases h with
 |flat _=>rfl
 |func hg h1 _ h3 _=>
  rename_i f g a b c d _ _;cases f<;>simp [Abs.flat] at hf;cases hg;obtain ⟨ha,hc⟩:=hf;subst ha hc;have hb:b = #[]:=Array.eq_empty_of_size_eq_zero (by simpa using h1.symm);have hd:d = #[]:=Array.eq_empty_of_size_eq_zero (by simpa using h3.symm);rw [hb,hd]
 |_=>simp [Abs.flat] at hf
theorem aR.bM {μ:Mu} {xs ys:List Value} (h:aR μ xs ys) (hf:bI xs=true):ys=xs:=by
 apply FU;intro i;cases hx:xs[i]? with
 |none=>rw [I9] at hx |-;rw [<-h.1];exact hx
 |some x=>
  obtain ⟨y,hy,hv⟩:=h.get hx;rw [hy,hv.bM (DR.1 hf x (E3 hx))]
theorem aI.fi {μ:Mu} {x v:Value} (h:aI μ x v) (hf:ground x=true):v=x:=by
 cases x with
 |agg cs=>
  obtain ⟨ys,rfl,hl⟩:=h.xr;have:=hl.bM (by simpa [ground] using hf);rw [Array.toList_inj] at this;rw [this]
 |_=>exact h.bM (by simpa [ground] using hf)
theorem aI.int {μ:Mu} {k:IntKind} {n:Int} {v:Value} (h:aI μ (.int k n) v):v = .int k n:=h.bM rfl
theorem aI.bool {μ:Mu} {n:Bool} {v:Value} (h:aI μ (.bool n) v):v = .bool n:=h.bM rfl
theorem aI.cells {μ:Mu} {x y:Value} (h:aI μ x y):aR μ x.cells.toList y.cells.toList:=by
 cases h with
 |agg hs h=>exact ⟨by simpa [Value.cells] using hs,fun i a b ha hb=>h i a b (by simpa [Value.cells] using ha) (by simpa [Value.cells] using hb)⟩
 |flat h=>
  cases x<;>first|exact aR.cons (.flat h) (aR.nil μ)|(simp [Abs.flat] at h)
 |ptr h=>exact aR.cons (.ptr h) (aR.nil μ)
 |slice h=>exact aR.cons (.slice h) (aR.nil μ)
 |vx h a b c d e=>exact aR.cons (.vx h a b c d e) (aR.nil μ)
 |jD h=>exact aR.cons (.jD h) (aR.nil μ)
 |map h=>exact aR.cons (.map h) (aR.nil μ)
 |zu=>exact aR.cons .zu (aR.nil μ)
 |tuple a b=>exact aR.cons (.tuple a b) (aR.nil μ)
 |func f a b c d=>exact aR.cons (.func f a b c d) (aR.nil μ)
 |iface a=>exact aR.cons (.iface a) (aR.nil μ)
theorem aI.oneCell {μ:Mu} {x y:Value} (h:aI μ x y):y.oneCell'=x.oneCell':=by cases h<;>simp [Value.oneCell']
theorem aR.aM {μ:Mu} {xs ys:List Value} (h:aR μ xs ys) (ho:aM xs=true) : ∀ u∈ys,u.oneCell'=true:=by
 intro u hu;obtain ⟨i,hi⟩:=JQ hu;have hl:i<xs.length:=by rw [h.1];exact (EV.1 hi).1
 have hx:xs[i]? = some xs[i]:=DB hl;have:=h.2 i _ _ hx hi;rw [this.oneCell];exact DR.1 ho _ (EL hl)
def oH (μ:Mu) (xs ys:List Value):Prop:=xs.length=ys.length /\ ∀ (i:Nat) (x y:Value),xs[i]? = some x->ys[i]? = some y->eK x=false->aI μ x y
theorem aR.toC {μ:Mu} {a b:List Value} (h:aR μ a b):oH μ a b:=⟨h.1,fun i x y hx hy _=>h.2 i x y hx hy⟩
theorem oH.mono {μ μ':Mu} {v v':List Value} (h:oH μ v v') (hm : ∀ b L,μ b=some L->μ' b=some L):oH μ' v v':=
 ⟨h.1,fun i x y hx hy hh=>(h.2 i x y hx hy hh).mono hm⟩
theorem oH.get {μ:Mu} {xs ys:List Value} (h:oH μ xs ys) {i:Nat} {x:Value} (hx:xs[i]? = some x) (hh:eK x=false) : ∃ y,ys[i]? = some y/\aI μ x y:=by
 have hi:i<ys.length:=by rw [<-h.1];exact (EV.1 hx).1
 exact ⟨ys[i],DB hi,h.2 i x _ hx (DB hi) hh⟩
theorem oH.take {μ:Mu} {a b:List Value} (h:oH μ a b) (n:Nat):oH μ (a.take n) (b.take n):=by
 refine ⟨by simp [h.1],fun i x y hx hy => ?_⟩;rw [FK] at hx hy;split at hx
 ·rename_i hi;rw [DL hi] at hy;exact h.2 i x y hx hy
 ·cases hx
theorem oH.drop {μ:Mu} {a b:List Value} (h:oH μ a b) (n:Nat):oH μ (a.drop n) (b.drop n):=by refine ⟨by simp [h.1],fun i x y hx hy => ?_⟩;rw [FL] at hx hy;exact h.2 _ x y hx hy
theorem oH.full {μ:Mu} {a b:List Value} (h:oH μ a b) (hn:noHoles a=true):aR μ a b:=
 ⟨h.1,fun i x y hx hy=>h.2 i x y hx hy (by have:=DR.1 hn x (E3 hx);simpa using this)⟩
def Holds (μ:Mu) (w:World) (n0:Nat) (b:Nat) (k:ju):Prop:=
 ∃ L arr T fr,μ b=some L/\L.len=k.length/\w.heap[L.blk]? = some (.cells arr T fr)/\arr.size=L.ext/\L.off+L.len<=L.ext /\
   (fr.1=fr.2\/arr.size<=fr.1)/\n0<=L.blk/\aR μ k ((arr.toList.drop L.off).take L.len)
def Cj:Ex->Code
 | .normal => .skip
 | .ret => .ret
 | .exit i => .exit i
def qv (μ:Mu):fN->Obj->Prop
 | .map es c,.map es' c'=>c=c'/\es.length=es'.size /\ ∀ (i:Nat) (x:Value×Value×Nat) (e:MapEntry),es[i]? = some x->es'[i]? = some e->aI μ x.1 e.key/\aI μ x.2.1 e.val/\x.2.2=e.born
 | .iter m since seen st,.mapIter m' since' seen' st'=>(match m,m' with|none,none=>True|some a,some B => ∃ L,μ a=some L/\L.blk=B|_,_=>False)/\since=since'/\seen=seen'.toList/\st=st'
 | .loop st pend tmps params assign body,.loop r=>r.state=st/\r.pending=pend.map Cj/\aR μ tmps r.tmps.toList/\r.params.toList=params/\r.assign=assign/\r.body=body
 |_,_=>False
theorem qv.mono {μ μ':Mu} {o:fN} {ob:Obj} (h:qv μ o ob) (hm : ∀ b L,μ b=some L->μ' b=some L):qv μ' o ob:=by
 cases o with
 |map es c=>
  cases ob with
  |map es' c'=>
   obtain ⟨h1,h2,h3⟩:=h;exact ⟨h1,h2,fun i x e hx he=>⟨(h3 i x e hx he).1.mono hm,(h3 i x e hx he).2.1.mono hm,(h3 i x e hx he).2.2⟩⟩
  |_=>exact h.elim
 |iter m since seen st=>
  cases ob with
  |mapIter m' since' seen' st'=>
   obtain ⟨h1,h2⟩:=h;refine ⟨?_,h2⟩;cases m with
   |none=>cases m' with
    |none=>trivial
    |some B=>exact h1
   |some a=>
    cases m' with
    |none=>exact h1
    |some B=>
     obtain ⟨L,h3,h4⟩:=h1;exact ⟨L,hm _ _ h3,h4⟩
  |_=>exact h.elim
 |loop st pend tmps params assign body=>
  cases ob with
  |loop r=>
   obtain ⟨h1,h2,h3,h4⟩:=h;exact ⟨h1,h2,h3.mono hm,h4⟩
  |_=>exact h.elim
def HoldsO (μ:Mu) (w:World) (n0:Nat) (b:Nat) (o:fN):Prop := ∃ L ob,μ b=some L/\w.heap[L.blk]? = some ob/\qv μ o ob/\n0<=L.blk/\L.off=0
structure cI (μ:Mu) (h:ai) (w:World):Prop where
 old : ∀ b cs,b<h.n0->h.old b=some cs -> ∃ L arr T fr,μ b=some L/\L.blk=b/\L.off=0/\w.heap[b]? = some (.cells arr T fr)/\oH μ cs (arr.toList.take cs.length)
 new : ∀ b k,h.n0<=b->h.get b=some k->Holds μ w h.n0 b k
 obj : ∀ b o,h.n0<=b->h.getB b=some (.obj o)->HoldsO μ w h.n0 b o
 inj : ∀ b b' k k' L L',h.n0<=b->h.n0<=b'->b≠b'->h.getB b=some k->h.getB b'=some k'->μ b=some L->μ b'=some L'->L.blk≠L'.blk
 size:h.n0<=w.heap.size
 low : ∀ b,b<h.n0 -> ∃ L,μ b=some L/\L.blk=b/\L.off=0
def AN (μ:Mu) (h:ai) (B:Nat):Prop := ∃ b k L,h.n0<=b/\h.getB b=some k/\μ b=some L/\L.blk=B
structure cH (μ:Mu) (h:ai) (w:World) (μ':Mu) (h':ai) (w':World):Prop where
 ext : ∀ b,b<h.next\/h'.next<=b->μ' b=μ b
 n0:h'.n0=h.n0
 old:h'.old=h.old
 next:h.next<=h'.next
 os:w'.os=w.os
 tape:w'.tape=w.tape
 output:w'.output=w.output
 size:w.heap.size<=w'.heap.size
 same : ∀ B,B<w.heap.size -> ¬AN μ h B->w'.heap[B]? = w.heap[B]?
 own : ∀ B,AN μ' h' B->AN μ h B\/w.heap.size<=B
 loops : ∀ (B:Nat) (r:Loop),w.heap[B]? = some (Obj.loop r) -> ∃ r',w'.heap[B]? = some (Obj.loop r')
 drawn:w.drawn<=w'.drawn
def fK (μ:Mu) (h h':ai):Prop := ∀ b,h.next<=b->b<h'.next->μ b=none
theorem cH.refl {μ:Mu} {h:ai} {w w':World} (ho:w'.os=w.os) (ht:w'.tape=w.tape) (hp:w'.output=w.output) (hh:w'.heap=w.heap) (hd:w.drawn<=w'.drawn:=by first|exact DD _|exact HZ _):cH μ h w μ h w':=
 ⟨fun _ _=>rfl,rfl,rfl,DD _,ho,ht,hp,by rw [hh];exact DD _,fun B _ _=>by rw [hh],fun B hB => .inl hB,fun B r hB=>⟨r,by rw [hh];exact hB⟩,hd⟩
theorem cH.cj {μ:Mu} {h:ai} {w:World}:cH μ h w μ h w:=cH.refl rfl rfl rfl rfl
theorem cH.trans {μ μ' μ'':Mu} {h h' h'':ai} {w w' w'':World} (a:cH μ h w μ' h' w') (b:cH μ' h' w' μ'' h'' w''):cH μ h w μ'' h'' w'' where
 ext c hc:=by have h1:=a.next;have h2:=b.next;rw [b.ext c (by omega),a.ext c (by omega)]
 n0:=b.n0.trans a.n0
 old:=b.old.trans a.old
 next:=D7 a.next b.next
 os:=b.os.trans a.os
 tape:=b.tape.trans a.tape
 output:=b.output.trans a.output
 size:=D7 a.size b.size
 same B hB hO:=by rw [b.same B (EJ hB a.size) (fun h1=>(a.own B h1).elim hO (fun h2=>by omega))];exact a.same B hB hO
 own B hB:=(b.own B hB).elim (fun h1=>a.own B h1) (fun h1 => .inr (D7 a.size h1))
 loops B r hB:=by obtain ⟨r1,h1⟩:=a.loops B r hB;exact b.loops B r1 h1
 drawn:=D7 a.drawn b.drawn
theorem cH.mono {μ μ':Mu} {h h':ai} {w w':World} (s:cH μ h w μ' h' w') (hf:fK μ h h') : ∀ b L,μ b=some L->μ' b=some L:=by
 intro b L hb;by_cases hl:b<h.next\/h'.next<=b
 ·rw [s.ext b hl];exact hb
 ·rw [hf b (by omega) (by omega)] at hb;cases hb
theorem fK.first {μ:Mu} {h h' h'':ai} (hf:fK μ h h'') (hn:h'.next<=h''.next):fK μ h h':=fun b h1 h2=>hf b h1 (EJ h2 hn)
theorem fK.jJ {μ μ':Mu} {h h' h'':ai} {w w':World} (hf:fK μ h h'') (s:cH μ h w μ' h' w'):fK μ' h' h'':=fun b h1 h2=>by rw [s.ext b (.inr h1)];exact hf b (D7 s.next h1) h2
theorem cI.read {μ:Mu} {h:ai} {w:World} (s:cI μ h w) {b:Nat} {k:ju} (hg:h.get b=some k) :
  ∃ L arr T fr,μ b=some L/\w.heap[L.blk]? = some (.cells arr T fr)/\oH μ k ((arr.toList.drop L.off).take k.length):=by
 by_cases hb:b<h.n0
 ·have hg':=hg;unfold ai.get ai.getB at hg';rw [DL hb] at hg';cases ho:h.old b with
  |none=>rw [ho] at hg';cases hg'
  |some cs=>
   rw [ho] at hg';have hg':some cs=some k:=hg';simp only [DA] at hg';subst hg';obtain ⟨L,arr,T,fr,h1,h2,h3,h4,h5⟩:=s.old b cs hb ho;exact ⟨L,arr,T,fr,h1,h2.symm▸h4,by rw [h3];exact h5⟩
 ·obtain ⟨L,arr,T,fr,h1,h2,h4,h5,h6,h7,h8,h9⟩:=s.new b k (by omega) hg;exact ⟨L,arr,T,fr,h1,h4,(h2▸h9:aR μ k _).toC⟩
theorem cI.place {μ:Mu} {h:ai} {w:World} (s:cI μ h w) {b:Nat} {k:BB} (hb:h.n0<=b) (hg:h.getB b=some k) : ∃ L ob,μ b=some L/\w.heap[L.blk]? = some ob/\h.n0<=L.blk:=by
 cases k with
 |cells k=>
  obtain ⟨L,arr,T,fr,h1,_,h4,_,_,_,h8,_⟩:=s.new b k hb (h.get_of_getB hg);exact ⟨L,_,h1,h4,h8⟩
 |obj o=>
  obtain ⟨L,ob,h1,h2,_,h4,_⟩:=s.obj b o hb hg;exact ⟨L,ob,h1,h2,h4⟩
end
theorem cell_at {w:World} {B:Nat} {arr:Array Value} {T:TypeId} {fr:Nat×Nat} (hg:w.heap[B]? = some (.cells arr T fr)) (j:Nat):w.cell? ⟨B,j,none⟩=arr[j]? :=
 cell_of_row w B j arr T fr hg
theorem cI.loadCells {μ:Mu} {h:ai} {w:World} (s:cI μ h w) {b off n:Nat} {k:ju} (hg:h.get b=some k) (hn:off+n<=k.length) (hnh:noHoles ((k.drop off).take n)=true) (P:Program) :
  ∃ L cs,μ b=some L/\aR μ ((k.drop off).take n) cs /\ ∀ w',w'.heap=w.heap->(Go.loadCells ⟨L.blk,L.off+off,none⟩ n).run P w' = .ok cs.toArray w':=by
 obtain ⟨L,arr,T,fr,h1,h2,h3⟩:=s.read hg;refine ⟨L,(arr.toList.drop (L.off+off)).take n,h1,?_,?_⟩
 ·have:=(h3.drop off).take n;rw [IH,FV,H2] at this;rw [show min n (k.length-off)=n from by omega] at this;exact this.full hnh
 ·intro w' hw';rw [<-hw'] at h2;have hl:((arr.toList.drop (L.off+off)).take n).length=n:=by have:=h3.1;simp only [DV,EB,Array.length_toList] at this |-;omega
  have:=run_loadCells_list (P:=P) w' ⟨L.blk,L.off+off,none⟩ ((arr.toList.drop (L.off+off)).take n) (fun j v hv=>by
   rw [Addr.add_lit,cell_at h2];rw [FK] at hv;split at hv
   ·rw [FL] at hv;simpa using hv
   ·cases hv)
  rw [hl] at this;exact this
theorem cI.cell {μ:Mu} {h:ai} {w:World} (s:cI μ h w) {b off:Nat} {k:ju} {c:Value} (hg:h.get b=some k) (hc:k[off]? = some c) (hnh:eK c=false) :
  ∃ L c',μ b=some L/\w.cell? ⟨L.blk,L.off+off,none⟩=some c'/\aI μ c c':=by
 obtain ⟨L,arr,T,fr,h1,h2,h3⟩:=s.read hg;obtain ⟨c',hc',hv⟩:=h3.get hc hnh;refine ⟨L,c',h1,?_,hv⟩;rw [cell_at h2];rw [FK] at hc';split at hc'
 ·rw [FL] at hc';simpa using hc'
 ·cases hc'
theorem fF (P:Program) (g o:Nat) (t:TypeId) (fr:Nat×Nat) : ∀ (vs:List Value) (i:Nat) (cur:Array Value) (w:World),w.heap[g]? = some (.cells cur t fr)->(fr.1=fr.2\/cur.size<=fr.1) ->
  o+i+vs.length<=cur.size->(∀ v∈vs,v.oneCell'=true) ->
  (storeCells ⟨g,o,none⟩ vs i).run P w = .ok () (w.setRow g (splice cur.toList (o+i) vs).toArray)
 | [],i,cur,w,hg,_,_,_=>by simp only [storeCells,splice,EU,List.length_nil,Nat.add_zero,FC,Array.toArray_toList];rw [setRow_self w g cur t fr hg];rfl
 |v::cU,i,cur,w,hg,hfr,hl,h1=>by
  have hi:o+i<cur.size:=by simp at hl;omega
  have hcell:w.cell? ⟨g,o+i,none⟩=some cur[o+i]:=by simp [World.cell?,hg,hi]
  have hfro:w.frozen? ⟨g,o+i,none⟩=false:=by simp only [World.frozen?,hg];simp only [ID,FX];omega
  have hst:(store ((⟨g,o,none⟩:Addr).add i) v).run P w = .ok () (w.setRow g (cur.setIfInBounds (o+i) v)):=by rw [Addr.add_lit,run_store P w _ v _ (h1 v (by simp)),hcell];simp [hfro,setCell_eq_setRow w g (o+i) cur t fr v hg]
  have ih:=fF P g o t fr cU (i+1) (cur.setIfInBounds (o+i) v) (w.setRow g (cur.setIfInBounds (o+i) v)) (setRow_heap w g cur _ t _ hg) (by simpa using hfr) (by simp at hl |-;omega) (fun x hx=>h1 x (by simp [hx]));simp only [storeCells,Sem.run_bind,hst,Result.andThen_ok,ih,setRow_setRow]
  congr 3
  have e:=list_seg_step cur.toList (o+i) v cU (by simp at hl |-;omega);simpa [splice,IZ,GL] using e
theorem jT {l xs:List Value} {off:Nat} (h:off+xs.length<=l.length):(splice l off xs).length=l.length:=by simp only [splice,DE,DV,EB];omega
theorem splice_seg {l xs:List Value} {o off n:Nat} (h:off+xs.length<=n) (hl:o+n<=l.length) :
  ((splice l (o+off) xs).drop o).take n=splice ((l.drop o).take n) off xs:=by
 unfold splice;have e1:(l.take (o+off)).drop o=(l.drop o).take off:=by rw [IH];congr 1;omega
 have e2:List.drop o (l.take (o+off)++xs++l.drop (o+off+xs.length))=(l.drop o).take off++xs++l.drop (o+off+xs.length):=by rw [ER,GS (by simp;omega),e1,ER]
 rw [e2,H2,show min off n=off from by omega];have e3:((l.drop o).take off++xs).length=off+xs.length:=by simp;omega
 rw [List.take_append,DX (by omega),e3]
 congr 1
 rw [IH,FV,show o+(off+xs.length)=o+off+xs.length from by omega]
theorem cI.storeCells {μ:Mu} {h:ai} {w:World} (s:cI μ h w) {b off:Nat} {k:ju} {xs ys:List Value} (hb:h.n0<=b) (hg:h.get b=some k) (hn:off+xs.length<=k.length)
  (hx:aR μ xs ys) (ho:aM xs=true) (P:Program) :
  ∃ L w',μ b=some L/\(Go.storeCells ⟨L.blk,L.off+off,none⟩ ys).run P w = .ok () w'/\cI μ (h.set b (splice k off xs)) w'/\cH μ h w μ (h.set b (splice k off xs)) w':=by
 obtain ⟨L,arr,T,fr,h1,h2,h4,h5,h6,h7,h8,h9⟩:=s.new b k hb hg;have hlt:=h.aO hg;have hys:ys.length=xs.length:=hx.1.symm;refine ⟨L,w.setRow L.blk (splice arr.toList (L.off+off) ys).toArray,h1,?_,?_,?_⟩
 ·have:=fF P L.blk (L.off+off) T fr ys 0 arr w h4 h7 (by rw [hys];omega) (hx.aM ho);simpa using this
 ·have hB:(w.setRow L.blk (splice arr.toList (L.off+off) ys).toArray).heap[L.blk]? = some (.cells (splice arr.toList (L.off+off) ys).toArray T fr):=setRow_heap w L.blk arr _ T fr h4;have hsz:((splice arr.toList (L.off+off) ys).toArray).size=arr.size:=by have hal:arr.toList.length=arr.size:=Array.length_toList;rw [FT,jT (by omega),hal]
  constructor
  ·intro c cs hc hcs;obtain ⟨L',arr',T',fr',g1,g2,g3,g4,g5⟩:=s.old c cs (by simpa using hc) hcs;refine ⟨L',arr',T',fr',g1,g2,g3,?_,g5⟩;rw [setRow_other _ _ _ _ (by simp at hc;omega)];exact g4
  ·intro c kc hc hgc;simp only [ai.Ci] at hc |-;by_cases e:c=b
   ·subst e;rw [ai.dZ hb hg] at hgc;cases hgc;refine ⟨L,_,T,fr,h1,?_,hB,hsz.trans h5,h6,?_,h8,?_⟩
    ·rw [jT hn];exact h2
    ·rcases h7 with h7|h7
     ·exact .inl h7
     ·exact .inr (hsz▸h7)
    ·rw [splice_seg (by omega) (by have hal:arr.toList.length=arr.size:=Array.length_toList;omega)];exact h9.splice hx off
   ·rw [ai.Aw hb hlt _ e] at hgc;obtain ⟨L',arr',T',fr',g1,g2,g4,g5⟩:=s.new c kc hc hgc;refine ⟨L',arr',T',fr',g1,g2,?_,g5⟩;rw [setRow_other _ _ _ _ (s.inj c b _ _ L' L hc hb e (h.bg hgc) (h.bg hg) g1 h1)];exact g4
  ·intro c o hc hgc;simp only [ai.Ci] at hc |-;by_cases e:c=b
   ·subst e;rw [ai.A0 hb hg] at hgc;cases hgc
   ·rw [ai.jo hb hlt _ e] at hgc;obtain ⟨L',ob,g1,g2,g3,g4⟩:=s.obj c o hc hgc;exact ⟨L',ob,g1,by rw [setRow_other _ _ _ _ (s.inj c b _ _ L' L hc hb e hgc (h.bg hg) g1 h1)];exact g2,g3,g4⟩
  ·intro c c' kc kc' Lc Lc' hc hc' hne hgc hgc' hm hm';simp only [ai.Ci] at hc hc';have fix : ∀ d kd,(h.set b (splice k off xs)).getB d=some kd -> ∃ kd',h.getB d=some kd':=by
    intro d kd hd;by_cases e:d=b
    ·subst e;exact ⟨_,h.bg hg⟩
    ·rw [ai.jo hb hlt _ e] at hd;exact ⟨kd,hd⟩
   obtain ⟨k1,g1⟩:=fix c kc hgc;obtain ⟨k2,g2⟩:=fix c' kc' hgc';exact s.inj c c' k1 k2 Lc Lc' hc hc' hne g1 g2 hm hm'
  ·simpa [World.setRow] using s.size
  ·exact s.low
 ·refine ⟨fun _ _=>rfl,rfl,rfl,DD _,rfl,rfl,rfl,by simp [World.setRow],?_,?_,fun B r hB=>⟨r,by rw [setRow_other _ _ _ _ (by rintro rfl;rw [h4] at hB;cases hB)];exact hB⟩,DD _⟩
  ·intro B hB hO;exact setRow_other _ _ _ _ (fun e=>hO ⟨b,_,L,hb,h.bg hg,h1,e.symm⟩)
  ·rintro B ⟨c,kc,Lc,hc,hgc,hm,rfl⟩;refine .inl ?_;simp only [ai.Ci] at hc;by_cases e:c=b
   ·subst e;exact ⟨c,_,Lc,hc,h.bg hg,hm,rfl⟩
   ·rw [ai.jo hb hlt _ e] at hgc;exact ⟨c,kc,Lc,hc,hgc,hm,rfl⟩
def Mu.put (μ:Mu) (b:Nat) (L:xj):Mu:=fun c=>if c=b then some L else μ c
theorem Mu.cJ (μ:Mu) (b:Nat) (L:xj):μ.put b L b=some L:=by simp [Mu.put]
theorem Mu.c9 (μ:Mu) {b c:Nat} (L:xj) (h:c≠b):μ.put b L c=μ c:=by simp [Mu.put,h]
theorem Mu.jZ {μ:Mu} {b:Nat} {L:xj} (h:μ b=none) : ∀ c M,μ c=some M->μ.put b L c=some M:=by intro c M hc;rw [Mu.c9 _ _ (by rintro rfl;rw [h] at hc;cases hc)];exact hc
theorem cI.alloc {μ:Mu} {h:ai} {w:World} (s:cI μ h w) {k:ju} (hf:fK μ h (h.alloc k)) {arr:Array Value} {T:TypeId} {fr:Nat×Nat} (hfr:fr.1=fr.2\/arr.size<=fr.1)
  (hl:k.length<=arr.size) (hx:aR μ k (arr.toList.take k.length)) {w1:World} (ho:w1.os=w.os) (ht:w1.tape=w.tape) (hp:w1.output=w.output)
  (hw:w1.heap=w.heap.push (.cells arr T fr)) (hdr:w.drawn<=w1.drawn:=by first|exact DD _|exact HZ _) :
  cI (μ.put h.next ⟨w.heap.size,0,arr.size,k.length⟩) (h.alloc k) w1/\cH μ h w (μ.put h.next ⟨w.heap.size,0,arr.size,k.length⟩) (h.alloc k) w1:=by
 have hnone:μ h.next=none:=hf _ (DD _) (by simp);have hm:=Mu.jZ (L:=⟨w.heap.size,0,arr.size,k.length⟩) hnone;have hold : ∀ B,B<w.heap.size->w1.heap[B]? = w.heap[B]? := fun B hB=>by rw [hw,JD,DM (by omega)]
 have hnew:w1.heap[w.heap.size]? = some (.cells arr T fr):=by rw [hw];simp
 have blt : ∀ (B:Nat) (o:Obj),w.heap[B]? = some o->B<w.heap.size:=fun B o hB=>(DT.1 hB).1;have hn0:=h.n0_le_next;refine ⟨⟨?_,?_,?_,?_,?_,fun b hb=>by obtain ⟨L,h1,h2⟩:=s.low b hb;exact ⟨L,hm _ _ h1,h2⟩⟩,⟨?_,rfl,rfl,by simp,ho,ht,hp,by rw [hw];simp,fun B hB _=>hold B hB,?_,fun B r hB=>⟨r,by rw [hold _ (blt _ _ hB)];exact hB⟩,hdr⟩⟩
 ·intro b cs hb hcs;obtain ⟨L,a,T',f',g1,g2,g3,g4,g5⟩:=s.old b cs hb hcs;exact ⟨L,a,T',f',hm _ _ g1,g2,g3,by rw [hold _ (blt _ _ g4)];exact g4,g5.mono hm⟩
 ·intro b kb hb hg;rw [h.aN] at hg;by_cases e:b=h.next
  ·subst e;rw [DL rfl] at hg;cases hg;refine ⟨_,arr,T,fr,Mu.cJ _ _ _,rfl,hnew,rfl,by simpa using hl,hfr,by simpa using s.size,?_⟩;simpa using hx.mono hm
  ·rw [DM e] at hg;obtain ⟨L,a,T',f',g1,g2,g4,g5,g6,g7,g8,g9⟩:=s.new b kb hb hg;exact ⟨L,a,T',f',hm _ _ g1,g2,by rw [hold _ (blt _ _ g4)];exact g4,g5,g6,g7,g8,g9.mono hm⟩
 ·intro b o hb hg;rw [h.cN] at hg;by_cases e:b=h.next
  ·rw [DL e] at hg;cases hg
  ·rw [DM e] at hg;obtain ⟨L,ob,g1,g2,g3,g4⟩:=s.obj b o hb hg;exact ⟨L,ob,hm _ _ g1,by rw [hold _ (blt _ _ g2)];exact g2,g3.mono hm,g4⟩
 ·intro b b' kb kb' L L' hb hb' hne hg hg' h1 h2;rw [h.cN] at hg hg';by_cases e:b=h.next
  ·subst e;rw [Mu.cJ] at h1;cases h1;rw [DM (JX hne)] at hg';rw [Mu.c9 _ _ (JX hne)] at h2;obtain ⟨L2,ob,g1,g4,_⟩:=s.place hb' hg';rw [g1] at h2;cases h2;have:=blt _ _ g4;simp only [ne_eq];omega
  ·rw [DM e] at hg;rw [Mu.c9 _ _ e] at h1;by_cases e':b'=h.next
   ·subst e';rw [Mu.cJ] at h2;cases h2;obtain ⟨L2,ob,g1,g4,_⟩:=s.place hb hg;rw [g1] at h1;cases h1;have:=blt _ _ g4;simp only [ne_eq];omega
   ·rw [DM e'] at hg';rw [Mu.c9 _ _ e'] at h2;exact s.inj b b' kb kb' L L' hb hb' hne hg hg' h1 h2
 ·rw [hw];have:=s.size;simp;omega
 ·intro b hb;rw [Mu.c9 _ _ (by simp at hb;omega)]
 ·rintro B ⟨b,kb,L,hb,hg,h1,rfl⟩;rw [h.cN] at hg;by_cases e:b=h.next
  ·subst e;rw [Mu.cJ] at h1;cases h1;exact .inr (DD _)
  ·rw [DM e] at hg;rw [Mu.c9 _ _ e] at h1;exact .inl ⟨b,kb,L,hb,hg,h1,rfl⟩
theorem cI.world {μ:Mu} {h:ai} {w w':World} (s:cI μ h w) (hh:w'.heap=w.heap):cI μ h w':=
 ⟨fun b cs hb hc=>by rw [hh];exact s.old b cs hb hc,fun b k hb hg=>by unfold Holds;rw [hh];exact s.new b k hb hg,fun b o hb hg=>by unfold HoldsO;rw [hh];exact s.obj b o hb hg,s.inj,by rw [hh];exact s.size,s.low⟩
theorem cI.kill {μ:Mu} {h:ai} {w:World} (s:cI μ h w) {b:Nat} (hb:h.n0<=b) (hn:b<h.next):cI μ (h.kill b) w/\cH μ h w μ (h.kill b) w:=by
 have hgetB : ∀ c k,(h.kill b).getB c=some k->h.getB c=some k:=fun c k hc=>by
  unfold ai.kill at hc;rw [h.cT hb hn] at hc;split at hc
  ·cases hc
  ·exact hc
 have hget : ∀ c k,(h.kill b).get c=some k->h.get c=some k:=fun c k hc=>h.get_of_getB (hgetB c _ ((h.kill b).bg hc));refine ⟨⟨s.old,fun c k hc hg=>s.new c k hc (hget _ _ hg),fun c o hc hg=>s.obj c o hc (hgetB _ _ hg),fun c c' k k' L L' h1 h2 h3 h4 h5=>s.inj c c' k k' L L' h1 h2 h3 (hgetB _ _ h4) (hgetB _ _ h5),s.size,s.low⟩,?_⟩;refine ⟨fun _ _=>rfl,rfl,rfl,DD _,rfl,rfl,rfl,DD _,fun _ _ _=>rfl,?_,fun B r hB=>⟨r,hB⟩,DD _⟩;rintro B ⟨c,k,L,h1,h2,h3,h4⟩;exact .inl ⟨c,k,L,h1,hgetB _ _ h2,h3,h4⟩
section
section types
variable {P:Program} {t:TypeId} (w:World)
theorem mU {n:Nat} (h:cS P t=some n) : ∃ i,P.info? t=some i/\i.size=n:=by
 unfold cS at h;cases hi:P.info? t with
 |none=>rw [hi] at h;cases h
 |some i=>rw [hi] at h;exact ⟨i,rfl,by simpa using h⟩
theorem eP {i:TypeInfo} (h:P.info? t=some i):(typeInfo t).run P w = .ok i w:=by simp [typeInfo,h]
theorem cY {n:Nat} (h:cS P t=some n):(sizeOf t).run P w = .ok n w:=by obtain ⟨i,hi,rfl⟩:=mU h;simp [sizeOf,eP w hi]
theorem fT {z:Value} (h:kF P t=some z):(zeroValue t).run P w = .ok z w:=by
 unfold kF at h;cases hi:P.info? t with
 |none=>rw [hi] at h;cases h
 |some i=>
  rw [hi] at h;simp only [Option.bind_some] at h;simp [zeroValue,eP w hi,h]
theorem oi {b:Bool} (h:su P t=some b):(isAgg t).run P w = .ok b w:=by
 unfold su at h;cases hu:P.underlying t with
 |none=>rw [hu] at h;cases h
 |some d=>
  rw [hu] at h;unfold isAgg;rw [Sem.run_bind,run_underlying hu];cases d<;>simp at h<;>subst h<;>rfl
end types
section ops
variable {P:Program} {μ:Mu} {h:ai} {w:World}
theorem lL {b off:Nat} {v:Value} (hv:aI μ (.pointer (some ⟨b,off,none⟩)) v) : ∃ L,μ b=some L/\v = .pointer (some ⟨L.blk,L.off+off,none⟩):=by
 cases hv with
 |flat h=>simp [flat] at h
 |ptr h=>exact ⟨_,h,rfl⟩
theorem ld_sound {t:TypeId} {v v' r:Value} {h':ai} (s:cI μ h w) (hv:aI μ v v') (e:ld P t v h=some (r,h')) :
  h'=h /\ ∃ r',(Instr.loadAt t v').run P w = .ok r' w/\aI μ r r':=by
 unfold ld at e;cases ha:su P t with
 |none=>rw [ha] at e;cases e
 |some ag=>
  cases hs:cS P t with
  |none=>rw [ha,hs] at e;cases ag<;>cases e
  |some n=>
   rw [ha,hs] at e;cases ag with
   |true=>
    simp only at e;unfold du at e;split at e
    ·rename_i b off;obtain ⟨L,hL,rfl⟩:=lL hv;split at e
     ·rename_i k hk;split at e
      ·rename_i hle;simp only [DA,DN] at e;obtain ⟨rfl,rfl⟩:=e;obtain ⟨L',cs,hL',hr,hrun⟩:=s.loadCells hk hle.1 hle.2 P;rw [hL] at hL';cases hL';refine ⟨rfl,.agg cs.toArray,?_,.gO hr⟩;simp [Instr.loadAt,Instr.sureAddr,loadVar,oi w ha,cY w hs,hrun w rfl]
      ·cases e
     ·cases e
    ·cases e
   |false=>
    simp only at e;unfold ld1 at e;split at e
    ·rename_i b off;obtain ⟨L,hL,rfl⟩:=lL hv;split at e
     ·rename_i k hk;split at e
      ·rename_i c hc;split at e
       ·rename_i hnh;simp only [DA,DN] at e;obtain ⟨rfl,rfl⟩:=e;obtain ⟨L',c',hL',hr,hv'⟩:=s.cell hk hc hnh;rw [hL] at hL';cases hL';refine ⟨rfl,c',?_,hv'⟩;simp [Instr.loadAt,Instr.sureAddr,loadVar,oi w ha,hr]
       ·cases e
      ·cases e
     ·cases e
    ·cases e
theorem qZ {b off:Nat} {xs ys:List Value} {h':ai} (s:cI μ h w) (hx:aR μ xs ys) (e:stL b off xs h=some h') :
  ∃ L w',μ b=some L/\(Go.storeCells ⟨L.blk,L.off+off,none⟩ ys).run P w = .ok () w'/\cI μ h' w'/\cH μ h w μ h' w':=by
 unfold stL at e;split at e
 ·rename_i k hk;split at e
  ·rename_i hc;simp only [DK,DS] at hc;simp only [DA] at e;subst e;exact s.storeCells hc.1.1 hk hc.1.2 hx hc.2 P
  ·cases e
 ·cases e
theorem st_sound {t:TypeId} {v v' x x' r:Value} {h':ai} (s:cI μ h w) (hv:aI μ v v') (hx:aI μ x x') (e:st P t v x h=some (r,h')) :
  r=undef /\ ∃ w',(Instr.storeAt t v' x').run P w = .ok () w'/\cI μ h' w'/\cH μ h w μ h' w':=by
 unfold st at e;cases hs:cS P t with
 |none=>rw [hs] at e;cases e
 |some n=>
  rw [hs] at e;simp only at e;unfold eY at e;split at e
  ·rename_i b off;obtain ⟨L,hL,rfl⟩:=lL hv;split at e
   ·rename_i hsz;simp only [DQ,DN] at e;obtain ⟨h1,he,rfl,rfl⟩:=e;obtain ⟨L',w',hL',hrun,hS,hSt⟩:=qZ (P:=P) s hx.cells he;rw [hL] at hL';cases hL';refine ⟨rfl,w',?_,hS,hSt⟩;have hsz':x'.cells.size=n:=by have:=hx.cells.1;simp only [Array.length_toList] at this;omega
    simp [Instr.storeAt,Instr.sureAddr,storeVar,cY w hs,hsz',hrun]
   ·cases e
  ·cases e
theorem kJ {xs ys:List Value} (s:cI μ h w) (hf:fK μ h (h.alloc xs)) (hx:aR μ xs ys) (T:TypeId) :
  ∃ μ' w',(Go.newRow T ys.toArray).run P w = .ok ⟨w.heap.size,0,none⟩ w'/\cI μ' (h.alloc xs) w'/\cH μ h w μ' (h.alloc xs) w' /\
    ∃ L,μ' h.next=some L/\L.blk=w.heap.size/\L.off=0/\L.ext=ys.length/\L.len=xs.length:=by
 obtain ⟨h1,h2⟩:=s.alloc (k:=xs) hf (arr:=ys.toArray) (T:=T) (fr:=(0,0)) (.inl rfl) (by simp [hx.1]) (by simpa [hx.1] using hx) (w1:={ w with heap:=w.heap.push (.cells ys.toArray T (0,0)) }) rfl rfl rfl rfl;refine ⟨_,_,?_,h1,h2,_,Mu.cJ _ _ _,rfl,rfl,by simp,rfl⟩;simp [Go.newRow]
theorem zero_sound {t:TypeId} {r old:Value} {h':ai} (s:cI μ h w) (hf:fK μ h h') (e:zero P t h=some (r,h')) :
  ∃ μ' r' w',(Instr.alloc t true old).run P w = .ok r' w'/\cI μ' h' w'/\cH μ h w μ' h' w'/\aI μ' r r':=by
 unfold zero at e;cases hz:kF P t with
 |none=>rw [hz] at e;cases e
 |some z=>
  rw [hz] at e;simp only at e;split at e
  ·rename_i hfl;simp only [Abs.newRow,DA,DN] at e;obtain ⟨rfl,rfl⟩:=e;obtain ⟨μ',w',hrun,hS,hSt,L,hL,hB,hO,_⟩:=kJ (P:=P) s hf (aR.jU hfl) t;refine ⟨μ',.pointer (some ⟨w.heap.size,0,none⟩),w',?_,hS,hSt,?_⟩
   ·simp only [Array.toArray_toList] at hrun;simp [Instr.alloc,fT w hz,newVar,hrun]
   ·have:=aI.ptr (off:=0) hL;rw [hB,hO] at this;exact this
  ·cases e
theorem box_sound {t:TypeId} {x x' r:Value} {h':ai} (s:cI μ h w) (hf:fK μ h h') (hx:aI μ x x') (e:box x h=some (r,h')) :
  ∃ μ' r' w',(Instr.box t x').run P w = .ok r' w'/\cI μ' h' w'/\cH μ h w μ' h' w'/\aI μ' r r':=by
 unfold box at e;split at e
 ·simp only [Abs.newRow,DA,DN] at e;obtain ⟨rfl,rfl⟩:=e;obtain ⟨μ',w',hrun,hS,hSt,L,hL,hB,hO,_⟩:=kJ (P:=P) s hf hx.cells t;refine ⟨μ',.pointer (some ⟨w.heap.size,0,none⟩),w',?_,hS,hSt,?_⟩
  ·simp only [Array.toArray_toList] at hrun;simp [Instr.box,newVar,hrun]
  ·have:=aI.ptr (off:=0) hL;rw [hB,hO] at this;exact this
 ·cases e
theorem BP (off:Nat) : ∀ (l:List Value) (k:Nat) (cs:Array Value),off+k+l.length<=cs.size ->
  (l.zipIdx k).foldl (fun (cs:Array Value) (x:Value×Nat)=>cs.setIfInBounds (off+x.2) x.1) cs=(splice cs.toList (off+k) l).toArray
 | [],k,cs,_=>by simp [splice]
 |v::l,k,cs,h=>by simp only [List.zipIdx_cons,List.foldl_cons];rw [BP off l (k+1) _ (by simp at h |-;omega)];have hal:cs.toList.length=cs.size:=Array.length_toList;have:=list_seg_step cs.toList (off+k) v l (by simp at h;omega);simp only [splice,IZ,List.length_cons];rw [<-this];simp [GL]
theorem fill_one (off:Nat) (v:Value) (cs:List Value) (h:off+v.cells.size<=cs.length) :
  v.cells.zipIdx.foldl (fun (cs:Array Value) (x:Value×Nat)=>cs.setIfInBounds (off+x.2) x.1) cs.toArray=(splice cs off v.cells.toList).toArray:=by
 have:=BP off v.cells.toList 0 cs.toArray (by simpa using h);simp only [Nat.add_zero] at this;rw [<-this,<-Array.foldl_toList];simp
inductive lK (μ:Mu) (pl:Nat->Option (Nat×Nat)):List (Nat×Nat×Value)->List (Nat×Value)->Prop
 |nil:lK μ pl [] []
 |cons {i off n:Nat} {x y:Value} {ts cs} (hp:pl i=some (off,n)) (hv:aI μ x y) (ht:lK μ pl ts cs):lK μ pl ((off,n,x)::ts) ((i,y)::cs)
theorem sU {pl:Nat->Option (Nat×Nat)} {ts:List (Nat×Nat×Value)} {cps:List (Nat×Value)} (hp:lK μ pl ts cps) :
  ∀ {cells cc out:List Value},aR μ cells cc->fillL cells ts=some out -> ∃ out',Instr.fill pl cc.toArray cps=some out'.toArray/\aR μ out out':=by
 induction hp with
 |nil=>
  intro cells cc out hc e;simp only [fillL,DA] at e;subst e;exact ⟨cc,by simp [Instr.fill],hc⟩
 | @cons i off n x y ts cs hp hv ht ih=>
   intro cells cc out hc e;simp only [fillL] at e;split at e
   ·rename_i hb;simp only [DK,DS] at hb;obtain ⟨out',ho,hr⟩:=ih (hc.splice hv.cells off) e;refine ⟨out',?_,hr⟩;have hs:y.cells.size=n:=by have:=hv.cells.1;simp only [Array.length_toList] at this;omega
    have hl:=hc.1;simp only [Instr.fill,hp];rw [DM (by simp [hs];omega)];have:=fill_one off y cc (by omega);rw [this];exact ho
   ·cases e
theorem C4 {α β:Type} (P:Program) (w:World) (f:α->Sem β) (g:α->β) (arr:Array α) (hf : ∀ x∈arr.toList,(f x).run P w = .ok (g x) w):(arr.mapM f).run P w = .ok (arr.map g) w:=by
 rw [Array.mapM_eq_mapM_toList,Sem.run_map];have key : ∀ l:List α,(∀ x∈l,(f x).run P w = .ok (g x) w)->(l.mapM f).run P w = .ok (l.map g) w:=by
  intro l;induction l with
  |nil=>intro _;simp
  |cons x l ih=>
   intro h;rw [HT,Sem.run_bind,h x (by simp),Result.andThen_ok,Sem.run_bind,ih (fun y hy=>h y (by simp [hy]))];simp
 rw [key _ hf];simp [<-Array.toList_map]
theorem lK.BV {fs:Array Field} : ∀ {aps cps:List (Nat×Value)} {ts},aps.length=cps.length->(∀ (i:Nat) (x y:Nat×Value),aps[i]? = some x->cps[i]? = some y->x.1=y.1/\aI μ x.2 y.2) ->
  fieldPlaces P fs aps=some ts->lK μ (fun i=>(fs.map fun (f:Field)=>(f.offset,(cS P f.type).getD 0))[i]?) ts cps
 | [],[],ts,_,_,e=>by simp [fieldPlaces] at e;subst e;exact .nil
 | [],_::_,_,hl,_,_=>by simp at hl
 |_::_,[],_,hl,_,_=>by simp at hl
 |x::aps,y::cps,ts,hl,hr,e=>by
  unfold fieldPlaces at e;rw [HT] at e;simp only [bind,DZ,pure,DA] at e;obtain ⟨a,ha,l,hl',rfl⟩:=e;split at ha
  ·rename_i f hf;simp only [DQ] at ha;obtain ⟨n,hn,rfl⟩:=ha;obtain ⟨h1,h2⟩:=hr 0 x y rfl rfl;obtain ⟨i,u⟩:=y;subst h1;exact .cons (by simp [hf,hn]) h2 (lK.BV (by simpa using hl) (fun j a b ha hb=>hr (j+1) a b ha hb) hl')
  ·cases ha
theorem lK.zB {n:Nat} : ∀ {aps cps:List (Nat×Value)},aps.length=cps.length->(∀ (i:Nat) (x y:Nat×Value),aps[i]? = some x->cps[i]? = some y->x.1=y.1/\aI μ x.2 y.2) ->
  lK μ (fun i=>some (i*n,n)) (aps.map fun x=>(x.1*n,n,x.2)) cps
 | [],[],_,_ => .nil
 | [],_::_,hl,_=>by simp at hl
 |_::_,[],hl,_=>by simp at hl
 |x::aps,(i,u)::cps,hl,hr=>by obtain ⟨h1,h2⟩:=hr 0 x (i,u) rfl rfl;subst h1;exact .cons rfl h2 (lK.zB (by simpa using hl) (fun j a b ha hb=>hr (j+1) a b ha hb))
theorem build_sound {t:TypeId} {aps:List (Nat×Value)} {cps:Array (Nat×Value)} {r:Value} (hl:aps.length=cps.size)
  (hr : ∀ (i:Nat) (x y:Nat×Value),aps[i]? = some x->cps.toList[i]? = some y->x.1=y.1/\aI μ x.2 y.2) (e:buildA P t aps=some r) :
  ∃ r',(Instr.build t cps).run P w = .ok r' w/\aI μ r r':=by
 unfold buildA at e;cases hz:kF P t with
 |none=>rw [hz] at e;simp at e
 |some z=>
  rw [hz] at e;cases hu:P.underlying t with
  |none=>rw [hu] at e;cases e
  |some d=>
   rw [hu] at e;cases d<;>simp only at e<;>try (cases e;done)
   ·rename_i len el;split at e
    ·rename_i n hn;split at e
     ·rename_i hfl;simp only [DQ] at e;obtain ⟨cs,hcs,rfl⟩:=e;obtain ⟨out,ho,hrel⟩:=sU (lK.zB (n:=n) (by simpa using hl) hr) (aR.jU hfl) hcs;refine ⟨.agg out.toArray,?_,.gO hrel⟩;simp only [Array.toArray_toList] at ho;simp [Instr.build,fT w hz,run_underlying hu,cY w hn,ho]
     ·cases e
    ·cases e
   ·rename_i fs;split at e
    ·rename_i hfl;simp only [DK] at hfl;split at e
     ·rename_i ps hps;simp only [DQ] at e;obtain ⟨cs,hcs,rfl⟩:=e;obtain ⟨out,ho,hrel⟩:=sU (lK.BV (by simpa using hl) hr hps) (aR.jU hfl.1) hcs;refine ⟨.agg out.toArray,?_,.gO hrel⟩;simp only [Array.toArray_toList] at ho;have hm:(fs.mapM fun (f:Field)=>(do pure (f.offset,<-sizeOf f.type):Sem (Nat×Nat))).run P w = .ok (fs.map fun (f:Field)=>(f.offset,(cS P f.type).getD 0)) w:=by refine C4 P w _ _ fs fun f hf => ?_;have:=DR.1 hfl.2 f hf;obtain ⟨n,hn⟩:=FZ.1 this;simp [cY w hn,hn]
      simp only [Instr.build,Sem.run_bind,fT w hz,Result.andThen_ok,run_underlying hu,hm,ho,Sem.run_pure]
     ·cases e
    ·cases e
end ops
end
section
theorem rX {α:Type} {P:Program} (s:Sem α) {a:α} (h:cf P s=some a) (w:World):s.run P w = .ok a w:=by
 induction s with
 |pure b=>simp [cf] at h;subst h;rfl
 |program k ih=>simp only [cf] at h;simp only [Sem.run];exact ih P h
 |_=>simp [cf] at h
theorem mF (z:Array Value) (hz:0<z.size) : ∀ n,((List.range (n*z.size)).map fun i=>z[i%z.size]!)=dj z.toList n
 | 0=>by simp [dj]
 |n+1=>by
  rw [Nat.succ_mul,List.range_add,FH,mF z hz n];simp only [dj,IQ,HR,E6,H8,EU]
  congr 1
  rw [IU];apply FU;intro j;rw [EN];by_cases hj:j<z.size
  ·have h1:(n*z.size+j)%z.size=j:=by rw [JU,Nat.mul_add_mod,GX hj]
   simp [h1, hj]
  ·rw [ET (by simp;omega),ET (by simp;omega)];rfl
section ops
variable {P:Program} {μ:Mu} {h:ai} {w:World}
theorem yK {op:BinOp} {k:IntKind} {a b:Int} {r:Value} (e:qu op k a b=some r):(Op.intBits op k a b).run P w = .ok r w:=by unfold qu at e;unfold Op.intBits;cases op<;>simp at e |- <;> exact e
theorem binI_sound {op:BinOp} {t:TypeId} {k k':IntKind} {a b:Int} {r:Value} (e:jw op k k' a b=some r):(binOp op t (.int k a) (.int k' b)).run P w = .ok r w:=by
 unfold jw at e;cases op
 case shl=>
  simp only at e;split at e
  ·cases e
  ·rename_i hb;cases e;simp [binOp,Op.shift,hb]
 case shr=>
  simp only at e;split at e
  ·cases e
  ·rename_i hb;cases e;simp [binOp,Op.shift,hb]
 all_goals
  simp only at e;split at e
  ·cases e
  ·rename_i hk;have hk':k=k':=JK.1 hk;subst hk';first
    | (simp only [DA] at e;subst e;simp [binOp,Op.intArith,Op.intCmp])
    | (split at e
       ·cases e
       ·rename_i hb;cases e;simp [binOp,Op.intDiv,hb])
    | (have:=yK (P:=P) (w:=w) e
       simp [binOp];exact this)
theorem aI.nilptr {b:Option Addr} {v:Value} (hv:aI μ (.pointer b) v) : ∃ b',v = .pointer b'/\b'.isNone=b.isNone:=by
 cases hv with
 |flat h=>exact ⟨b,rfl,rfl⟩
 |ptr h=>exact ⟨_,rfl,rfl⟩
theorem aI.j0 {b:Option Addr} {l c:Nat} {v:Value} (hv:aI μ (.slice b l c) v) : ∃ b' c',v = .slice b' l c'/\b'.isNone=b.isNone:=by
 cases hv with
 |flat h=>exact ⟨b,c,rfl,rfl⟩
 |slice h=>exact ⟨_,_,rfl,rfl⟩
 |vx h=>exact ⟨_,_,rfl,rfl⟩
 |jD h=>exact ⟨_,_,rfl,rfl⟩
 |zu=>exact ⟨_,_,rfl,rfl⟩
theorem AA {t e:TypeId} (hu:P.underlying t=some (.pointer e)) (a b:Option Addr) (h:a=none\/b=none) :
  (Op.equal t (.pointer a) (.pointer b)).run P w = .ok (a.isNone&&b.isNone) w:=by
 show (Op.equalIn (9999+1) t (.pointer a) (.pointer b)).run P w=_;unfold Op.equalIn;rw [Sem.run_bind,run_underlying hu,Result.andThen_ok];rcases h with rfl|rfl
 ·simp
 ·cases a<;>simp
theorem xf {t e:TypeId} (hu:P.underlying t=some (.slice e)) (a b:Option Addr) (l m c d:Nat) (h:a=none\/b=none) :
  (Op.equal t (.slice a l c) (.slice b m d)).run P w = .ok (a.isNone&&b.isNone) w:=by
 show (Op.equalIn (9999+1) t (.slice a l c) (.slice b m d)).run P w=_;unfold Op.equalIn;rw [Sem.run_bind,run_underlying hu,Result.andThen_ok];rcases h with rfl|rfl
 ·simp
 ·cases a<;>simp
theorem AW {t k e:TypeId} (hu:P.underlying t=some (.map k e)) (a b:Option Nat) (h:a=none\/b=none) :
  (Op.equal t (.map a) (.map b)).run P w = .ok (a.isNone&&b.isNone) w:=by
 show (Op.equalIn (9999+1) t (.map a) (.map b)).run P w=_;unfold Op.equalIn;rw [Sem.run_bind,run_underlying hu,Result.andThen_ok];rcases h with rfl|rfl
 ·simp
 ·cases a<;>simp
theorem aI.nilmap {b:Option Nat} {v:Value} (hv:aI μ (.map b) v) : ∃ b',v = .map b'/\b'.isNone=b.isNone:=by
 cases hv with
 |flat h=>exact ⟨b,rfl,rfl⟩
 |map h=>exact ⟨_,rfl,rfl⟩
theorem isNone_orN {a b:Option Nat} (h:a.isNone=true\/b.isNone=true):a=none\/b=none:=by simpa [Option.isNone_iff_eq_none] using h
theorem Bq {a b:Option Addr} (h:a.isNone=true\/b.isNone=true):a=none\/b=none:=by simpa [Option.isNone_iff_eq_none] using h
theorem binA_sound {op:BinOp} {t:TypeId} {x y x' y' r:Value} (hx:aI μ x x') (hy:aI μ y y') (e:binA P op t x y=some r) :
  (binOp op t x' y').run P w = .ok r w:=by
 unfold binA at e;split at e
 ·rw [hx.int,hy.int];exact binI_sound e
 ·rename_i a b;obtain ⟨a',rfl,ha⟩:=hx.nilptr;obtain ⟨b',rfl,hb⟩:=hy.nilptr;split at e<;>first
   | (cases e;done)
   | (rename_i hu
      simp only [DA] at e;subst e;have hn:a'=none\/b'=none:=Bq (by simp [ha,hb]);simp [binOp,AA hu a' b' hn,ha,hb])
 ·rename_i a l c b m d;obtain ⟨a',c',rfl,ha⟩:=hx.j0;obtain ⟨b',d',rfl,hb⟩:=hy.j0;split at e<;>first
   | (cases e;done)
   | (rename_i hu
      simp only [DA] at e;subst e;have hn:a'=none\/b'=none:=Bq (by simp [ha,hb]);simp [binOp,xf hu a' b' l m c' d' hn,ha,hb])
 ·rename_i a b;obtain ⟨a',rfl,ha⟩:=hx.nilmap;obtain ⟨b',rfl,hb⟩:=hy.nilmap;split at e<;>first
   | (cases e;done)
   | (rename_i hu
      simp only [DA] at e;subst e;have hn:a'=none\/b'=none:=isNone_orN (by simp [ha,hb]);simp [binOp,AW hu a' b' hn,ha,hb])
 ·split at e
  ·rename_i hg;simp only [DK] at hg;rw [hx.fi hg.1,hy.fi hg.2];split at e
   ·rename_i r hr;split at e
    ·cases e;exact rX _ hr w
    ·cases e
   ·cases e
  ·cases e
theorem aI.vW {x:Value} (hx:aI μ x .nilIface):x = .nilIface:=by cases hx;rfl
theorem aI.to_agg {x:Value} {ys:Array Value} (hx:aI μ x (.agg ys)) : ∃ xs,x = .agg xs:=by
 cases hx with
 |flat h=>simp [Abs.flat] at h
 |agg _ _=>exact ⟨_,rfl⟩
theorem Bb {op:BinOp} {t:TypeId} {ox oy:Operand} {x y x' y':Value} (hx:aI μ x x') (hy:aI μ y y') (e:eqOk P op t x y=true) :
  (eqGuard op t ox oy x' y').run P w = .ok () w:=by
 have key:op = .eql\/op = .neq\/(op ≠ .eql/\op ≠ .neq):=by cases op<;>simp
 have main:(op = .eql\/op = .neq)->(eqGuard op t ox oy x' y').run P w = .ok () w:=by
  intro h1;have hm : ∀ (o:BinOp),o=op->(eqGuard o t ox oy x' y').run P w = .ok () w:=by
   intro o ho;rcases h1 with h1|h1<;>(
    rw [h1] at ho;subst ho;rw [h1] at e;unfold eqGuard;simp only [DP,DG,EF];split
    ·have:=hx.vW;have:=hy.vW
     subst_vars
     simp [eqOk] at e
    ·obtain ⟨xs,rfl⟩:=hx.to_agg;obtain ⟨ys,rfl⟩:=hy.to_agg;simp [eqOk] at e;simp [e]
    ·rfl)
  exact hm op rfl
 rcases key with h1|h1|h1
 ·exact main (.inl h1)
 ·exact main (.inr h1)
 ·have hm:eqGuard op t ox oy x' y'=pure ():=by cases op<;>first|rfl|(simp at h1;done)
  rw [hm];rfl
theorem bin_sound {op:BinOp} {t:TypeId} {ox oy:Operand} {x y x' y' r:Value} (hx:aI μ x x') (hy:aI μ y y') (e:aF P op t x y=some r) :
  (do eqGuard op t ox oy x' y';binOp op t x' y':Sem Value).run P w = .ok r w:=by
 unfold aF at e;split at e
 ·rename_i hg;rw [Sem.run_bind,Bb hx hy hg,Result.andThen_ok];exact binA_sound hx hy e
 ·cases e
theorem un_sound {op:UnOp} {x x' r:Value} (hx:aI μ x x') (e:unA op x=some r):(Op.unary op x').run P w = .ok r w:=by
 unfold unA at e;split at e
 ·rw [hx.int];cases e;simp [Op.unary,Op.intArith]
 ·rw [hx.int];simp only [Op.unary];exact yK e
 ·rw [hx.bool];cases e;simp [Op.unary]
 ·cases e
theorem Bf {op:BinOp} {k:IntKind} {a b:Int} {r:Value} (e:qu op k a b=some r):flat r=true:=by unfold qu at e;cases op<;>simp at e<;>subst e<;>rfl
theorem binI_flat {op:BinOp} {k k':IntKind} {a b:Int} {r:Value} (e:jw op k k' a b=some r):flat r=true:=by
 unfold jw at e;cases op<;>simp only at e<;>(repeat' split at e)<;>first
  | (cases e;done)
  | (simp only [DA] at e;subst e;rfl)
  |exact Bf e
theorem bin_flat {op:BinOp} {t:TypeId} {x y r:Value} (e:aF P op t x y=some r):flat r=true:=by
 unfold aF at e;split at e
 ·unfold binA at e;split at e
  ·exact binI_flat e
  ·split at e<;>first
    | (cases e;done)
    | (simp only [DA] at e;subst e;rfl)
  ·split at e<;>first
    | (cases e;done)
    | (simp only [DA] at e;subst e;rfl)
  ·split at e<;>first
    | (cases e;done)
    | (simp only [DA] at e;subst e;rfl)
  ·split at e
   ·split at e
    ·split at e
     ·rename_i hf;cases e;exact hf
     ·cases e
    ·cases e
   ·cases e
 ·cases e
theorem un_flat {op:UnOp} {x r:Value} (e:unA op x=some r):flat r=true:=by
 unfold unA at e;split at e
 ·cases e;rfl
 ·exact Bf e
 ·cases e;rfl
 ·cases e
theorem Ck {x x' r:Value} (hx:aI μ x x') (e:nilCheckA x=some r):aI μ r x'/\((∃ a,x' = .pointer (some a))\/(∃ f a b,x' = .func (.func f) a b) \/ ∃ f a b,x' = .func (.yield f) a b):=by
 unfold nilCheckA at e;split at e
 ·cases e;refine ⟨hx,?_⟩;cases hx with
  |flat h=>simp [flat] at h
  |ptr h=>exact .inl ⟨_,rfl⟩
 ·cases e;refine ⟨hx,?_⟩;cases hx with
  |flat h=>exact .inr (.inl ⟨_,_,_,rfl⟩)
  |func hf _ _ _ _=>cases hf;exact .inr (.inl ⟨_,_,_,rfl⟩)
 ·cases e;refine ⟨hx,?_⟩;cases hx with
  |flat h=>simp [flat] at h
  |func hf _ _ _ _=>obtain ⟨L,_,rfl⟩:=hf;exact .inr (.inr ⟨_,_,_,rfl⟩)
 ·cases e
theorem uQ {t:TypeId} {len:Nat} {aps:List (Nat×Value)} {cps:Array (Nat×Value)} {r:Value} {h':ai} (s:cI μ h w) (hf:fK μ h h') (hl:aps.length=cps.size)
  (hr : ∀ (i:Nat) (x y:Nat×Value),aps[i]? = some x->cps.toList[i]? = some y->x.1=y.1/\aI μ x.2 y.2) (e:buildSliceA P t len aps h=some (r,h')) :
  ∃ μ' r' w',(Instr.buildSlice t len cps).run P w = .ok r' w'/\cI μ' h' w'/\cH μ h w μ' h' w'/\aI μ' r r':=by
 unfold buildSliceA at e;cases hu:P.underlying t with
 |none=>rw [show elemT P t=none from by simp [elemT,hu]] at e;cases e
 |some d=>
  cases d with
  |slice el=>
   rw [show elemT P t=some el from by simp [elemT,hu]] at e;simp only at e;split at e
   ·rename_i n z hn hz;split at e
    ·rename_i hc;simp only [DK,DS] at hc;obtain ⟨⟨⟨⟨hfl,hzn⟩,hpos⟩,hsz⟩,hone⟩:=hc;split at e
     ·rename_i cs hcs;simp only [DA,DN] at e;obtain ⟨rfl,rfl⟩:=e;have hz1:dj z.cells.toList len=(List.range (len*n)).map fun i=>z.cells[i%z.cells.size]! := by rw [<-hzn,mF z.cells (by omega)]
      obtain ⟨out,ho,hrel⟩:=sU (lK.zB (n:=n) (by simpa using hl) hr) (aR.jU (μ:=μ) (l:=dj z.cells.toList len) (by simp only [bI,DR,dj,HO] at hfl |-;rintro x ⟨_,_,hx⟩;exact hfl x hx)) hcs
      have harr:(Array.range (len*n)).map (fun i=>z.cells[i%z.cells.size]!)=(dj z.cells.toList len).toArray:=by apply IL;rw [hz1];simp
      obtain ⟨μ',w',hrun,hS,hSt,L,hL,hB,hO,_⟩:=kJ (P:=P) s hf hrel el;refine ⟨μ',.slice (some ⟨w.heap.size,0,none⟩) len len,w',?_,hS,hSt,?_⟩
      ·by_cases hlen:len*n=0
       ·have hnil:dj z.cells.toList len = []:=by rw [hz1,hlen];rfl
        rw [hnil] at ho;simp only [Instr.buildSlice,Sem.run_bind,run_underlying hu,Result.andThen_ok,cY w hn];rw [DM (by omega)];have ho':Instr.fill (fun i=>some (i*n,n)) #[] cps.toList=some out.toArray:=ho;have hr0:Array.range (len*n) = #[]:=by rw [hlen];rfl
        rw [DL hlen,hr0];simp [ho',hrun]
       ·simp only [Instr.buildSlice,Sem.run_bind,run_underlying hu,Result.andThen_ok,cY w hn];rw [DM (by omega)];simp only [hlen,EF,Sem.run_bind,fT w hz,Result.andThen_ok,Sem.run_pure,harr,ho,hrun]
      ·have:=aI.slice (off:=0) (len:=len) (cap:=len) hL;rw [hB,hO] at this;exact this
     ·cases e
    ·cases e
   ·cases e
  |_=>rw [show elemT P t=none from by simp [elemT,hu]] at e;cases e
theorem modify_push {α:Type} (a:Array α) (x:α) (f:α->α):(a.push x).modify a.size f=a.push (f x):=by
 apply Array.ext
 ·simp
 ·intro i h1 h2;rw [Array.getElem_modify];by_cases e:a.size=i
  ·subst e;simp
  ·rw [DM e,Array.getElem_push,Array.getElem_push];simp at h1;rw [dif_pos (by omega),dif_pos (by omega)]
theorem freeze_push (w:World) (arr:Array Value) (e:TypeId) :
  ({ w with heap:=w.heap.push (.cells arr e (0,0)) }:World).freeze ⟨w.heap.size,arr.size,none⟩ 1={ w with heap:=w.heap.push (.cells arr e (arr.size,arr.size+1)) }:=by
 unfold World.freeze;rw [DM (by decide)];simp only [modify_push];rfl
theorem tG (e:TypeId) (sb:ByteArray) (hsz:sb.size<=maxLen) : ∃ cap arr,sb.size<=cap/\cap<=maxLen/\arr.size=cap /\
  (arr.toList.take sb.size=sb.data.toList.map fun b => .int .u8 b.toNat) /\
  (Conv.stringToBytes e sb).run P w = .ok (.slice (some ⟨w.heap.size,0,none⟩) sb.size cap) { w.drew with heap:=w.heap.push (.cells arr e (arr.size,arr.size+1)) }:=by
 have hge:=grownCap_ge w sb.size 0 e;have hle:=grownCap_le_maxLen w sb.size 0 e hsz;have hds:sb.data.size=sb.size:=rfl;refine ⟨grownCap w sb.size 0 e,(sb.data.map fun (b:UInt8)=>Value.int .u8 (b.toNat:Int))++Array.replicate (grownCap w sb.size 0 e-sb.size) (.int .u8 0),hge,hle,?_,?_,?_⟩
 ·simp [Array.size_append];omega
 ·rw [GG,GA (by simp [hds]),DX (by simp [hds])];simp
 ·unfold Conv.stringToBytes markStringish;rw [Sem.run_bind,run_choose];simp only [Question.forced,DG,EF,Result.andThen_ok,Sem.run_bind,Go.newRow,run_newObj,Sem.run_pure,run_shape,World.shape?,Array.getElem?_push_size,run_freeze];have:=freeze_push w.drew ((sb.data.map fun (b:UInt8)=>Value.int .u8 (b.toNat:Int))++Array.replicate (grownCap w sb.size 0 e-sb.size) (.int .u8 0)) e;exact GM (Result.ok _) this
theorem cI.freeze {b O:Nat} {k:ju} {L:xj} (s:cI μ h w) (hb:h.n0<=b) (hg:h.get b=some k) (hL:μ b=some L) :
  ∃ w',(markStringish ⟨L.blk,O,none⟩).run P w = .ok () w'/\cI μ h w'/\cH μ h w μ h w':=by
 obtain ⟨L',arr,T,fr,h1,h2,h4,h5,h6,h7,h8,h9⟩:=s.new b k hb hg;rw [hL] at h1;cases h1;have hsame : ∀ B,B≠L.blk->(w.freeze ⟨L.blk,arr.size,none⟩ 1).heap[B]? = w.heap[B]? := by intro B hB;unfold World.freeze;rw [DM (by decide)];simp only [JO];rw [DM (JX hB)]
 obtain ⟨fr',hfr',hnew⟩ : ∃ fr',arr.size<=fr'.1/\(w.freeze ⟨L.blk,arr.size,none⟩ 1).heap[L.blk]? = some (.cells arr T fr'):=by
  unfold World.freeze;rw [DM (by decide)];simp only [JO];rw [DL trivial,h4];obtain ⟨lo,hi⟩:=fr;simp only [Option.map_some];by_cases e:lo=hi
  ·subst e;exact ⟨(arr.size,arr.size+1),DD _,by simp⟩
  ·refine ⟨(min lo arr.size,max hi (arr.size+1)),?_,by simp [e]⟩;simp only at h7 |-;omega
 refine ⟨w.freeze ⟨L.blk,arr.size,none⟩ 1,?_,⟨?_,?_,?_,s.inj,?_,s.low⟩,⟨fun _ _=>rfl,rfl,rfl,DD _,rfl,rfl,rfl,?_,?_,fun B hB => .inl hB,fun B r hB=>⟨r,by rw [hsame _ (by rintro rfl;rw [h4] at hB;cases hB)];exact hB⟩,by simp [World.freeze];try (repeat' split)<;>exact DD _⟩⟩
 ·unfold markStringish;simp only [Sem.run_bind,run_shape,World.shape?,h4,Result.andThen_ok,run_freeze]
 ·intro c cs hc hcs;obtain ⟨L2,a,T2,f2,g1,g2,g3,g4,g5⟩:=s.old c cs hc hcs;exact ⟨L2,a,T2,f2,g1,g2,g3,by rw [hsame c (by omega)];exact g4,g5⟩
 ·intro c kc hc hgc;by_cases e:c=b
  ·subst e;rw [hg] at hgc;cases hgc;exact ⟨L,arr,T,fr',hL,h2,hnew,h5,h6,.inr hfr',h8,h9⟩
  ·obtain ⟨L2,a,T2,f2,g1,g2,g4,g5⟩:=s.new c kc hc hgc;exact ⟨L2,a,T2,f2,g1,g2,by rw [hsame _ (s.inj c b _ _ L2 L hc hb e (h.bg hgc) (h.bg hg) g1 hL)];exact g4,g5⟩
 ·intro c o hc hgc;obtain ⟨L2,ob,g1,g2,g3,g4⟩:=s.obj c o hc hgc;have e:c≠b:=by rintro rfl;rw [h.bg hg] at hgc;cases hgc
  exact ⟨L2,ob,g1,by rw [hsame _ (s.inj c b _ _ L2 L hc hb e hgc (h.bg hg) g1 hL)];exact g2,g3,g4⟩
 ·unfold World.freeze;simpa using s.size
 ·unfold World.freeze;simp
 ·intro B hB hO;exact hsame B (fun e=>hO ⟨b,_,L,hb,h.bg hg,hL,e.symm⟩)
theorem we {l:List Value} {bs:List UInt8} (e:l.mapM asByte=some bs) : ∃ ns:List Int,l=ns.map (Value.int .u8)/\ns.map (fun n=>UInt8.ofNat n.toNat)=bs:=by
 induction l generalizing bs with
 |nil=>simp at e;subst e;exact ⟨[],rfl,rfl⟩
 |cons v l ih=>
  rw [HT] at e;simp only [bind,DZ,pure,DA] at e;obtain ⟨a,ha,r,hr,rfl⟩:=e;unfold asByte at ha;split at ha
  ·rename_i n;cases ha;obtain ⟨ns,rfl,rfl⟩:=ih hr;exact ⟨n::ns,rfl,rfl⟩
  ·cases ha
theorem foldl_push (ns:List Int) : ∀ (s:ByteArray),ns.foldl (fun r n=>r.push (UInt8.ofNat n.toNat)) s=⟨s.data++(ns.map fun n=>UInt8.ofNat n.toNat).toArray⟩:=by
 induction ns with
 |nil=>intro s;simp
 |cons n ns ih=>
  intro s;simp only [List.foldl_cons,ih,FR];simp [ByteArray.push]
theorem oQ {size n:Nat} {a:Option Addr} {len cap:Nat} {v':Value} {cs:List Value} (s:cI μ h w) (hx:aI μ (.slice a len cap) v') (e:firstA size n (.slice a len cap) h=some cs) (hn:n<=len) (P:Program) :
  ∃ cs',(∀ w',w'.heap=w.heap->(Builtin.firstCells size n v').run P w' = .ok cs'.toArray w')/\aR μ cs cs' /\ ∀ a' l c,v' = .slice (some a') l c->(Go.loadCells a' (n*size)).run P w = .ok cs'.toArray w:=by
 unfold firstA at e;split at e
 ·rename_i heq;cases heq;split at e
  ·cases e;rw [hx.bM rfl];exact ⟨[],by intro w' _;simp [Builtin.firstCells],aR.nil μ,by intro a' l c h;cases h⟩
  ·cases e
 ·rename_i b off sp l c heq;cases heq;split at e
  ·rename_i h0;cases e;refine ⟨[],?_,aR.nil μ,?_⟩
   ·intro w' _;cases hx<;>simp [Builtin.firstCells,h0,Go.loadCells,Go.loadCellsFrom]
   ·intro a' l c _;simp [h0,Go.loadCells,Go.loadCellsFrom]
  ·rename_i h0;split at e
   ·rename_i k hk;split at e
    ·rename_i hle;cases e;have hne:n≠0:=by rintro rfl;simp at h0
     obtain ⟨L,cs',hL,hr,hrun⟩:=s.loadCells hk hle.1 hle.2 P;cases hx with
     |flat h=>simp [flat] at h
     |slice h=>rw [h] at hL;cases hL;exact ⟨cs',by simpa [Builtin.firstCells] using hrun,hr,by intro a' l c h;cases h;exact hrun w rfl⟩
     |vx h=>rw [h] at hL;cases hL;exact ⟨cs',by simpa [Builtin.firstCells] using hrun,hr,by intro a' l c h;cases h;exact hrun w rfl⟩
     |jD h=>exact absurd hn (by omega)
     |zu=>exact absurd hn (by omega)
    ·cases e
   ·cases e
 ·rename_i heq;cases heq
 ·cases e
theorem conv_sound {src dst:TypeId} {x x' r:Value} {h':ai} (s:cI μ h w) (hf:fK μ h h') (hx:aI μ x x') (e:convA P src dst x h=some (r,h')) :
  ∃ μ' r' w',(convert src dst x').run P w = .ok r' w'/\cI μ' h' w'/\cH μ h w μ' h' w'/\aI μ' r r':=by
 unfold convA at e;split at e
 ·rename_i hs hd;rw [hx.int];cases e;refine ⟨μ,_,w,?_,s,.cj,.flat rfl⟩;simp [convert,run_underlying hs,run_underlying hd,Conv.intToInt]
 ·rename_i hs hd;rw [hx.bM rfl];cases e;refine ⟨μ,_,w,?_,s,.cj,.flat rfl⟩;rename_i d _ _ _;cases d<;>simp [convert,run_underlying hs,run_underlying hd]
 ·rename_i d el sb hs hd;rw [hx.bM rfl];split at e
  ·rename_i hel;split at e
   ·rename_i hsz;simp only [DA,DN] at e;obtain ⟨rfl,rfl⟩:=e;obtain ⟨cap,arr,c1,c2,c3,c4,c5⟩:=tG (P:=P) (w:=w) el sb (by unfold maxLen;omega);obtain ⟨hS,hSt⟩:=s.alloc (k:=sb.data.toList.map fun b => .int .u8 b.toNat) hf (arr:=arr) (T:=el) (fr:=(arr.size,arr.size+1)) (.inr (DD _))
     (by have:sb.data.size=sb.size:=rfl;simp;omega)
     (by have:sb.data.size=sb.size:=rfl
         simp only [DY,Array.length_toList,this,c4];exact aR.jU (by rw [bI,DR];intro x hx;obtain ⟨b,_,rfl⟩:=E0.1 hx;rfl)) (w1:={ w.drew with heap:=w.heap.push (.cells arr el (arr.size,arr.size+1)) }) rfl rfl rfl rfl
    refine ⟨_,.slice (some ⟨w.heap.size,0,none⟩) sb.size cap,_,?_,hS,hSt,?_⟩
    ·have:(convert src dst (.string sb)).run P w=(Conv.stringToBytes el sb).run P w:=by cases d<;>simp [convert,run_underlying hs,run_underlying hd,run_underlying hel]
     rw [this,c5]
    ·have:sb.data.size=sb.size:=rfl;have:=aI.vx (μ:=μ.put h.next ⟨w.heap.size,0,arr.size,(sb.data.toList.map fun b=>Value.int .u8 b.toNat).length⟩) (b:=h.next) (off:=0) (len:=sb.size) (cap:=sb.size) (cap':=cap) (s:=1)
      (Mu.cJ _ _ _) (DD _) c1 c2 (by simp) (by simp only;omega)
     simpa using this
   ·cases e
  ·cases e
 ·rename_i el0 el a n c hs hd;split at e
  ·rename_i hel;split at e
   ·rename_i hc;simp only [DK,DS] at hc;obtain ⟨⟨⟨rfl,hb⟩,hlive⟩,hsp⟩:=hc;obtain ⟨k,hk⟩:=FZ.1 hlive;cases e;rw [hs] at hd;cases hd;have main : ∀ (L:xj) (O c':Nat),μ a.block=some L->x' = .slice (some ⟨L.blk,O,none⟩) n c' -> ∃ μ' r' w',(convert src src x').run P w = .ok r' w'/\cI μ' h w'/\cH μ h w μ' h w'/\aI μ' (.slice (some a) n c) r':=by rintro L O c' hL rfl;obtain ⟨w',hrun,hS,hSt⟩:=s.freeze (P:=P) (O:=O) hb hk hL;refine ⟨μ,_,w',?_,hS,hSt,hx⟩;simp [convert,run_underlying hs,run_underlying hel,hrun]
    cases hx with
    |flat h=>simp [flat] at h
    |slice h=>exact main _ _ _ h rfl
    |vx h=>exact main _ _ _ h rfl
    |jD h=>exact main _ _ _ h rfl
    |zu=>simp at hsp
   ·cases e
  ·cases e
 ·rename_i el a n c hs hd;split at e
  ·rename_i hel;split at e
   ·rename_i l hl;split at e
    ·rename_i bs hbs;cases e;obtain ⟨cs',h1,h2,h3⟩:=oQ s hx hl (DD _) P;obtain ⟨ns,rfl,rfl⟩:=we hbs;have hcs:cs'=ns.map (Value.int .u8):=h2.bM (by simp [bI,flat]);subst hcs;refine ⟨μ,.string ⟨(ns.map fun n=>UInt8.ofNat n.toNat).toArray⟩,w,?_,s,.cj,.flat rfl⟩;obtain ⟨b',c',rfl,hnone⟩:=hx.j0;rw [run_convert_bytes_string w src dst el b' n c' hs hel hd];cases b' with
     |none=>
      have:a=none:=by simpa using hnone.symm
      subst this;have hns:ns = []:=by
       have hl':(if n=0 then some [] else none)=some (ns.map (Value.int .u8)):=hl;split at hl'
       ·simpa using (H5 hl').symm
       ·simp at hl'
      subst hns;rfl
     |some a'=>
      have hrun:=h3 a' n c' rfl;rw [GF] at hrun;rw [run_bytesToString w a' n c' ns hrun,foldl_push];simp
    ·cases e
   ·cases e
  ·cases e
 ·cases e
end ops
end
end Go.Abs
