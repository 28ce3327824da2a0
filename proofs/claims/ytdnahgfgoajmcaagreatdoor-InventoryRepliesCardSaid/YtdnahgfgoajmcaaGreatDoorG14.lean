/-
  A part of the proof, spaces and names shortened by a program (a claim may hold 1,500,000 bytes).
  Conditions: as each theorem states.
-/
import Derived.Test.YtdnahgfgoajmcaaGreatDoorG13
import Derived.Test.YtdnahgfgoajmcaaGreatDoorProg
import Derived.KernelRfl
namespace Go.Proofs.YtdnahgfgoajmcaaGreatDoor
open Go Go.Abs Tryz
def bX:List Value := [.int .u32 1116352408,.int .u32 1899447441,.int .u32 3049323471,.int .u32 3921009573,.int .u32 961987163,.int .u32 1508970993,.int .u32 2453635748,.int .u32 2870763221,.int .u32 3624381080,.int .u32 310598401,.int .u32 607225278,.int .u32 1426881987,.int .u32 1925078388,.int .u32 2162078206,.int .u32 2614888103,.int .u32 3248222580,.int .u32 3835390401,.int .u32 4022224774,.int .u32 264347078,.int .u32 604807628,.int .u32 770255983,.int .u32 1249150122,.int .u32 1555081692,.int .u32 1996064986,.int .u32 2554220882,.int .u32 2821834349,.int .u32 2952996808,.int .u32 3210313671,.int .u32 3336571891,.int .u32 3584528711,.int .u32 113926993,.int .u32 338241895,.int .u32 666307205,.int .u32 773529912,.int .u32 1294757372,.int .u32 1396182291,.int .u32 1695183700,.int .u32 1986661051,.int .u32 2177026350,.int .u32 2456956037,.int .u32 2730485921,.int .u32 2820302411,.int .u32 3259730800,.int .u32 3345764771,.int .u32 3516065817,.int .u32 3600352804,.int .u32 4094571909,.int .u32 275423344,.int .u32 430227734,.int .u32 506948616,.int .u32 659060556,.int .u32 883997877,.int .u32 958139571,.int .u32 1322822218,.int .u32 1537002063,.int .u32 1747873779,.int .u32 1955562222,.int .u32 2024104815,.int .u32 2227730452,.int .u32 2361852424,.int .u32 2428436474,.int .u32 2756734187,.int .u32 3204031479,.int .u32 3329325298]
def DI:Nat->Option (List Value):=fun b=>match b with
 | 3=>some bX
 |_=>none
noncomputable def okF (f:FuncId):Bool:=match prog.funcs[f]? with|some fn=>oZ prog fn|none=>false
theorem c119:cC prog 85 cmpS:=CP (fn:=f85) (by kernel_rfl) (by kernel_rfl) (by kernel_rfl) (by kernel_rfl) (by kernel_rfl)
noncomputable abbrev X0:aj:=callL [(85,cmpS)]
theorem X0_sound:bp prog X0:=lC _ (by intro p hp;simp only [FJ,F5,IL] at hp;subst hp;exact c119)
def isTrueV:Value->Bool
 | .bool true=>true
 |_=>false
noncomputable def runQ (f:FuncId) (k:Value->ad->Bool):Bool:=wK prog okF X0 (fun f=>Nat.beq f 85) 100000 40 f [] (pJ prog DI) k
theorem known_runs:runQ 5 (fun v _=>isTrueV v)=true:=by kernel_rfl
theorem ky:prog.follows .mixedOrders=true:=by kernel_rfl
theorem okF_sound : ∀ f fn,okF f=true->prog.funcs[f]? = some fn->oZ prog fn=true:=by intro f fn h1 h2;unfold okF at h1;rw [h2] at h1;exact h1
theorem known_lt:5<prog.funcs.size:=EV (by kernel_rfl)
theorem known_WB:WB (wK prog okF X0 (fun f=>Nat.beq f 85) 100000 40) 5 [] (pJ prog DI) fun v _=>v = .bool true:=by
 refine ⟨fun v _=>isTrueV v,known_runs,fun v h e => ?_⟩;have e:isTrueV v=true:=e;unfold isTrueV at e;split at e
 ·rfl
 ·cases e
noncomputable def s14 (args:List Value) (h:ad):aS:=by classical exact if args = []/\h.get 3=some bX then some (.bool true,h) else none
theorem s14_eq {h:ad} (g:h.get 3=some bX):s14 [] h=some (.bool true,h):=by unfold s14;rw [DL ⟨rfl,g⟩]
theorem c14:cC prog 5 s14:=by
 refine cC.closedQ (vQ (sm:=fun f=>Nat.beq f 85) X0_sound (by unfold aB;omega) ky okF_sound 40) known_lt (v := .bool true) rfl DI ?_ known_WB s14 ?_
 ·intro b cs e;unfold DI at e;split at e
  ·cases e;kernel_rfl
  ·cases e
 ·intro args h r e;unfold s14 at e;split at e
  ·rename_i hh;cases e;refine ⟨hh.1,rfl,fun b cs _ hd => ?_⟩;unfold DI at hd;split at hd
   ·cases hd;exact hh.2
   ·cases hd
  ·cases e
noncomputable abbrev XL:List (FuncId×(List Value->ad->aS)) := [(5,s14),(85,cmpS)]
noncomputable abbrev XX:aj:=callL XL
theorem yR:bp prog XX:=lC _ (by
 intro p hp;simp only [FJ,F5,IL] at hp;rcases hp with rfl|rfl
 ·exact c14
 ·exact c119)
noncomputable def CW:aj:=CC prog XX
theorem kJ:prog.globals.size=4:=by kernel_rfl
theorem aD {f:FuncId} {fn:Func} (i:bP prog f fn) {args:List Value} {h:ad} {r:Value×ad} (hg:4<=h.n0) (hX:XX f args h=none) (e:ba prog CW fn args h=some r):CW f args h=some r:=
 CC_body i (by rw [kJ];exact hg) hX e
theorem r14 {h:ad} (g:h.get 3=some bX):CW 5 [] h=some (.bool true,h):=uk (show XX 5 [] h=some (.bool true,h) from s14_eq g)
abbrev aA (h h':ad):Prop:=az h h' (fun _=>False)
theorem aA.get {h h':ad} (o:aA h h') {b:Nat} {k:iM} (e:h.get b=some k):h'.get b=some k:=(az.get o b (h.aO e) (fun h=>h)).trans e
theorem aq {γ:Type} {o o':aS} {f:Value->ad->Option γ} (h:o=o'):ab o f=ab o' f:=by rw [h]
inductive Kd where
 |u8
 |i (k:IntKind)
 |b
def Kd.has:Kd->Value->Prop
 | .u8,v => ∃ n:Nat,v = .int .u8 n/\n<256
 | .i k,v => ∃ n:Int,v = .int k n/\(Lit.int k n).wf=true
 | .b,v => ∃ t:Bool,v = .bool t
theorem Kd.has.cell {k:Kd} {v:Value} (h:k.has v):dX v=false/\v.oneCell'=true/\flat v=true/\v.cells = #[v]:=by
 cases k with
 |u8=>obtain ⟨n,rfl,_⟩:=h;exact ⟨rfl,rfl,rfl,rfl⟩
 |i k=>obtain ⟨n,rfl,_⟩:=h;exact ⟨rfl,rfl,rfl,rfl⟩
 |b=>obtain ⟨t,rfl⟩:=h;exact ⟨rfl,rfl,rfl,rfl⟩
def cQ (ks:List Kd) (cs:List Value):Prop:=cs.length=ks.length /\ ∀ (j:Nat) (k:Kd),ks[j]? = some k -> ∃ v,cs[j]? = some v/\k.has v
theorem cQ.cell {ks:List Kd} {cs:List Value} (h:cQ ks cs) {j:Nat} {v:Value} (hv:cs[j]? = some v):dX v=false/\v.oneCell'=true/\flat v=true/\v.cells = #[v]:=by
 have hj:=(EP.1 hv).1;have hj':j<ks.length:=by rw [<-h.1];exact hj
 obtain ⟨w,hw,hk⟩:=h.2 j _ (DC hj');rw [hv] at hw;cases hw;exact hk.cell
theorem cQ.all {ks:List Kd} {cs:List Value} (h:cQ ks cs):Abs.noHoles cs=true/\aJ cs=true/\bJ cs=true:=by
 have key : ∀ v∈cs,dX v=false/\v.oneCell'=true/\flat v=true:=fun v hv=>by obtain ⟨j,hj⟩:=H7.1 hv;obtain ⟨a,b,c,_⟩:=h.cell hj;exact ⟨a,b,c⟩
 refine ⟨?_,?_,?_⟩
 ·unfold Abs.noHoles;rw [DT];exact fun v hv=>by rw [(key v hv).1];rfl
 ·unfold aJ;rw [DT];exact fun v hv=>(key v hv).2.1
 ·unfold bJ;rw [DT];exact fun v hv=>(key v hv).2.2
def EqT (t:TypeId) (ks:List Kd):Prop := ∀ xs ys:List Value,cQ ks xs->cQ ks ys -> ∃ r:Bool,(r=true↔xs=ys)/\aC prog .eql t (.agg xs.toArray) (.agg ys.toArray)=some (.bool r)/\aC prog .neq t (.agg xs.toArray) (.agg ys.toArray)=some (.bool !r)
def qS:List Kd:=List.replicate 32 .u8
def gX:List Kd := .u8::(List.replicate 32 .u8 ++ [.i .i64,.i .u64,.i .u64,.b,.i .i64,.i .i64])
theorem size1:cK prog 5=some 1:=by kernel_rfl
theorem fY:cK prog 36=some 32:=by kernel_rfl
theorem dy {xs:List Value} (h:bJ xs=true):ground (.agg xs.toArray)=true:=by show bJ xs.toArray.toList=true;exact h
theorem C5 {xs:List Value} (h:cQ qS xs) {i:Nat} (hi:i<32) : ∃ n:Nat,xs[i]? = some (.int .u8 n)/\n<256:=by obtain ⟨v,h1,n,rfl,h2⟩:=h.2 i .u8 (by unfold qS;rw [GH,DL hi]);exact ⟨n,h1,h2⟩
theorem tD {d:Nat} {xs ys:List Value} (hx:cQ qS xs) (hy:cQ qS ys) : ∃ r:Bool,(r=true↔xs=ys)/\bT prog (Op.equalIn (d+2) 36 (.agg xs.toArray) (.agg ys.toArray))=some r:=by
 obtain ⟨r,h1,h2⟩:=pr_eq_arr (P:=prog) (d:=d) (m:=32) (t:=36) (e:=5) (k := .u8) (j := .u8) (xs:=xs.toArray) (ys:=ys.toArray) Tryz.underlying36 size1 Tryz.underlying5 (fun i hi=>by obtain ⟨a,ha,_⟩:=C5 hx hi;obtain ⟨b,hb,_⟩:=C5 hy hi;exact ⟨a,b,by simpa using ha,by simpa using hb⟩)
 refine ⟨r,h1.trans ⟨fun hh => ?_,fun hh i hi=>by rw [hh]⟩,h2⟩;have lx:xs.length=32:=hx.1;have ly:ys.length=32:=hy.1;refine FE fun i => ?_;by_cases hi:i<32
 ·simpa using hh i hi
 ·rw [EK (by omega),EK (by omega)]
theorem yU {l:List Value} (h:cQ gX l) : ∃ (a:Nat) (o:List Value) (b c d:Int) (e:Bool) (f g:Int),l = .int .u8 a::(o ++ [.int .i64 b,.int .u64 c,.int .u64 d,.bool e,.int .i64 f,.int .i64 g])/\cQ qS o/\a<256/\(Lit.int .i64 b).wf=true/\(Lit.int .u64 c).wf=true/\(Lit.int .u64 d).wf=true/\(Lit.int .i64 f).wf=true/\(Lit.int .i64 g).wf=true:=by
 have hl:l.length=39:=h.1;obtain ⟨_,h0,a,rfl,wa⟩:=h.2 0 .u8 rfl;obtain ⟨_,h33,b,rfl,wb⟩:=h.2 33 (.i .i64) rfl;obtain ⟨_,h34,c,rfl,wc⟩:=h.2 34 (.i .u64) rfl;obtain ⟨_,h35,d,rfl,wd⟩:=h.2 35 (.i .u64) rfl;obtain ⟨_,h36,e,rfl⟩:=h.2 36 .b rfl;obtain ⟨_,h37,f,rfl,wf⟩:=h.2 37 (.i .i64) rfl;obtain ⟨_,h38,g,rfl,wg⟩:=h.2 38 (.i .i64) rfl;refine ⟨a,(l.drop 1).take 32,b,c,d,e,f,g,?_,?_,wa,wb,wc,wd,wf,wg⟩
 ·refine FE fun i => ?_;have hlo:((l.drop 1).take 32).length=32:=by rw [DW,D8];omega
  rcases i with _|i
  ·exact h0
  ·rw [List.getElem?_cons_succ];by_cases hi:i<32
   ·rw [E7 (by omega),FA,DL hi,FB,IX]
   ·rw [EG (by omega),hlo];rcases (show i=32\/i=33\/i=34\/i=35\/i=36\/i=37\/38<=i by omega) with rfl|rfl|rfl|rfl|rfl|rfl|h38'
    ·exact h33
    ·exact h34
    ·exact h35
    ·exact h36
    ·exact h37
    ·exact h38
    ·rw [EK (by omega),EK (by simp;omega)]
 ·refine ⟨by rw [DW,D8,hl];rfl,fun j k hk => ?_⟩;have hj:j<32:=by have:=(EP.1 hk).1;simpa [qS] using this
  have hk':k = .u8:=by unfold qS at hk;rw [GH,DL hj] at hk;exact (HM hk).symm
  subst hk';obtain ⟨v,hv,hh⟩:=h.2 (j+1) .u8 (by unfold gX;rw [List.getElem?_cons_succ,E7 (by simpa using hj),GH,DL hj])
  exact ⟨v,by rw [FA,DL hj,FB,IX];exact hv,hh⟩
theorem jL {a b c d e f:Value} {x:Value} {o:List Value} (ho:o.length=32) (i:Nat):(x::(o ++ [a,b,c,d,e,f])).toArray[33+i]? = [a,b,c,d,e,f][i]? := by rw [G1,show 33+i=(32+i)+1 by omega,List.getElem?_cons_succ,EG (by omega),ho,FF]
theorem ur {x:Value} {o t:List Value} (ho:o.length=32):(x::(o++t)).toArray.extract 1 (1+32)=o.toArray:=by
 rw [List.extract_toArray]
 congr 1
 show ((x::(o++t)).drop 1).take (1+32-1)=o;rw [HK,EJ,show 1+32-1=32 from rfl,<-ho,HC];rfl
theorem eq58:EqT 66 gX:=by
 intro xs ys hx hy;have fx:=hx.all.2.2;have fy:=hy.all.2.2;obtain ⟨a,o,b,c,d,e,f,g,rfl,ho,_⟩:=yU hx;obtain ⟨a',o',b',c',d',e',f',g',rfl,ho',_⟩:=yU hy;obtain ⟨r,hr,hrun⟩:=tD (d:=9997) ho ho';have l1:o.length=32:=ho.1;have l2:o'.length=32:=ho'.1;have hp:bT prog (Op.equalIn 10000 66 (.agg (Value.int .u8 a::(o ++ [.int .i64 b,.int .u64 c,.int .u64 d,.bool e,.int .i64 f,.int .i64 g])).toArray) (.agg (Value.int .u8 a'::(o' ++ [.int .i64 b',.int .u64 c',.int .u64 d',.bool e',.int .i64 f',.int .i64 g'])).toArray))
   = some (decide ((a:Int)=a')&&(r&&(decide (b=b')&&(decide (c=c')&&(decide (d=d')&&(decide (e=e')&&(decide (f=f')&&decide (g=g')))))))):=by
  rw [tI (P:=prog) (d:=9999) Tryz.underlying66 (by kernel_rfl)];simp only [eqF];rw [DL (by decide),DL (by decide),DL (by decide),DL (by decide),DL (by decide),DL (by decide),DL (by decide),DL (by decide)];rw [bZ (v := .int .u8 a) Tryz.underlying64 rfl,bZ (v := .int .u8 a') Tryz.underlying64 rfl,lG Tryz.underlying36 fY,lG Tryz.underlying36 fY,ur l1,ur l2];rw [bZ (v := .int .i64 b) Tryz.underlying3 (jL l1 0),bZ (v := .int .i64 b') Tryz.underlying3 (jL l2 0),bZ (v := .int .u64 c) Tryz.underlying32 (jL l1 1),bZ (v := .int .u64 c') Tryz.underlying32 (jL l2 1),
   bZ (v := .int .u64 d) Tryz.underlying32 (jL l1 2),bZ (v := .int .u64 d') Tryz.underlying32 (jL l2 2),s0 (v := .bool e) Tryz.underlying4 (jL l1 3),s0 (v := .bool e') Tryz.underlying4 (jL l2 3),
   bZ (v := .int .i64 f) Tryz.underlying3 (jL l1 4),bZ (v := .int .i64 f') Tryz.underlying3 (jL l2 4),bZ (v := .int .i64 g) Tryz.underlying3 (jL l1 5),bZ (v := .int .i64 g') Tryz.underlying3 (jL l2 5)]
  simp only [Option.bind_some,jV (d:=9998) Tryz.underlying64,jV (d:=9998) Tryz.underlying3,jV (d:=9998) Tryz.underlying32,pr_eq_bool (d:=9998) Tryz.underlying4,hrun];by_cases e1:(a:Int)=a'
  ·cases r
   ·simp [e1]
   ·by_cases e2:b=b'<;>by_cases e3:c=c'<;>by_cases e4:d=d'<;>by_cases e5:e=e'<;>by_cases e6:f=f'<;>by_cases e7:g=g'<;>simp [e1,e2,e3,e4,e5,e6,e7]
  ·simp [e1]
 refine ⟨_,?_,xg (by kernel_rfl) (dy fx) (dy fy) hp⟩;constructor
 ·intro h;simp only [DJ,DR] at h;obtain ⟨h1,h2,h3,h4,h5,h6,h7,h8⟩:=h;rw [h1,hr.1 h2,h3,h4,h5,h6,h7,h8]
 ·intro h;rw [GD] at h;obtain ⟨h1,h2⟩:=h;have h3:=IM h2 (by omega);obtain ⟨h4,h5⟩:=h3;simp only [GD,Value.int.injEq,Value.bool.injEq,true_and,JE] at h5 h1;simp only [DJ,DR];exact ⟨h1,hr.2 h4,h5⟩
abbrev ak (n:Nat):Value := .int .i64 (n:Int)
theorem dG (h:ad) (cs:List Value) (hc:aJ cs=true):box (.agg cs.toArray) h=some (ptr h.next 0,h.alloc cs):=by have e:(Value.agg cs.toArray).cells=cs.toArray:=rfl;unfold box;rw [e,DL (by simpa using hc)];simp [Abs.newRow]
theorem mid {k A B C:List Value} {p n:Nat} (h:k=A++(B++C)) (hA:A.length=p) (hB:B.length=n):(k.drop p).take n=B:=by subst h hA hB;rw [List.drop_left,IW]
theorem xI {h:ad} {b p n:Nat} {k A B C:List Value} (g:h.get b=some k) (e:k=A++(B++C)) (hA:A.length=p) (hB:B.length=n) (nh:Abs.noHoles B=true):cx n (ptr b p) h=some (.agg B.toArray,h):=by
 have hm:=mid e hA hB;have hl:p+n<=k.length:=by rw [e,DH,DH];omega
 have:=nT g (o:=p) (n:=n) hl (by rw [hm];exact nh);rw [hm] at this;exact this
end Go.Proofs.YtdnahgfgoajmcaaGreatDoor
namespace Go.Proofs.YtdnahgfgoajmcaaGreatDoor
open Go Go.Abs Tryz
attribute [local congr] aq
theorem sf:(some true==some false)=false:=rfl
theorem fs:(some false==some true)=false:=rfl
theorem newC_eq (cs:List Value) (h:ad):dB cs h=some (ptr h.next 0,h.alloc cs):=rfl
theorem is53:bP prog 41 f41:=by constructor<;>kernel_rfl
theorem nil22 (a:Option Addr) (n c:Nat):aC prog .eql 34 (.slice a n c) (.slice none 0 0)=some (.bool a.isNone):=by cases a<;>kernel_rfl
theorem set_app {A B B':List Value} {i:Nat} {v:Value} (j:Nat) (h:A.length+j=i) (e:B.set j v=B'):(A++B).set i v=A++B':=by subst h;rw [IB _ _ (by omega),FF,e]
theorem stN_whole {h:ad} {b:Nat} {k k':iM} (hk:h.get b=some k) (h0:h.n0<=b) {n:Nat} (hn:k.length=n) (hn':k'.length=n) (ho:aJ k'=true):eo n (ptr b 0) (.agg k'.toArray) h=some (undef,h.set b k'):=by
 unfold eo ptr;have hc:(Value.agg k'.toArray).cells=k'.toArray:=rfl;simp only [hc,FI,hn',DY];unfold stL;simp only [hk];rw [DL (by simp [ho,h0,hn,hn'])];have:splice k 0 k'=k':=by simp [splice,hn,hn']
 simp [this]
theorem gtr3 (a k:Nat):aC prog .gtr 3 (ak a) (.int .i64 (k:Int))=some (.bool (decide (k<a))):=by
 rw [bD]
 congr 2
 by_cases e:k<a
 ·rw [DA e,DA (by omega)]
 ·rw [DB e,DB (by omega)]
end Go.Proofs.YtdnahgfgoajmcaaGreatDoor
namespace Go.Proofs.YtdnahgfgoajmcaaGreatDoor
open Go Go.Abs Tryz
section
section
abbrev u8 (n:Nat):Value := .int .u8 (n:Int)
theorem fQ : ∀ l:List Nat,noHoles (l.map u8)=true
 | []=>rfl
 |x::l=>by have:=fQ l;simp only [noHoles,FL,List.all_cons] at this |-;rw [this];rfl
theorem CI (l:List Nat) (o n:Nat):noHoles (((l.map u8).drop o).take n)=true:=by rw [<-List.map_drop,<-List.map_take];exact fQ _
def nat8:Value->Option Nat
 | .int .u8 (.ofNat n)=>if n<256 then some n else none
 |_=>none
theorem nat8_eq {v:Value} {n:Nat} (h:nat8 v=some n):v=u8 n/\n<256:=by
 unfold nat8 at h;split at h
 ·split at h
  ·cases h;exact ⟨rfl,by assumption⟩
  ·cases h
 ·cases h
def bytesOf:List Value->Option (List Nat)
 | []=>some []
 |v::l=>match nat8 v,bytesOf l with
  |some n,some r=>some (n::r)
  |_,_=>none
theorem sr : ∀ {l:List Value} {r:List Nat},bytesOf l=some r->l=r.map u8 /\ ∀ n∈r,n<256
 | [],r,h=>by cases h;exact ⟨rfl,by simp⟩
 |v::l,r,h=>by
  unfold bytesOf at h;split at h
  ·rename_i n r' h1 h2;cases h;obtain ⟨rfl,h3⟩:=nat8_eq h1;obtain ⟨rfl,h4⟩:=sr h2;refine ⟨rfl,fun m hm => ?_⟩;rcases FJ.1 hm with rfl|hm
   ·exact h3
   ·exact h4 m hm
  ·cases h
theorem lL : ∀ {r:List Nat},(∀ n∈r,n<256)->bytesOf (r.map u8)=some r
 | [],_=>rfl
 |n::r,h=>by
  have h1:nat8 (u8 n)=some n:=by show (if n<256 then some n else none)=some n;rw [DL (h n ER)]
  simp -implicitDefEqProofs only [FL,bytesOf,h1,lL (r:=r) (fun m hm=>h m (EM _ hm))]
def av (a:Option Addr) (n:Nat) (h:ad):Option (List Nat):=(firstA 1 n (.slice a n n) h).bind bytesOf
theorem aK {a:Option Addr} {n:Nat} {h:ad} {l:List Nat} (e:av a n h=some l) :
  l.length=n/\(∀ m∈l,m<256)/\(0<n -> ∃ b off s k,a=some ⟨b,off,s⟩/\h.get b=some k/\off+n<=k.length /\ ∀ i,i<n->k[off+i]? = some (u8 (l.getD i 0))):=by
 unfold av at e;rw [DZ] at e;obtain ⟨cs,h1,h2⟩:=e;obtain ⟨rfl,h3⟩:=sr h2;unfold firstA at h1;split at h1
 ·split at h1
  ·rename_i hn;simp -implicitDefEqProofs only [DE] at h1;have:l = []:=by cases l with|nil=>rfl|cons=>simp at h1
   subst this;subst hn;exact ⟨rfl,h3,fun h=>absurd h (by omega)⟩
  ·cases h1
 ·rename_i b off s _ _ heq;split at h1
  ·rename_i hn;simp -implicitDefEqProofs only [DE] at h1;have:l = []:=by cases l with|nil=>rfl|cons=>simp at h1
   subst this;have:n=0:=by omega
   subst this;exact ⟨rfl,h3,fun h=>absurd h (by omega)⟩
  ·split at h1
   ·rename_i k hk;split at h1
    ·rename_i hl0;have hl:=hl0.1;rw [FT] at h1 hl;simp -implicitDefEqProofs only [DE] at h1;have hlen:l.length=n:=by have:=FZ List.length h1;simp -implicitDefEqProofs only [DS,DW,D8] at this;omega
     refine ⟨hlen,h3,fun _=>⟨b,off,s,k,?_,hk,hl,?_⟩⟩
     ·cases heq;rfl
     ·intro i hi;have h4:=FZ (·[i]?) h1;simp -implicitDefEqProofs only [FA,hi,DY,FB,EF] at h4;rw [h4,DK,DC (by omega)];rfl
    ·cases h1
   ·cases h1
 ·cases (show Value.slice a n n = .string _ by assumption)
 ·cases h1
theorem jH {a:Option Addr} {n:Nat} {h h':ad} {l:List Nat} (e:av a n h=some l) (hm : ∀ b k,h.get b=some k->h'.get b=some k):av a n h'=some l:=by
 unfold av at e |-;rw [DZ] at e |-;obtain ⟨cs,h1,h2⟩:=e;refine ⟨cs,?_,h2⟩;unfold firstA at h1 |-;split at h1
 ·exact h1
 ·split at h1
  ·rw [DL (by assumption)];exact h1
  ·rw [DM (by assumption)];split at h1
   ·rename_i k hk;rw [hm _ _ hk];exact h1
   ·cases h1
 ·cases (show Value.slice a n n = .string _ by assumption)
 ·cases h1
end
section
section bytes
theorem pz : ∀ l:List Nat,aJ (l.map u8)=true
 | []=>rfl
 |x::l=>by have:=pz l;simp only [aJ,FL,List.all_cons] at this |-;rw [this];rfl
theorem hJ {a:Option Addr} {n c:Nat} {h:ad} {l:List Nat} (e:av a n h=some l) {m:Nat} (hm:m<=n):firstA 1 m (.slice a n c) h=some ((l.take m).map u8):=by
 unfold av at e;rw [DZ] at e;obtain ⟨cs,h1,h2⟩:=e;obtain ⟨rfl,h3⟩:=sr h2;cases a with
 |none=>
  simp only [firstA] at h1 |-;split at h1
  ·cases l with
   |nil=>simp;omega
   |cons=>simp at h1
  ·cases h1
 |some x=>
  obtain ⟨b,off,s⟩:=x;simp only [firstA,FT] at h1 |-;by_cases hm0:m=0
  ·subst hm0;simp
  ·rw [DM hm0];rw [DM (by omega)] at h1;cases hk:h.get b with
   |none=>rw [hk] at h1;cases h1
   |some k=>
    rw [hk] at h1;simp only at h1 |-;split at h1
    ·rename_i hl0;have hl1:=hl0.1;simp only [DE] at h1;have hk2:List.take m (List.drop off k)=(l.take m).map u8:=by rw [List.map_take,<-h1,HI,HB hm]
     rw [DL ⟨by omega,by rw [hk2];exact fQ _⟩,hk2]
    ·cases h1
end bytes
end
section
def hI (a:Option Addr) (n c:Nat):Bool:=Nat.ble n c&&(match a with|some ⟨_,_,some s⟩=>s==1|_=>true)
theorem goodS_le {a:Option Addr} {n c:Nat} (h:hI a n c=true):n<=c:=by unfold hI at h;rw [DJ] at h;exact EV h.1
theorem oN {b off n lo hi:Nat} {s s':Option Nat} {h:ad} {l:List Nat} (e:av (some ⟨b,off,s⟩) n h=some l) (h1:lo<=hi) (h2:hi<=n) :
  av (some ⟨b,off+lo,s'⟩) (hi-lo) h=some ((l.drop lo).take (hi-lo)):=by
 obtain ⟨hl,hb,hat⟩:=aK e;unfold av;rw [DZ];refine ⟨((l.drop lo).take (hi-lo)).map u8,?_,lL (fun x hx=>hb x (FV (EZ hx)))⟩;simp only [firstA,FT];by_cases h0:hi-lo=0
 ·rw [DL h0,h0];rfl
 ·rw [DM h0];obtain ⟨b',off',s'',k,hx,hk,hkl,hk2⟩:=hat (by omega);cases hx;simp only [hk];have hcells:(k.drop (off+lo)).take (hi-lo)=((l.drop lo).take (hi-lo)).map u8:=by
   apply FE;intro i;rw [FA,EF,FA,FB,FB];by_cases hi2:i<hi-lo
   ·rw [DL hi2,DL hi2,F4,hk2 (lo+i) (by omega),DK,DC (by omega)];rfl
   ·rw [DM hi2,DM hi2];rfl
  rw [hcells,DL ⟨by omega,fQ _⟩]
theorem BU {a:Option Addr} {n c lo hi:Nat} {vl vh:Option Value} {h:ad} {l:List Nat} (g:hI a n c=true) (e:av a n h=some l) (h1:lo<=hi) (h2:hi<=n) (hh:boundA n c vh=some hi) (hl:boundA 0 hi vl=some lo) :
  ∃ a' c',iw 1 (.slice a n c) vl vh none=some (.slice a' (hi-lo) c')/\av a' (hi-lo) h=some ((l.drop lo).take (hi-lo))/\hI a' (hi-lo) c'=true/\(∀ y,a'=some y -> ∃ y0,a=some y0/\y0.block=y.block):=by
 have hn:=goodS_le g;have hb:boundsA n c vl vh none=some (lo,hi,c):=by unfold boundsA;have:boundA c c none=some c:=rfl;rw [this];simp only [hh,hl]
 have hble:Nat.ble (hi-lo) (c-lo)=true:=HR (by omega);cases a with
 |none=>
  have hl0:l = []:=by
   unfold av firstA at e;by_cases hz:n=0
   ·subst hz;obtain ⟨h3,_⟩:=aK (a:=none) (n:=0) (h:=h) (l:=l) (by unfold av firstA;exact e);exact DU.1 h3
   ·simp only [hz,D3,Option.bind_none] at e;cases e
  have hn0:n=0:=by have:=(aK e).1;rw [hl0] at this;exact this.symm
  subst hn0;have:hi=0:=by omega
  subst this;have:lo=0:=by omega
  subst this;refine ⟨none,c-0,?_,?_,?_,fun y hy=>(by cases hy)⟩
  ·unfold iw sliceSl;simp only [hb]
  ·subst hl0;rfl
  ·unfold hI;simp
 |some x=>
  obtain ⟨b,off,s⟩:=x;cases s with
  |none=>
   refine ⟨some ⟨b,if c=lo then off else off+lo*1,none⟩,c-lo,?_,?_,?_,fun y hy=>⟨_,rfl,(by cases hy;rfl)⟩⟩
   ·unfold iw sliceSl;simp only [hb]
   ·by_cases hc:c=lo
    ·have h3:hi-lo=0:=by omega
     rw [DL hc,h3];have:(l.drop lo).take 0 = []:=rfl;rw [this];unfold av firstA;simp;rfl
    ·rw [DM hc,FT];exact oN e h1 h2
   ·unfold hI;rw [hble];rfl
  |some s=>
   have hs:s=1:=by unfold hI at g;rw [DJ] at g;exact eq_of_beq g.2
   subst hs;refine ⟨some ⟨b,off+lo*1,some 1⟩,c-lo,?_,?_,?_,fun y hy=>⟨_,rfl,(by cases hy;rfl)⟩⟩
   ·unfold iw sliceSl;simp [hb]
   ·rw [FT];exact oN e h1 h2
   ·unfold hI;rw [hble];rfl
theorem mN {a:Option Addr} {n:Nat} {h h':ad} (e : ∀ x,a=some x->h'.get x.block=h.get x.block):av a n h'=av a n h:=by
 unfold av firstA;cases a with
 |none=>rfl
 |some x=>simp only [e x rfl]
end
section
theorem cG {h:ad} {b off n:Nat} {s:Option Nat} {l:List Nat} (hg:h.get b=some (l.map u8)) (hl:off+n<=l.length) (hb : ∀ x∈l,x<256):av (some ⟨b,off,s⟩) n h=some ((l.drop off).take n):=by
 unfold av;rw [DZ];refine ⟨((l.drop off).take n).map u8,?_,lL (fun y hy=>hb y (FV (EZ hy)))⟩;simp only [firstA,hg,FT];by_cases h0:n=0
 ·rw [DL h0,h0];rfl
 ·rw [DM h0,DL ⟨by simpa using hl,CI _ _ _⟩];simp
end
section
theorem iY (h:ad):cg 1 (.int .u8 0) 0 [] h=some (.slice (some ⟨h.next,0,none⟩) 0 0,h.alloc []):=rfl
end
section
theorem sS {g:ad} {E:Nat} {a:Option Addr} {n c:Nat} {l:List Nat} (_:g.n0<=E) (hl:av a n g=some l) (hn:n<=21000) :
  ∃ b s c' g',appendA 1 1 (.slice (some ⟨E,0,none⟩) 0 0) (.slice a n c) g=some (.slice (some ⟨b,0,s⟩) n c',g')/\av (some ⟨b,0,s⟩) n g'=some l/\hI (some ⟨b,0,s⟩) n c'=true/\(b=E\/(b=g.next/\g.next<g'.next)) /\
    g'.n0=g.n0/\g.next<=g'.next/\(∀ e,e<g.next->g'.getB e=g.getB e):=by
 obtain ⟨hlen,hb,_⟩:=aK hl;have hf:=hJ hl (DF n) (c:=c);rw [D1 (by omega)] at hf;have hcond:(!(aJ (l.map u8)) || !(decide ((0+n)*1<=140737488355328)) || !(decide (0+n<=4611686018427387904))||decide ((l.map u8).length≠n*1))=false:=by rw [pz,DA (by omega:(0+n)*1<=140737488355328),DA (by omega:0+n<=4611686018427387904),DB (by simp;omega)];rfl
 unfold appendA;simp only [ie,hf];rw [DM (by rw [hcond];decide)];by_cases h0:n=0
 ·subst h0;have:l = []:=DU.1 hlen;subst this;rw [DL (by omega),DL rfl];exact ⟨E,none,0,g,rfl,rfl,rfl,.inl rfl,rfl,DF _,fun _ _=>rfl⟩
 ·rw [DM (by omega)];have f0:firstA 1 0 (.slice (some ⟨E,0,none⟩) 0 0) g=some []:=rfl;simp only [f0];rw [DM (by simp)];refine ⟨g.next,some 1,0+n,g.alloc ([]++l.map u8),by rw [DG],?_,?_,.inr ⟨rfl,by simp⟩,rfl,by simp,?_⟩
  ·rw [List.nil_append,cG (l:=l) (by rw [ad.aF,DL rfl]) (by omega) hb,EJ,D1 (by omega)]
  ·unfold hI;rw [DG];simp
  ·intro e he;rw [ad.cF,DM (by omega)]
end
section
theorem aA.bytes {h h':ad} (o:aA h h') {a:Option Addr} {n:Nat} {l:List Nat} (e:av a n h=some l):av a n h'=some l:=jH e fun _ _=>o.get
theorem r69b {a:Option Addr} {n c:Nat} {l:List Nat} {h:ad} (hG:4<=h.n0) (hl:av a n h=some l) (hn:n<=21000) :
  ∃ a' c' h',CW 41 [.slice a n c] h=some (.slice a' n c',h')/\av a' n h'=some l/\hI a' n c'=true/\aA h h'/\(∀ y,a'=some y->h.next<=y.block/\y.block<h'.next)/\(a'.isNone=a.isNone):=by
 cases a with
 |none=>
  have h0:n=0:=by
   obtain ⟨h1,_,h3⟩:=aK hl;by_cases hz:n=0
   ·exact hz
   ·obtain ⟨_,_,_,_,h4,_⟩:=h3 (by omega);cases h4
  subst h0;refine ⟨none,0,h,aD is53 hG rfl ((t53_eq _ _ _).trans ?_),hl,rfl,az.refl _ _,fun y hy=>by (cases hy),rfl⟩;unfold t53;simp -implicitDefEqProofs only [ae,nil22,af,Option.isNone_none]
 |some x=>
  have hl1:av (some x) n (h.alloc [])=some l:=jH hl fun _ _ hc=>ad.kA hc _;obtain ⟨b,s,c',g',e1,e2,e3,e4,e5,e6,e7⟩:=sS (g:=h.alloc []) (E:=h.next) (c:=c) h.n0_le_next hl1 hn;refine ⟨some ⟨b,0,s⟩,c',g',aD is53 hG rfl ((t53_eq _ _ _).trans ?_),e2,e3,(az.alloc h [] _).trans ⟨e5,e6,fun d hd _=>e7 d hd⟩,?_,rfl⟩
  ·unfold t53;simp -implicitDefEqProofs only [ae,nil22,af,Option.isNone_some,iY,e1]
  ·intro y hy;cases hy;have hn1:(h.alloc []).next=h.next+1:=by simp
   show h.next<=b/\b<g'.next;rcases e4 with e4|⟨e4,e8⟩
   ·omega
   ·omega
theorem _root_.Go.Abs.az.bytes {h h':ad} {B:Nat->Prop} (k:az h h' B) {a:Option Addr} {n:Nat} {l:List Nat} (e:av a n h=some l) (hb : ∀ y,a=some y->0<n -> ¬B y.block):av a n h'=some l:=by
 by_cases h0:n=0
 ·subst h0;obtain ⟨hl,_,_⟩:=aK e;have:l = []:=DU.1 hl;subst this;cases a with
  |none=>rfl
  |some x=>unfold av firstA;simp;rfl
 ·obtain ⟨_,_,h3⟩:=aK e;obtain ⟨b,off,s,c,rfl,hc,_⟩:=h3 (by omega);rw [mN (h:=h) (fun y hy=>by cases hy;exact k.get b (h.aO hc) (hb _ rfl (by omega)))];exact e
structure IsR (h:ad) (p r:Nat) (l:List Nat) (e:Int):Prop where
 ex : ∃ a n c,h.get r=some [.slice a n c,.int .i64 e]/\av a n h=some l/\hI a n c=true /\ ∀ y,a=some y->p<=y.block/\y.block<r
 n0:h.n0<=r
 len:l.length<=21000
 g4:4<=h.n0
 pr:p<=r
def be (l:List Nat):Nat:=l.foldl (fun v x=>v*256+x) 0
end
section
section
variable {p r:Nat} {l:List Nat} {h:ad} (R:IsR h p r l 0)
include R
end
end
end
end Go.Proofs.YtdnahgfgoajmcaaGreatDoor
namespace Go.Proofs.YtdnahgfgoajmcaaGreatDoor
open Go Go.Abs Tryz
attribute [local congr] aq
end Go.Proofs.YtdnahgfgoajmcaaGreatDoor
namespace Go.Proofs.YtdnahgfgoajmcaaGreatDoor
open Go Go.Abs Tryz
section
section
theorem BK {h:ad} {L:Nat} (h0:h.n0<=L) (hn:L<h.next) {c:Nat} (hc:c≠L):(h.kill L).getB c=h.getB c:=by unfold ad.kill;rw [ad.cP h h0 hn,DM hc]
end
section
end
section
theorem setPlain {h:ad} {b:Nat} {k k':iM} (hk:h.get b=some k) (h0:h.n0<=b):az h (h.set b k') (fun c=>c=b)/\(h.set b k').get b=some k':=⟨az.set h0 hk (.inr rfl),ad.dF h0 hk _⟩
end
section
def fG:Value->Option Nat
 | .slice (some a) _ _=>some a.block
 |_=>none
def qV (h:ad) (N size:Nat) (v:Value) (len:Nat) (cells:List Value):Prop:=
 cells.length=len*size/\Abs.noHoles cells=true/\aJ cells=true /\
 ((v = .slice none 0 0/\len=0) \/ ∃ b s,v = .slice (some ⟨b,0,s⟩) len len/\N<=b/\((s=none/\len=0)\/(s=some size/\h.get b=some cells)))
theorem qV.nil (h:ad) (N size:Nat):qV h N size (.slice none 0 0) 0 []:=⟨by simp,rfl,rfl,.inl ⟨rfl,rfl⟩⟩
theorem qV.keep {h h':ad} {N size:Nat} {v:Value} {len:Nat} {cells:List Value} (o:qV h N size v len cells) {B:Nat->Prop} (k:az h h' B) (hB : ∀ b,fG v=some b -> ¬B b):qV h' N size v len cells:=by
 obtain ⟨h1,h2,h3,h4⟩:=o;refine ⟨h1,h2,h3,?_⟩;rcases h4 with h4|⟨b,s,rfl,h5,h6|⟨h6,h7⟩⟩
 ·exact .inl h4
 ·exact .inr ⟨b,s,rfl,h5,.inl h6⟩
 ·exact .inr ⟨b,s,rfl,h5,.inr ⟨h6,k.getE h7 (hB b rfl)⟩⟩
theorem iK (a b:List Value) (ha:Abs.noHoles a=true) (hb:Abs.noHoles b=true):Abs.noHoles (a++b)=true:=by unfold Abs.noHoles at *;rw [E6,ha,hb];rfl
theorem gM (a b:List Value) (ha:aJ a=true) (hb:aJ b=true):aJ (a++b)=true:=by unfold aJ at *;rw [E6,ha,hb];rfl
theorem append_own {h:ad} {N size oC len m:Nat} {v x:Value} {cells news:List Value} (o:qV h N size v len cells) (h0:h.n0<=N) (hN:N<=h.next) (_:0<size) (hx:ie x=some m) (hf:firstA size m x h=some news)
  (h1:aJ news=true) (h2:Abs.noHoles news=true) (hl:news.length=m*size) (hb:(len+m)*oC<=140737488355328) (hc:len+m<=4611686018427387904) :
  ∃ v' h',appendA size oC v x h=some (v',h')/\qV h' N size v' (len+m) (cells++news)/\az h h' (fun c=>fG v=some c/\h.get c=some cells)/\(v'=v\/(fG v'=some h.next/\h.next<h'.next)):=by
 have o':=o;obtain ⟨o1,o2,o3,o4⟩:=o;have hcond : ∀ len':Nat,len'=len->(!(aJ news) || !(decide ((len'+m)*oC<=140737488355328)) || !(decide (len'+m<=4611686018427387904))||decide (news.length≠m*size))=false:=by rintro _ rfl;rw [h1,DA hb,DA hc,DB (by omega)];rfl
 by_cases hm:m=0
 ·subst hm;have hn:news = []:=DU.1 (by omega);subst hn;have ho:qV h N size v (len+0) (cells ++ []):=by rw [EN];exact o'
  refine ⟨v,h,?_,ho,az.refl _ _,.inl rfl⟩;rcases o4 with ⟨rfl,rfl⟩|⟨b,s,rfl,h5,h6⟩
  ·unfold appendA;simp only [hx,hf];rw [DM (by rw [hcond 0 rfl];decide),DL (by omega),DL trivial]
  ·unfold appendA;simp only [hx,hf];rw [DM (by rw [hcond len rfl];decide),DL (by omega),DL trivial]
 ·have fresh : ∀ cs:List Value,cs = []->len=0->qV (h.alloc news) N size (.slice (some ⟨h.next,0,some size⟩) (len+m) (len+m)) (len+m) (cs++news):=by rintro _ rfl rfl;exact ⟨by simpa using hl,by simpa using h2,by simpa using h1,.inr ⟨h.next,_,rfl,hN,.inr ⟨rfl,by rw [ad.aF,DL rfl];rfl⟩⟩⟩
  rcases o4 with ⟨rfl,rfl⟩|⟨b,s,rfl,h5,⟨rfl,rfl⟩|⟨rfl,h6⟩⟩
  ·have hce:cells = []:=DU.1 (by simpa using o1);refine ⟨_,_,?_,fresh cells hce rfl,az.alloc _ _ _,.inr ⟨rfl,by simp⟩⟩;unfold appendA;simp only [hx,hf];rw [DM (by rw [hcond 0 rfl];decide),DM (by omega),DL trivial]
  ·have hce:cells = []:=DU.1 (by simpa using o1);refine ⟨_,_,?_,fresh cells hce rfl,az.alloc _ _ _,.inr ⟨rfl,by simp⟩⟩;unfold appendA;simp only [hx,hf];have f0:firstA size 0 (.slice (some ⟨b,0,none⟩) 0 0) h=some []:=by simp [firstA]
   rw [DM (by rw [hcond 0 rfl];decide),DM (by omega)];simp only [f0];rw [DM (by simp)];rfl
  ·have hf2:firstA size len (.slice (some ⟨b,0,some size⟩) len len) h=some cells:=by
    simp only [firstA];by_cases hz:len*size=0
    ·rw [DL hz];have:cells = []:=DU.1 (by omega);rw [this]
    ·rw [DM hz];simp only [h6];have e:(cells.drop 0).take (len*size)=cells:=by rw [EJ,D1 (by omega)]
     simp only [e];rw [DL ⟨by omega,o2⟩]
   have hlt:=h.aO h6;have hk : ∀ c,c<h.next->c≠b->((h.kill b).alloc (cells++news)).getB c=h.getB c:=by intro c hc hne;rw [ad.cF,DM (by rw [ad.gh];omega)];exact BK (by omega) hlt hne
   refine ⟨.slice (some ⟨h.next,0,some size⟩) (len+m) (len+m),(h.kill b).alloc (cells++news),?_,⟨by rw [DH,o1,hl,GY],iK _ _ o2 h2,gM _ _ o3 h1,.inr ⟨h.next,_,rfl,hN,.inr ⟨rfl,?_⟩⟩⟩,⟨rfl,by simp,fun c hc hB=>hk c hc (fun e=>hB (by rw [e];exact ⟨rfl,h6⟩))⟩,.inr ⟨rfl,by simp⟩⟩
   ·unfold appendA;simp only [hx,hf];rw [DM (by rw [hcond len rfl];decide),DM (by omega)];simp only [hf2];rw [DM (by simp [o1]),DL (by simp [h6];omega)]
   ·rw [ad.aF,DL (by rw [ad.gh])]
structure eS (h:ad) (N:Nat) (v:Value) (l:List Nat):Prop where
 own:qV h N 1 v l.length (l.map u8)
 byte : ∀ x∈l,x<256
theorem eS.nil (h:ad) (N:Nat):eS h N (.slice none 0 0) []:=⟨.nil h N 1,by simp⟩
theorem eS.keep {h h':ad} {N:Nat} {v:Value} {l:List Nat} (o:eS h N v l) {B:Nat->Prop} (k:az h h' B) (hB : ∀ b,fG v=some b -> ¬B b):eS h' N v l:=⟨o.own.keep k hB,o.byte⟩
theorem eS.bytes {h:ad} {N:Nat} {v:Value} {l:List Nat} (o:eS h N v l) : ∃ a c,v = .slice a l.length c/\av a l.length h=some l/\hI a l.length c=true/\(∀ y,a=some y->N<=y.block)/\(∀ y,a=some y->fG v=some y.block):=by
 obtain ⟨⟨o1,o2,o3,o4⟩,ob⟩:=o;rcases o4 with ⟨rfl,h4⟩|⟨b,s,rfl,h5,⟨rfl,h4⟩|⟨rfl,h6⟩⟩
 ·have:l = []:=DU.1 h4;subst this;exact ⟨none,0,rfl,rfl,rfl,fun y hy=>(by cases hy),fun y hy=>(by cases hy)⟩
 ·have:l = []:=DU.1 h4;subst this;exact ⟨_,_,rfl,rfl,rfl,fun y hy=>(by cases hy;exact h5),fun y hy=>(by cases hy;rfl)⟩
 ·refine ⟨_,_,rfl,?_,?_,fun y hy=>by cases hy;exact h5,fun y hy=>by cases hy;rfl⟩
  ·have:=cG (off:=0) (n:=l.length) (s:=some 1) h6 (by omega) ob;rw [this,EJ,D1 (DF _)]
  ·unfold hI;rw [HR (DF _)];rfl
theorem p8 {h:ad} {N n c:Nat} {v:Value} {l m:List Nat} {a:Option Addr} (o:eS h N v l) (h0:h.n0<=N) (hN:N<=h.next) (hm:av a n h=some m) (hb:l.length+n<=100000000) :
  ∃ v' h',appendA 1 1 v (.slice a n c) h=some (v',h')/\eS h' N v' (l++m)/\az h h' (fun c=>fG v=some c)/\(v'=v\/(fG v'=some h.next/\h.next<h'.next)):=by
 obtain ⟨hl,hbt,_⟩:=aK hm;have hf:=hJ hm (DF n) (c:=c);rw [D1 (by omega)] at hf;obtain ⟨v',h',e1,e2,e3,e4⟩:=append_own (oC:=1) o.own h0 hN (by decide) (show ie (.slice a n c)=some n from rfl) hf (pz _) (fQ _) (by simp [hl]) (by omega) (by omega);refine ⟨v',h',e1,⟨?_,?_⟩,e3.mono (fun c _ hc=>hc.1),e4⟩
 ·rw [DH,FG,hl];exact e2
 ·intro x hx;rcases D9.1 hx with hx|hx
  ·exact o.byte x hx
  ·exact hbt x hx
end
section
theorem sub3 {a b:Nat} (h:b<=a) (h2:a<=9223372036854775807):aC prog .sub 3 (ak a) (ak b)=some (ak (a-b)):=by unfold ak;rw [fi,wrap_i64 (by omega) (by omega)];exact FZ (fun q=>some (Value.int .i64 q)) (by omega)
end
section
structure zZ (h:ad) (N w lim:Nat) (l:List Nat):Prop where
 ex : ∃ v,h.get w=some [ak lim,.bool false,v]/\eS h N v l/\fG v≠some w /\ ∀ b,fG v=some b->b<h.next
 n0:h.n0<=N
 Nw:N<=w
 small:lim<=100000
 g4:4<=h.n0
def wb (h:ad) (w:Nat):Option Nat:=match h.get w with
 |some [_,_,v]=>fG v
 |_=>none
def Fr (h:ad) (w b:Nat):Prop:=b<h.next/\b≠w/\wb h w≠some b
structure WS (w:Nat) (h h':ad):Prop where
 n0:h'.n0=h.n0
 next:h.next<=h'.next
 getB : ∀ b,Fr h w b->h'.getB b=h.getB b
 fr : ∀ b,Fr h w b->Fr h' w b
theorem WS.get {w:Nat} {h h':ad} (x:WS w h h') (b:Nat) (f:Fr h w b):h'.get b=h.get b:=by unfold ad.get;rw [x.getB b f]
theorem WS.refl (w:Nat) (h:ad):WS w h h:=⟨rfl,DF _,fun _ _=>rfl,fun _ f=>f⟩
theorem WS.trans {w:Nat} {a b c:ad} (x:WS w a b) (y:WS w b c):WS w a c:=⟨y.n0.trans x.n0,D5 x.next y.next,fun d f=>(y.getB d (x.fr d f)).trans (x.getB d f),fun d f=>y.fr d (x.fr d f)⟩
theorem WS.of_old {w:Nat} {h h':ad} (hw:w<h.next) (o:aA h h'):WS w h h':=⟨o.n0,o.next,fun b f=>az.getB o b f.1 (fun h=>h),fun b f=>⟨ED f.1 o.next,f.2.1,by
 have:wb h' w=wb h w:=by unfold wb;rw [az.get o w hw (fun h=>h)]
 rw [this];exact f.2.2⟩⟩
theorem WS.bytes {w:Nat} {h h':ad} (k:WS w h h') {a:Option Addr} {n:Nat} {l:List Nat} (e:av a n h=some l) (hb : ∀ y,a=some y->0<n->Fr h w y.block):av a n h'=some l:=by
 by_cases h0:n=0
 ·subst h0;obtain ⟨hl,_,_⟩:=aK e;have:l = []:=DU.1 hl;subst this;cases a with
  |none=>rfl
  |some x=>unfold av firstA;simp;rfl
 ·obtain ⟨_,_,h3⟩:=aK e;obtain ⟨b,off,s,c,rfl,hc,_⟩:=h3 (by omega);rw [mN (h:=h) (fun y hy=>by cases hy;exact k.get b (hb _ rfl (by omega)))];exact e
theorem zZ.lt {h:ad} {N w lim:Nat} {l:List Nat} (W:zZ h N w lim l):w<h.next:=by obtain ⟨v,h1,_⟩:=W.ex;exact h.aO h1
theorem eS.cell {h:ad} {N:Nat} {v:Value} {l:List Nat} (o:eS h N v l):v.cells = #[v]/\v.oneCell'=true/\dX v=false:=by obtain ⟨a,c,rfl,_⟩:=o.bytes;exact ⟨rfl,rfl,rfl⟩
theorem w_append {h:ad} {N w lim:Nat} {l m:List Nat} {a:Option Addr} {n c:Nat} (W:zZ h N w lim l) (hm:av a n h=some m) (hb:l.length+n<=100000) :
  ∃ v v' g g',ld1 (ptr w 2) h=some (v,h)/\appendA 1 1 v (.slice a n c) h=some (v',g)/\eo 1 (ptr w 2) v' g=some (undef,g')/\zZ g' N w lim (l++m)/\WS w h g':=by
 obtain ⟨v,h1,h2,h3,hbn⟩:=W.ex;have hlt:=W.lt;have hNw:=W.Nw;obtain ⟨v',g,e1,e2,e3,e4⟩:=p8 (c:=c) h2 W.n0 (by omega) hm (by omega);have hg:=e3.getE h1 h3;obtain ⟨c1,c2,c3⟩:=e2.cell;have n0g:g.n0<=w:=by rw [e3.n0];have:=W.n0;omega
 have hst:eo 1 (ptr w 2) v' g=some (undef,g.set w [ak lim,.bool false,v']):=xJ hg (by simp) n0g c1 c2;obtain ⟨k2,k3⟩:=setPlain (k' := [ak lim,.bool false,v']) hg n0g;have hv':fG v'≠some w:=by
  rcases e4 with rfl|⟨e4,_⟩
  ·exact h3
  ·rw [e4];intro he;cases he;omega
 refine ⟨v,v',g,_,aU h1 rfl (h2.cell.2.2),e1,hst,⟨⟨v',k3,e2.keep k2 (fun b hb hc=>by subst hc;exact hv' hb),hv',fun b hb=>by
  rcases e4 with rfl|⟨e4,e5⟩
  ·exact ED (hbn b hb) (D5 e3.next k2.next)
  ·rw [e4] at hb;cases hb;exact ED e5 k2.next⟩,?_,hNw,W.small,by rw [k2.n0,e3.n0];exact W.g4⟩,⟨k2.n0.trans e3.n0,D5 e3.next k2.next,fun b f => ?_,fun b f=>⟨ED f.1 (D5 e3.next k2.next),f.2.1,?_⟩⟩⟩
 ·rw [k2.n0,e3.n0];exact W.n0
 ·have hwb:wb h w=fG v:=by unfold wb;rw [h1]
  have f3:=f.2.2;rw [hwb] at f3;exact (k2.getB b (ED f.1 e3.next) f.2.1).trans (e3.getB b f.1 f3)
 ·have hwb:wb h w=fG v:=by unfold wb;rw [h1]
  have f3:=f.2.2;rw [hwb] at f3;have hwb':wb (g.set w [ak lim,.bool false,v']) w=fG v':=by unfold wb;rw [k3]
  rw [hwb'];rcases e4 with rfl|⟨e4,_⟩
  ·exact f3
  ·rw [e4];intro he;cases he;have:=f.1;omega
theorem is87:bP prog 55 f55:=by constructor<;>kernel_rfl
theorem r87 (h:ad) (hG:4<=h.n0) {lim:Nat} (hl:lim<=100000) : ∃ h',CW 55 [ak lim] h=some (ptr h.next 0,h')/\zZ h' h.next h.next lim []/\aA h h' /\ ∀ b,b<h.next->Fr h' h.next b:=by
 have hmx:minmax true (.int .i64 0) [ak lim]=some (ak lim):=by
  simp only [minmax,ak,DY];by_cases h0:(lim:Int)>0
  ·rw [DL (by simpa using h0)]
  ·have:lim=0:=by omega
   subst this;rfl
 have hb:ei [.int .i64 0,.bool false,.slice none 0 0] [(0,1,ak lim)]=some (.agg [ak lim,.bool false,.slice none 0 0].toArray):=rfl;refine ⟨h.alloc [ak lim,.bool false,.slice none 0 0],aD is87 hG rfl ((t87_eq _ _ _).trans ?_),⟨⟨.slice none 0 0,by rw [ad.aF,DL rfl],.nil _ _,(by intro h;cases h),(by intro b h;cases h)⟩,h.n0_le_next,DF _,hl,hG⟩,az.alloc _ _ _,fun b hb=>⟨by rw [ad.cq];omega,by omega,by
  have:wb (h.alloc [ak lim,.bool false,.slice none 0 0]) h.next=none:=by unfold wb;rw [ad.aF,DL rfl];rfl
  rw [this];intro h;cases h⟩⟩
 unfold t87;simp -implicitDefEqProofs only [ae,hmx,af,hb,dG h [ak lim,.bool false,.slice none 0 0] rfl]
theorem is126:bP prog 88 f88:=by constructor<;>kernel_rfl
theorem eql110 (b o:Nat):aC prog .eql 103 (ptr b o) (.pointer none)=some (.bool false):=by kernel_rfl
theorem r126 {h:ad} {N w lim:Nat} {l:List Nat} (W:zZ h N w lim l) {n:Nat} (hn:l.length+n<=lim) : ∃ h',CW 88 [ptr w 0,ak n] h=some (.bool true,h')/\zZ h' N w lim l/\WS w h h':=by
 obtain ⟨v,h1,h2,h3,hbn⟩:=W.ex;obtain ⟨a,c,hv,h4,h5,h6,h7⟩:=h2.bytes;have hNw:=W.Nw;have n0w:h.n0<=w:=by have:=W.n0;omega
 have l0:ld1 (ptr w 0) h=some (ak lim,h):=aU h1 rfl;have l1:ld1 (ptr w 1) h=some (.bool false,h):=aU h1 rfl;have l2:ld1 (ptr w 2) h=some (.slice a l.length c,h):=by rw [<-hv];exact aU h1 rfl (h2.cell.2.2)
 have hst:eo 1 (ptr w 1) (.bool false) h=some (undef,h.set w [ak lim,.bool false,v]):=xJ h1 (by simp) n0w rfl rfl;obtain ⟨k2,k3⟩:=setPlain (k' := [ak lim,.bool false,v]) h1 n0w;have hsm:=W.small;have hd:(decide (lim-l.length<n))=false:=DB (by omega);refine ⟨_,aD is126 W.g4 rfl ((t126_eq _ _ _ _).trans ?_),⟨⟨v,k3,h2.keep k2 (fun b hb hc=>by subst hc;exact h3 hb),h3,fun b hb=>ED (hbn b hb) k2.next⟩,k2.n0▸W.n0,hNw,hsm,k2.n0▸W.g4⟩,⟨k2.n0,k2.next,fun b f=>k2.getB b f.1 f.2.1,fun b f=>⟨ED f.1 k2.next,f.2.1,by
  have e1:wb h w=fG v:=by unfold wb;rw [h1]
  have e2:wb (h.set w [ak lim,.bool false,v]) w=fG v:=by unfold wb;rw [k3]
  rw [e2,<-e1];exact f.2.2⟩⟩⟩
 have l1':ld1 (ptr w 1) (h.set w [ak lim,.bool false,v])=some (.bool false,h.set w [ak lim,.bool false,v]):=aU k3 rfl;unfold t126;simp -implicitDefEqProofs only [ae,eql110,af,bw,D4,aw,bR,ay,DG,l1,DD,D3,l0,l2,lenL_slice];rw [show (Value.int .i64 (l.length:Int))=ak l.length from rfl];simp -implicitDefEqProofs only [sub3 (show l.length<=lim by omega) (show lim<=9223372036854775807 by omega), af, ae, gtr3, hd, hst, l1', aT, DN]
def fL:Nat->Nat->List Nat
 | 0,_ => []
 |n+1,v=>(v/256^n%256)::fL n v
theorem bO : ∀ n v,(fL n v).length=n
 | 0,_=>rfl
 |n+1,v=>by rw [fL,List.length_cons,bO]
theorem is125:bP prog 87 f87:=by constructor<;>kernel_rfl
theorem r9 (h:ad) (x:Nat):cg 1 (.int .u8 0) 1 [(0,u8 x)] h=some (.slice (some ⟨h.next,0,none⟩) 1 1,h.alloc [u8 x]):=rfl
theorem jD (h:ad) {x:Nat} (hx:x<256):av (some ⟨h.next,0,none⟩) 1 (h.alloc [u8 x])=some [x]:=by have:=cG (h:=h.alloc [u8 x]) (b:=h.next) (off:=0) (n:=1) (s:=none) (l := [x]) (by rw [ad.aF,DL rfl];rfl) (by simp) (by simpa using hx);rw [this];rfl
theorem zZ.old {h h':ad} {N w lim:Nat} {l:List Nat} (W:zZ h N w lim l) (o:aA h h'):zZ h' N w lim l:=by obtain ⟨v,h1,h2,h3,h4⟩:=W.ex;exact ⟨⟨v,o.getE h1 (fun h=>h),h2.keep o (fun _ _ h=>h),h3,fun b hb=>ED (h4 b hb) o.next⟩,by rw [o.n0];exact W.n0,W.Nw,W.small,by rw [o.n0];exact W.g4⟩
theorem zZ.alloc {h:ad} {N w lim:Nat} {l:List Nat} (W:zZ h N w lim l) (k:iM):zZ (h.alloc k) N w lim l:=W.old (az.alloc _ _ _)
theorem r125 {h:ad} {N w lim:Nat} {l:List Nat} (W:zZ h N w lim l) {v n:Nat} (h1n:1<=n) (hn:n<=8) (hfit:l.length+n<=lim) (_:v<18446744073709551616) :
  ∃ h',CW 87 [ptr w 0,.int .u64 v,ak n] h=some (.tuple #[],h')/\zZ h' N w lim (l++fL n v)/\WS w h h':=by
 obtain ⟨h1,e1,W1,k1⟩:=r126 W hfit;have hsm:=W.small;have key:Fin 30 (fun ex y g=>ex = .exit 0/\zZ g N w lim (l++fL n v)/\WS w h g)
   (iter (codeA prog CW (au f87 [1,0,1,0,0])) aB (aL 30 (up (bs [ptr w 0,.int .u64 v,ak n]) [(6,ak (n-1)),(7,ptr w 0),(8,ak n),(9,.bool true),(10,ak n),(11,ak (n-1))])) h1):=by
  refine bk (uP CW) (Inv:=fun k y g=>k<=n/\y 0=ptr w 0/\y 1 = .int .u64 v/\y 6 = .int .i64 ((k:Int)-1)/\WS w h g /\ ∃ cur,zZ g N w lim cur/\cur++fL k v=l++fL n v) ?_ n (by have:aB=18446744073709551616:=rfl;omega)
   ⟨DF _,rfl,rfl,by show ak (n-1)=_;unfold ak;exact FZ _ (by omega),k1,l,W1,rfl⟩
  rintro k y g ⟨hk,i0,i1,i6,hkept,cur,Wc,hcur⟩;have hclen:cur.length+k=l.length+n:=by have:=FZ List.length hcur;simpa [bO] using this
  unfold mF;simp -implicitDefEqProofs only [i6,ae,bH,af];by_cases hz:k=0
  ·subst hz;have hd:decide ((((0:Nat):Int)-1)>=0)=false:=by decide
   simp -implicitDefEqProofs only [hd];refine cR.out 0 ⟨rfl,?_,hkept⟩;have:cur=l++fL n v:=by simpa [fL] using hcur
   rw [<-this];exact Wc
  ·obtain ⟨q,rfl⟩ : ∃ q,k=q+1:=⟨k-1,by omega⟩
   have hd:decide ((((q+1:Nat):Int)-1)>=0)=true:=DA (by omega);have hm8:aC prog .mul 3 (.int .i64 8) (.int .i64 (((q+1:Nat):Int)-1))=some (.int .i64 ((8*q:Nat):Int)):=by rw [iC,wrap_i64 (by omega) (by omega)];exact FZ (fun z=>some (Value.int .i64 z)) (by omega)
   have hsh:aC prog .shr 32 (.int .u64 (v:Int)) (.int .i64 ((8*q:Nat):Int))=some (.int .u64 ((v/256^q:Nat):Int)):=by rw [ez prog 32 (k := .u64) (k' := .i64) (b:=8*q) (by show 8*q<=64;omega)];rw [show (2:Nat)^(8*q)=256^q by rw [Nat.pow_mul]]
   have hcv:IntKind.wrap .u8 ((v/256^q:Nat):Int)=((v/256^q%256:Nat):Int):=by rw [fZ];omega
   have hlt8:v/256^q%256<256:=GV _ (by decide);generalize hx:v/256^q%256=x at *;obtain ⟨v1,v2,g1,g2,f1,f2,f3,f4,f5⟩:=w_append (c:=1) (Wc.alloc [u8 x]) (jD g hlt8) (by omega);have hl2:ld1 (ptr w 2) g=some (v1,g):=by obtain ⟨vv,q1,q2,q3⟩:=Wc.ex;have e1:ld1 (ptr w 2) g=some (vv,g):=aU q1 rfl (q2.cell.2.2);have e2:ld1 (ptr w 2) (g.alloc [u8 x])=some (vv,g.alloc [u8 x]):=aU (ad.kA q1 _) rfl (q2.cell.2.2);rw [e2] at f1;simp only [DE,DO,JE] at f1;rw [<-f1];exact e1
   have hsub:aC prog .sub 3 (.int .i64 (((q+1:Nat):Int)-1)) (.int .i64 1)=some (.int .i64 ((q:Int)-1)):=by rw [fi,wrap_i64 (by omega) (by omega)];exact FZ (fun z=>some (Value.int .i64 z)) (by omega)
   simp -implicitDefEqProofs only [hd,i0,i1,ae,af,bR,ay,DG,hl2,hm8,hsh,du,hcv];rw [show (Value.int .u8 (x:Int))=u8 x from rfl,r9];simp -implicitDefEqProofs only [ae, f2, af, f3, hsub];refine cR.next q (by omega) ⟨by omega,i0,i1,rfl,?_,cur ++ [x],f4,?_⟩
   ·exact (hkept.trans (WS.of_old Wc.lt (az.alloc g _ _))).trans f5
   ·rw [<-hcur,fL,hx,EC];rfl
 obtain ⟨ex,y,g,q1,rfl,q2,q3⟩:=key;refine ⟨g,aD is125 W.g4 rfl ((t125_eq _ _ _ _ _).trans ?_),q2,q3⟩;unfold t125;have hs1:aC prog .sub 3 (ak n) (.int .i64 1)=some (ak (n-1)):=sub3 (b:=1) h1n (by omega);simp -implicitDefEqProofs only [ae,e1,hs1,af];rw [q1];simp -implicitDefEqProofs only [aV,b125_2,DY];have hr:f87.results.toList = []:=by kernel_rfl
 rw [cE,hr];rfl
end
section
theorem is90:bP prog 58 f58:=by constructor<;>kernel_rfl
theorem is88:bP prog 56 f56:=by constructor<;>kernel_rfl
theorem is91:bP prog 59 f59:=by constructor<;>kernel_rfl
section
variable {h:ad} {N w lim:Nat} {l:List Nat} (W:zZ h N w lim l)
include W
theorem r90 {v:Nat} (hfit:l.length+8<=lim) (hv:v<18446744073709551616) : ∃ h',CW 58 [ptr w 0,.int .u64 v] h=some (.tuple #[],h')/\zZ h' N w lim (l++fL 8 v)/\WS w h h':=by obtain ⟨h1,e1,e2,e3⟩:=r125 W (v:=v) (n:=8) (by decide) (by decide) hfit (by omega);have e1:CW 87 [ptr w 0,.int .u64 v,.int .i64 8] h=_:=e1;refine ⟨h1,aD is90 W.g4 rfl ((t90_eq _ _ _ _).trans ?_),e2,e3⟩;unfold t90;simp -implicitDefEqProofs only [ae,e1]
theorem r88 {v:Nat} (hfit:l.length+1<=lim) (hv:v<256) : ∃ h',CW 56 [ptr w 0,.int .u8 v] h=some (.tuple #[],h')/\zZ h' N w lim (l++fL 1 v)/\WS w h h':=by obtain ⟨h1,e1,e2,e3⟩:=r125 W (v:=v) (n:=1) (by decide) (by decide) hfit (by omega);have e1:CW 87 [ptr w 0,.int .u64 v,.int .i64 1] h=_:=e1;have hw:IntKind.wrap .u64 (v:Int)=(v:Int):=wrap_u64 (by omega) (by omega);refine ⟨h1,aD is88 W.g4 rfl ((t88_eq _ _ _ _).trans ?_),e2,e3⟩;unfold t88;simp -implicitDefEqProofs only [ae,du,hw,e1]
theorem r91 (hl:l.length<=21000) : ∃ a c h',CW 59 [ptr w 0] h=some (.tuple #[.slice a l.length c,.int .i64 0],h')/\av a l.length h'=some l/\hI a l.length c=true/\aA h h'/\(∀ y,a=some y->h.next<=y.block):=by
 obtain ⟨v,h1,h2,h3⟩:=W.ex;obtain ⟨a,c,hv,h4,h5,h6,h7⟩:=h2.bytes;obtain ⟨a',c',h',e1,e2,e3,e4,e5,_⟩:=r69b (c:=c) W.g4 h4 hl;have l1:ld1 (ptr w 1) h=some (.bool false,h):=aU h1 rfl;have l2:ld1 (ptr w 2) h=some (.slice a l.length c,h):=by rw [<-hv];exact aU h1 rfl (h2.cell.2.2)
 refine ⟨a',c',h',aD is91 W.g4 rfl ((t91_eq _ _ _).trans ?_),e2,e3,e4,fun y hy=>(e5 y hy).1⟩;unfold t91;simp -implicitDefEqProofs only [ae,eql110,af,bR,ay,DG,l1,l2,e1]
end
end
end
theorem cQ.CZ {ks ls:List Kd} {a b:List Value} (x:cQ ks a) (y:cQ ls b):cQ (ks++ls) (a++b):=by
 refine ⟨by rw [DH,DH,x.1,y.1],fun j k hk => ?_⟩;by_cases hj:j<ks.length
 ·rw [E7 hj] at hk;obtain ⟨v,h1,h2⟩:=x.2 j k hk;exact ⟨v,by rw [E7 (by rw [x.1];exact hj)];exact h1,h2⟩
 ·rw [EG (by omega)] at hk;obtain ⟨v,h1,h2⟩:=y.2 _ k hk;exact ⟨v,by rw [EG (by rw [x.1];omega),x.1];exact h1,h2⟩
theorem cQ.one {k:Kd} {v:Value} (h:k.has v):cQ [k] [v]:=⟨rfl,fun j t ht=>by
 cases j with
 |zero=>cases ht;exact ⟨v,rfl,h⟩
 |succ j=>cases ht⟩
@[ext] structure ao where
  kind:Nat
  obj:List Nat
  aN:Int
  gO:Nat
  oG:Nat
  held:Bool
  k:Int
  n:Int
abbrev aY (l:List Nat):List Value:=l.map u8
def bL (r:ao):List Value := .int .u8 (r.kind:Int)::(aY r.obj ++ [.int .i64 r.aN,.int .u64 (r.gO:Int),.int .u64 (r.oG:Int),.bool r.held,.int .i64 r.k,.int .i64 r.n])
def I64 (n:Int):Prop := -9223372036854775808<=n/\n<=9223372036854775807
def w9 (l:List Nat):Prop := ∀ x∈l,x<256
def ic (l:List Nat):Prop:=l.length=32/\w9 l
structure ao.Wf (r:ao):Prop where
 kind:r.kind<256
 obj:ic r.obj
 aN:I64 r.aN
 gO:r.gO<18446744073709551616
 oG:r.oG<18446744073709551616
 k:I64 r.k
 n:I64 r.n
theorem si {n:Int}:(Lit.int .i64 n).wf=true↔I64 n:=by unfold I64;simp [Lit.wf,IntKind.min,IntKind.max,IntKind.signed,IntKind.bits]
theorem wf_u64' {m:Nat} (h:m<18446744073709551616):(Lit.int .u64 (m:Int)).wf=true:=by simp [Lit.wf,IntKind.min,IntKind.max,IntKind.signed,IntKind.bits];omega
theorem cH {l:List Nat} (h:ic l):cQ qS (aY l):=by
 refine ⟨by rw [DS];exact h.1,fun j k hk => ?_⟩;have hj:j<32:=by have:=(EP.1 hk).1;simpa [qS] using this
 unfold qS at hk;rw [GH,DL hj] at hk;cases hk;have hj':j<l.length:=by rw [h.1];exact hj
 exact ⟨_,by rw [EF,DC hj'];rfl,_,rfl,h.2 _ (EA hj')⟩
theorem cA {r:ao} (h:r.Wf):cQ gX (bL r):=
 (cQ.one (k := .u8) ⟨_,rfl,h.kind⟩).CZ ((cH h.obj).CZ ((cQ.one (k := .i .i64) ⟨_,rfl,si.2 h.aN⟩).CZ ((cQ.one (k := .i .u64) ⟨_,rfl,wf_u64' h.gO⟩).CZ ((cQ.one (k := .i .u64) ⟨_,rfl,wf_u64' h.oG⟩).CZ
  ((cQ.one (k := .b) ⟨_,rfl⟩).CZ ((cQ.one (k := .i .i64) ⟨_,rfl,si.2 h.k⟩).CZ (cQ.one (k := .i .i64) ⟨_,rfl,si.2 h.n⟩)))))))
theorem tv {a b:List Nat} (h:aY a=aY b):a=b:=List.map_inj_right (fun x y e=>by have e:(Value.int .u8 (x:Int)) = .int .u8 (y:Int):=e;simp only [Value.int.injEq,true_and] at e;omega) |>.1 h
theorem tE {a b:ao} (ha:a.obj.length=32) (hb:b.obj.length=32) (h:bL a=bL b):a=b:=by unfold bL at h;rw [GD] at h;obtain ⟨h1,h2⟩:=h;obtain ⟨h3,h4⟩:=IM h2 (by simp [aY,ha,hb]);simp only [GD,Value.int.injEq,Value.bool.injEq,true_and,JE] at h1 h4;obtain ⟨q1,q2,q3,q4,q5,q6⟩:=h4;exact ao.ext (by omega) (tv h3) q1 (by omega) (by omega) q4 q5 q6
end Go.Proofs.YtdnahgfgoajmcaaGreatDoor
namespace Go.Proofs.YtdnahgfgoajmcaaGreatDoor
open Go Go.Abs Tryz
attribute [local congr] aq
def im (r:ao):Bool:=decide (r.aN>=0)&&decide (r.aN<16)&&decide ((r.gO:Int)>=1)
def z32:List Nat:=List.replicate 32 0
def ao.z:ao:=⟨0,z32,0,0,0,false,0,0⟩
deriving instance DecidableEq for ao
def ao.bN (r:ao):ao:={ ao.z with kind:=r.kind,aN:=r.aN,gO:=r.gO }
def ao.grave (r:ao):ao:={ ao.z with kind:=r.kind,obj:=r.obj }
def vz (r:ao):Bool:=im r&&decide ((r.oG:Int)>=1)&&decide (1<=r.k)&&decide (r.k<=r.n)&&decide (r.n<=255)
def de (r:ao):Bool:=if (r.kind:Int)==1 then decide (r=r.bN)&&im r else if (r.kind:Int)==2 then decide (r=r.grave) else if (r.kind:Int)==3 then vz r else false
theorem is86:bP prog 45 f45:=by constructor<;>kernel_rfl
theorem is42:bP prog 20 f20:=by constructor<;>kernel_rfl
theorem aM {r:ao} (w:r.Wf):(bL r).length=39/\Abs.noHoles (bL r)=true/\aJ (bL r)=true:=by have t:=cA w;exact ⟨t.1,t.all.1,t.all.2.1⟩
structure RLd (h:ad) (b:Nat) (r:ao):Prop where
 l0:ld1 (ptr b 0) h=some (.int .u8 (r.kind:Int),h)
 l1:cx 32 (ptr b 1) h=some (.agg (aY r.obj).toArray,h)
 l33:ld1 (ptr b 33) h=some (.int .i64 r.aN,h)
 l34:ld1 (ptr b 34) h=some (.int .u64 (r.gO:Int),h)
 l35:ld1 (ptr b 35) h=some (.int .u64 (r.oG:Int),h)
 l36:ld1 (ptr b 36) h=some (.bool r.held,h)
 l37:ld1 (ptr b 37) h=some (.int .i64 r.k,h)
 l38:ld1 (ptr b 38) h=some (.int .i64 r.n,h)
 all:cx 39 (ptr b 0) h=some (.agg (bL r).toArray,h)
theorem js {h:ad} {b:Nat} {r:ao} (w:r.Wf) (g:h.get b=some (bL r)):RLd h b r:=by
 have ho:(aY r.obj).length=32:=by rw [DS];exact w.obj.1
 have hd:=(cH w.obj).all.1;have fA : ∀ i v,[Value.int .i64 r.aN,.int .u64 (r.gO:Int),.int .u64 (r.oG:Int),.bool r.held,.int .i64 r.k,.int .i64 r.n][i]? = some v->(bL r)[33+i]? = some v:=fun i v e=>by unfold bL;rw [show 33+i=(32+i)+1 by omega,List.getElem?_cons_succ,EG (by omega),ho,FF];exact e
 exact ⟨aU g rfl rfl,xI g (A := [.int .u8 (r.kind:Int)]) (B:=aY r.obj) rfl rfl ho hd,aU g (fA 0 _ rfl) rfl,aU g (fA 1 _ rfl) rfl,aU g (fA 2 _ rfl) rfl,aU g (fA 3 _ rfl) rfl,aU g (fA 4 _ rfl) rfl,aU g (fA 5 _ rfl) rfl,
  xI g (A := []) (B:=bL r) (C := []) (by simp) rfl (aM w).1 (aM w).2.1⟩
theorem xq (h:ad) {r:ao} (w:r.Wf) : ∃ h1,box (.agg (bL r).toArray) h=some (ptr h.next 0,h1)/\aA h h1/\RLd h1 h.next r:=by
 have g1:(h.alloc (bL r)).get h.next=some (bL r):=by rw [ad.aF,DL rfl]
 exact ⟨_,dG h _ (aM w).2.2,az.alloc _ _ _,js w g1⟩
theorem r86 {h:ad} (hG:4<=h.n0) {r:ao} (w:r.Wf) : ∃ h',CW 45 [.agg (bL r).toArray] h=some (.bool (im r),h')/\aA h h':=by
 obtain ⟨h1,b1,o1,A⟩:=xq h w;refine ⟨h1,aD is86 hG rfl ((t86_eq _ _ _).trans ?_),o1⟩;unfold t86 im;cases q0:decide (r.aN>=0) with
 |false=>simp -implicitDefEqProofs only [b1, A.l33, ae, af, bw, fs, ax, DD, D3, ay, DG, bH, q0, EB]
 |true=>
 cases q1:decide (r.aN<16) with
 |false=>simp -implicitDefEqProofs only [b1, A.l33, ae, af, bw, fs, D4, aw, ax, DD, D3, DY, ay, DG, bH, bG, q0, q1, EO, EB]
 |true=>
 cases q2:decide ((r.gO:Int)>=1) with
 |false=>simp -implicitDefEqProofs only [b1, A.l33, A.l34, ae, af, bw, D4, aw, DY, ay, DG, bH, bG, q0, q1, q2, DV, EO]
 |true=>
 simp -implicitDefEqProofs only [b1, A.l33, A.l34, ae, af, bw, D4, aw, DY, ay, DG, bH, bG, q0, q1, q2, DV]
theorem ku {A B C B':List Value} {o n:Nat} (hA:A.length=o) (hB:B.length=n) (hB':B'.length=n):splice (A++(B++C)) o B'=A++(B'++C):=by subst hA;unfold splice;rw [IW,hB',EC,<-hB,<-List.length_append,<-List.append_assoc A B C,List.drop_left]
theorem jr {z A B C B':List Value} {o n:Nat} {cI:List (Nat×Nat×Value)} (e:z=A++(B++C)) (hA:A.length=o) (hB:B.length=n) (hB':B'.length=n):fillL z ((o,n,.agg B'.toArray)::cI)=fillL (A++(B'++C)) cI:=by
 subst e;have hc:(Value.agg B'.toArray).cells=B'.toArray:=rfl;simp only [fillL,hc,FI,hB'];rw [DL (by
  have:o+n<=(A++(B++C)).length:=by rw [DH,DH,hA,hB];omega
  simp only [DA this];simp),ku hA hB hB']
theorem vW:I64 0:=⟨by decide,by decide⟩
theorem base_wf {r:ao} (w:r.Wf):r.bN.Wf:=⟨w.kind,⟨rfl,fun x hx=>by have:=F6 hx;omega⟩,w.aN,w.gO,by show (0:Nat)<_;omega,vW,vW⟩
theorem grave_wf {r:ao} (w:r.Wf):r.grave.Wf:=⟨w.kind,w.obj,vW,by show (0:Nat)<_;omega,by show (0:Nat)<_;omega,vW,vW⟩
theorem bld_base (r:ao):ei kr [(0,1,.int .u8 (r.kind:Int)),(33,1,.int .i64 r.aN),(34,1,.int .u64 (r.gO:Int))]=some (.agg (bL r.bN).toArray):=rfl
theorem bld_grave {r:ao} (w:r.Wf):ei kr [(0,1,.int .u8 (r.kind:Int)),(1,32,.agg (aY r.obj).toArray)]=some (.agg (bL r.grave).toArray):=by have e:fillL kr [(0,1,.int .u8 (r.kind:Int)),(1,32,.agg (aY r.obj).toArray)]=fillL ([.int .u8 (r.kind:Int)]++(aY z32 ++ [.int .i64 0,.int .u64 0,.int .u64 0,.bool false,.int .i64 0,.int .i64 0])) [(1,32,.agg (aY r.obj).toArray)]:=rfl;unfold ei;rw [e,jr (A := [.int .u8 (r.kind:Int)]) (B:=aY z32) (o:=1) (n:=32) rfl rfl rfl (by rw [DS];exact w.obj.1)];rfl
theorem pQ {a b:ao} (wa:a.Wf) (wb:b.Wf):aC prog .eql 66 (.agg (bL a).toArray) (.agg (bL b).toArray)=some (.bool (decide (a=b))):=by
 obtain ⟨r,h1,h2,_⟩:=eq58 _ _ (cA wa) (cA wb);have hr:r=decide (a=b):=by
  by_cases e:a=b
  ·rw [DA e,h1.2 (by rw [e])]
  ·rw [DB e];cases r with
   |false=>rfl
   |true=>exact absurd (tE wa.obj.1 wb.obj.1 (h1.1 rfl)) e
 rw [h2,hr]
theorem r42 {h:ad} (hG:4<=h.n0) {r:ao} (w:r.Wf) : ∃ h',CW 20 [.agg (bL r).toArray] h=some (.bool (de r),h')/\aA h h':=by
 obtain ⟨h1,b1,o1,A⟩:=xq h w;obtain ⟨h2,e2,o2⟩:=r86 (h:=h1) (by rw [o1.n0];exact hG) w;have e3:=bld_base r;have e4:=bld_grave w;have e5:=pQ w (base_wf w);have e6:=pQ w (grave_wf w);unfold de;cases k1:(r.kind:Int)==1 with
 |true=>
  simp only [DY];cases q0:decide (r=r.bN) with
  |false=>
   refine ⟨h1,aD is42 hG rfl ((zp _ _ _).trans ?_),o1⟩;unfold t42;simp -implicitDefEqProofs only [b1, A.l0, A.l33, A.l34, A.all, e3, e5, k1, q0, ae, af, bw, fs, ax, DD, D3, ay, DG, bA, EB]
  |true=>
   refine ⟨h2,aD is42 hG rfl ((zp _ _ _).trans ?_),o1.trans o2⟩;unfold t42;simp -implicitDefEqProofs only [b1, A.l0, A.l33, A.l34, A.all, e3, e5, e2, k1, q0, ae, af, bw, D4, aw, DY, ay, DG, bA, EE]
 |false=>
  simp only [DD,D3];cases k2:(r.kind:Int)==2 with
  |true=>
   simp only [DY];refine ⟨h1,aD is42 hG rfl ((zp _ _ _).trans ?_),o1⟩;unfold t42;simp -implicitDefEqProofs only [b1, A.l0, A.l1, A.all, e4, e6, k1, k2, ae, af, ay, DG, bA]
  |false=>
   simp only [DD,D3];cases k3:(r.kind:Int)==3 with
   |true=>
    simp only [DY];have A2:RLd h2 h.next r:=js w (aA.get o2 (by obtain ⟨_,b1',_⟩:=xq h w;have:=dG h (bL r) (aM w).2.2;rw [b1] at this;cases this;rw [ad.aF,DL rfl]))
    refine ⟨h2,aD is42 hG rfl ((zp _ _ _).trans ?_),o1.trans o2⟩;unfold t42 vz;cases q0:im r with
    |false=>simp -implicitDefEqProofs only [b1, A.l0, A.all, e2, k1, k2, k3, ae, af, bw, fs, ax, DD, D3, ay, DG, bA, q0, EB]
    |true=>
    cases q1:decide ((r.oG:Int)>=1) with
    |false=>simp -implicitDefEqProofs only [b1, A.l0, A.all, e2, k1, k2, k3, A2.l35, ae, af, bw, fs, D4, aw, ax, DD, D3, DY, ay, DG, bH, bA, q0, q1, EO, EB]
    |true=>
    cases q2:decide (1<=r.k) with
    |false=>simp -implicitDefEqProofs only [b1, A.l0, A.all, e2, k1, k2, k3, A2.l35, A2.l37, ae, af, bw, fs, D4, aw, ax, DD, D3, DY, ay, DG, bH, bQ, bA, q0, q1, q2, DV, EO, EB]
    |true=>
    cases q3:decide (r.k<=r.n) with
    |false=>simp -implicitDefEqProofs only [b1, A.l0, A.all, e2, k1, k2, k3, A2.l35, A2.l37, A2.l38, ae, af, bw, fs, D4, aw, ax, DD, D3, DY, ay, DG, bH, bQ, bA, q0, q1, q2, q3, DV, EO, EB]
    |true=>
    cases q4:decide (r.n<=255) with
    |false=>simp -implicitDefEqProofs only [b1, A.l0, A.all, e2, k1, k2, k3, A2.l35, A2.l37, A2.l38, ae, af, bw, D4, aw, DY, ay, DG, bH, bQ, bA, q0, q1, q2, q3, q4, DV, EO]
    |true=>
    simp -implicitDefEqProofs only [b1, A.l0, A.all, e2, k1, k2, k3, A2.l35, A2.l37, A2.l38, ae, af, bw, D4, aw, DY, ay, DG, bH, bQ, bA, q0, q1, q2, q3, q4, DV]
   |false=>
    refine ⟨h1,aD is42 hG rfl ((zp _ _ _).trans ?_),o1⟩;unfold t42;simp -implicitDefEqProofs only [b1, A.l0, k1, k2, k3, ae, af, DD, D3, ay, DG, bA]
theorem ld_agg {t n:Nat} (h1:rH prog t=some true) (h2:cK prog t=some n) (v:Value) (h:ad):ld prog t v h=cx n v h:=by unfold ld;rw [h1,h2]
theorem mT {n k:Nat} (hk:k<n) (x:Nat->Value):(aL n x).getD k undef=x k:=by unfold aL;simp [hk]
theorem yM:ic z32:=⟨rfl,fun x hx=>by have:=F6 hx;omega⟩
theorem ext0 (a b:Value):extractA (.tuple #[a,b]) 0=some a:=rfl
theorem ext1 (a b:Value):extractA (.tuple #[a,b]) 1=some b:=rfl
theorem fresh (cs:List Value) (h:ad) : ∃ h2,dB cs h=some (ptr h.next 0,h2)/\aA h h2/\h2.get h.next=some cs/\h2.next=h.next+1:=
 ⟨_,newC_eq _ _,az.alloc _ _ _,by rw [ad.aF,DL rfl],rfl⟩
theorem stored {h:ad} {b o:Nat} {k:iM} {v:Value} (g:h.get b=some k) (hn:h.n0<=b) (ho:o<k.length) (hc:v.cells = #[v]) (hv:v.oneCell'=true) : ∃ h2,eo 1 (ptr b o) v h=some (undef,h2)/\az h h2 (· = b)/\h2.get b=some (k.set o v)/\h2.n0<=b/\h2.next=h.next:=
 ⟨_,xJ g ho hn hc hv,az.set hn g (.inr rfl),ad.dF hn g _,hn,rfl⟩
theorem aX {h:ad} {b n:Nat} {k k':iM} (g:h.get b=some k) (hn:h.n0<=b) (hl:k.length=n) (hl':k'.length=n) (ho:aJ k'=true) : ∃ h2,eo n (ptr b 0) (.agg k'.toArray) h=some (undef,h2)/\az h h2 (· = b)/\h2.get b=some k'/\h2.n0<=b/\h2.next=h.next:=
 ⟨_,stN_whole g hn hl hl' ho,az.set hn g (.inr rfl),ad.dF hn g _,hn,rfl⟩
theorem is89:bP prog 57 f57:=by constructor<;>kernel_rfl
theorem r89 {h:ad} {N w lim:Nat} {l:List Nat} (W:zZ h N w lim l) {a:Option Addr} {n c:Nat} {m:List Nat} (hm:av a n h=some m) (ha : ∀ y,a=some y->0<n->Fr h w y.block) (hfit:l.length+n<=lim) :
  ∃ h',CW 57 [ptr w 0,.slice a n c] h=some (.tuple #[],h')/\zZ h' N w lim (l++m)/\WS w h h':=by
 obtain ⟨h1,e1,W1,k1⟩:=r126 W (n:=n) hfit;have hsm:=W.small;obtain ⟨v1,v2,g1,g2,f1,f2,f3,f4,f5⟩:=w_append (c:=c) W1 (k1.bytes hm ha) (by omega);have hl:lenL (.slice a n c)=some (ak n):=rfl;refine ⟨g2,aD is89 W.g4 rfl ((t89_eq _ _ _ _).trans ?_),f4,k1.trans f5⟩;unfold t89;simp -implicitDefEqProofs only [ae,hl,af,e1,bR,ay,DG,f1,f2,f3]
theorem ym (b o:Nat):sliceArr 32 1 (ptr b o) none none none=some (.slice (some ⟨b,o,none⟩) 32 32):=by unfold sliceArr;rfl
theorem Cq (l:List Nat):Abs.noHoles (aY l)=true/\aJ (aY l)=true:=by
 refine ⟨?_,?_⟩
 ·unfold Abs.noHoles;rw [DT];intro v hv;obtain ⟨x,_,rfl⟩:=E2.1 hv;rfl
 ·unfold aJ;rw [DT];intro v hv;obtain ⟨x,_,rfl⟩:=E2.1 hv;rfl
theorem bc {h:ad} {b n:Nat} {k:List Value} (g:h.get b=some k) (hl:k.length=n) (nh:Abs.noHoles k=true):cx n (ptr b 0) h=some (.agg k.toArray,h):=xI g (A := []) (B:=k) (C := []) (by simp) rfl hl nh
def i8 (x:Int):Nat:=(x%256).toNat
theorem mR (x:Int):i8 x<256:=by unfold i8;omega
theorem BZ (x:Int):IntKind.wrap .u8 x=(i8 x:Nat):=by rw [fZ];unfold i8;omega
def BR (b:Bool):Nat:=if b then 1 else 0
def jI (r:ao):List Nat:=fL 1 r.kind++(r.obj++(fL 1 (i8 r.aN)++(fL 8 r.gO++(fL 8 r.oG++(fL 1 (BR r.held)++(fL 1 (i8 r.k)++fL 1 (i8 r.n)))))))
theorem fW {h:ad} {b off:Nat} {s:Option Nat} {k A C:List Value} {l:List Nat} (g:h.get b=some k) (e:k=A++(aY l++C)) (hA:A.length=off) (hb:w9 l):av (some ⟨b,off,s⟩) l.length h=some l:=by
 unfold av;rw [DZ];refine ⟨aY l,?_,lL hb⟩;have hm:=mid e hA (show (aY l).length=l.length from DS ..);have hl:off+l.length<=k.length:=by rw [e,DH,DH,DS,hA];omega
 simp only [firstA,g,FT];by_cases h0:l.length=0
 ·rw [DL h0,DU.1 h0];rfl
 ·rw [DM h0,hm,DL ⟨hl,(Cq l).1⟩]
theorem xT {g:ad} {b off m i v:Nat} {s:Option Nat} {k:iM} {l:List Nat} (h0:g.n0<=b) (hk:g.get b=some k) (hl:av (some ⟨b,off,s⟩) m g=some l) (hi:i<m) (hv:v<256) :
  ∃ h',eo 1 (ptr b (off+i)) (u8 v) g=some (undef,h')/\av (some ⟨b,off,s⟩) m h'=some (l.set i v)/\az g h' (· = b)/\h'.next=g.next:=by
 obtain ⟨hlen,hb,hat⟩:=aK hl;obtain ⟨b',off',s',k',he,hk',hkl,hc⟩:=hat (by omega);cases he;rw [hk] at hk';cases hk';obtain ⟨h',e1,e2,e3,_,e5⟩:=stored (v:=u8 v) (o:=off+i) hk h0 (by omega) rfl rfl;refine ⟨h',e1,?_,e2,e5⟩;have hcells:(k.drop off).take m=aY l:=by
  refine FE fun j => ?_;rw [FA];by_cases hj:j<m
  ·rw [DL hj,FB,hc j hj,EF,DK,DC (by omega)];rfl
  ·rw [DM hj,EK (by rw [DS];omega)]
 have hsplit:(k.set (off+i) (u8 v))=k.take off++(aY (l.set i v)++k.drop (off+m)):=by
  have h1:k=k.take off++(aY l++k.drop (off+m)):=by rw [<-hcells,<-List.drop_drop,EL,EL]
  have h2:(k.take off).length=off:=by rw [DW];omega
  conv=>lhs;rw [h1]
  rw [IB _ _ (by omega),h2,FF,JD _ _ (by rw [DS];omega),show aY (l.set i v)=(aY l).set i (u8 v) from I4 ..]
 have hb':w9 (l.set i v):=fun x hx=>by
  rcases GL hx with hx|hx
  ·exact hb x hx
  ·omega
 have:=fW (off:=off) (s:=s) e3 hsplit (by rw [DW];omega) hb';rw [HA,hlen] at this;exact this
theorem aA.bx {a b c:ad} {d:Nat} (x:aA a b) (k:az b c (· = d)) (hd:a.next<=d):aA a c:=x.also k (fun e he q=>by omega)
theorem idx_bytes {a:Option Addr} {n c i:Nat} {h:ad} {l:List Nat} (e:av a n h=some l) (hi:i<n) : ∃ b off s k,a=some ⟨b,off,s⟩/\h.get b=some k/\idxS 1 (.slice a n c) (ak i)=some (ptr b (off+i)):=by obtain ⟨b,off,s,k,rfl,hk,_⟩:=(aK e).2.2 (by omega);refine ⟨b,off,s,k,rfl,hk,?_⟩;unfold idxS;simp only [];rw [DL (by omega),Int.toNat_natCast,FT]
theorem set_nat {A B B':List Nat} {i v:Nat} (j:Nat) (h:A.length+j=i) (e:B.set j v=B'):(A++B).set i v=A++B':=by subst h;rw [IB _ _ (by omega),FF,e]
theorem cJ (h:ad) {r:ao} (w:r.Wf) : ∃ h1,box (.agg (bL r).toArray) h=some (ptr h.next 0,h1)/\aA h h1/\h1.get h.next=some (bL r)/\h1.next=h.next+1:=by
 have g1:(h.alloc (bL r)).get h.next=some (bL r):=by rw [ad.aF,DL rfl]
 exact ⟨_,dG h _ (aM w).2.2,az.alloc _ _ _,g1,rfl⟩
theorem is43:bP prog 24 f24:=by constructor<;>kernel_rfl
set_option maxRecDepth 100000 in
theorem r43 {h:ad} (hG:4<=h.n0) {r:ao} (w:r.Wf) (v:de r=true) : ∃ a c h',CW 24 [.agg (bL r).toArray] h=some (.tuple #[.slice a 53 c,.int .i64 0],h')/\av a 53 h'=some (jI r)/\aA h h'/\(∀ y,a=some y->h.next<=y.block)/\hI a 53 c=true:=by
 obtain ⟨h1,b1,o1,g1,n1⟩:=cJ h w;have A1:=js w g1;obtain ⟨h2,e2,o2⟩:=r42 (h:=h1) (by rw [o1.n0];exact hG) w;rw [v] at e2;have O2:=o1.trans o2;have m2:=o2.next;obtain ⟨h3,e3,W3,o3,F3⟩:=r87 h2 (by rw [O2.n0];exact hG) (lim:=53) (by decide);have e3:CW 55 [.int .i64 53] h2=_:=e3;have fb:Fr h3 h2.next h.next:=F3 _ (by omega);have gb:h3.get h.next=some (bL r):=aA.get o3 (aA.get o2 g1);have K3:WS h2.next h3 h3:=WS.refl _ _;have A3:=js w gb;obtain ⟨h4,e4,W4,k4⟩:=r88 W3 (v:=r.kind) (by simp only [List.length_nil];omega) w.kind;have K4:=K3.trans k4;have A4:=js w ((K4.get _ fb).trans gb);obtain ⟨h5,e5,W5,k5⟩:=r89 W4 (n:=r.obj.length) (c:=32) (fW (off:=1) (s:=none) ((K4.get _ fb).trans gb) (A := [.int .u8 (r.kind:Int)]) rfl rfl w.obj.2) (fun y hy _=>by cases hy;exact K4.fr _ fb) (by simp only [DH, bO, List.length_nil, w.obj.1];omega);have K5:=K4.trans k5;have A5:=js w ((K5.get _ fb).trans gb);obtain ⟨h6,e6,W6,k6⟩:=r88 W5 (v:=i8 r.aN) (by simp only [DH, bO, List.length_nil, w.obj.1];omega) (mR _);have K6:=K5.trans k6;have A6:=js w ((K6.get _ fb).trans gb);obtain ⟨h7,e7,W7,k7⟩:=r90 W6 (v:=r.gO) (by simp only [DH, bO, List.length_nil, w.obj.1];omega) w.gO;have K7:=K6.trans k7;have A7:=js w ((K7.get _ fb).trans gb);obtain ⟨h8,e8,W8,k8⟩:=r90 W7 (v:=r.oG) (by simp only [DH, bO, List.length_nil, w.obj.1];omega) w.oG;have K8:=K7.trans k8;have A8:=js w ((K8.get _ fb).trans gb);obtain ⟨h9,e9,W9,k9⟩:=r88 W8 (v:=0) (by simp only [DH, bO, List.length_nil, w.obj.1];omega) (by decide);have K9:=K8.trans k9;have A9:=js w ((K9.get _ fb).trans gb);obtain ⟨h10,e10,W10,k10⟩:=r88 W9 (v:=i8 r.k) (by simp only [DH, bO, List.length_nil, w.obj.1];omega) (mR _);have K10:=K9.trans k10;have A10:=js w ((K10.get _ fb).trans gb);obtain ⟨h11,e11,W11,k11⟩:=r88 W10 (v:=i8 r.n) (by simp only [DH, bO, List.length_nil, w.obj.1];omega) (mR _);have K11:=K10.trans k11;have A11:=js w ((K11.get _ fb).trans gb);have a5:(32:Nat)=r.obj.length:=w.obj.1.symm;have e5:CW 57 [ptr h2.next 0,.slice (some ⟨h.next,1,none⟩) 32 32] h4=some (.tuple #[],h5):=by have:=e5;rw [w.obj.1] at this;exact this
 have e9:CW 56 [ptr h2.next 0,.int .u8 0] h8=some (.tuple #[],h9):=e9;obtain ⟨a,c,h12,e12,s12,gd12,o12,f12⟩:=r91 W11 (by simp only [DH, bO, List.length_nil, w.obj.1];decide);have hL:(((((((([]++fL 1 r.kind)++r.obj)++fL 1 (i8 r.aN))++fL 8 r.gO)++fL 8 r.oG)++fL 1 0)++fL 1 (i8 r.k))++fL 1 (i8 r.n)).length=53:=by simp only [DH, bO, List.length_nil, w.obj.1]
 have o212:aA h2 h12:=by refine ⟨by rw [o12.n0,K11.n0,o3.n0],D5 o3.next (D5 K11.next o12.next),fun d hd _ => ?_⟩;have f3:=F3 d hd;exact (az.getB o12 d (ED f3.1 K11.next) (fun h=>h)).trans ((K11.getB d f3).trans (az.getB o3 d hd (fun h=>h)))
 have A12:=js w (aA.get o212 (aA.get o2 g1));rw [hL] at e12 s12 gd12;have hle:h.next<=h11.next:=by have:=D5 o3.next K11.next;omega
 have hs3:aC prog .sub 3 (ak 53) (.int .i64 3)=some (ak 50):=sub3 (b:=3) (by decide) (by decide);have hl53:lenL (.slice a 53 c)=some (ak 53):=rfl;cases hh:r.held with
 |false=>
  refine ⟨a,c,h12,aD is43 hG rfl ((t43_eq _ _ _).trans ?_),?_,O2.trans o212,fun y hy=>D5 hle (f12 y hy),gd12⟩
  ·have l36:ld1 (ptr h.next 36) h12=some (.bool false,h12):=by rw [A12.l36,hh]
   unfold t43;simp -implicitDefEqProofs only [b1, A1.all, e2, e3, A3.l0, e4, ym, e5, A5.l33, du, BZ, e6, A6.l34, e7, A7.l35, e8, e9, A9.l37, e10, A10.l38, e11, e12, ext0, ext1, l36, ae, af, ay, DG, DP, aT]
  ·rw [s12];unfold jI BR;rw [hh];simp only [EC,List.nil_append,DD,D3]
 |true=>
  obtain ⟨b,off,s,k,rfl,hk,hix⟩:=idx_bytes (c:=c) (i:=50) s12 (by decide);have hbn:h11.next<=b:=f12 _ rfl;obtain ⟨h13,e13,s13,k13,n13⟩:=xT (i:=50) (v:=1) (by rw [o212.n0];have:=h2.n0_le_next;have:=D5 o3.next K11.next;omega) hk s12 (by decide) (by decide);refine ⟨some ⟨b,off,s⟩,c,h13,aD is43 hG rfl ((t43_eq _ _ _).trans ?_),?_,aA.bx (O2.trans o212) k13 (D5 hle hbn),fun y hy=>by cases hy;exact D5 hle hbn,gd12⟩
  ·have l36:ld1 (ptr h.next 36) h12=some (.bool true,h12):=by rw [A12.l36,hh]
   have e13:eo 1 (ptr b (off+50)) (.int .u8 1) h12=some (undef,h13):=e13;unfold t43;simp -implicitDefEqProofs only [b1, A1.all, e2, e3, A3.l0, e4, ym, e5, A5.l33, du, BZ, e6, A6.l34, e7, A7.l35, e8, e9, A9.l37, e10, A10.l38, e11, e12, ext0, ext1, l36, hl53, hs3, hix, e13, ae, af, ay, DG, DP, aT]
  ·rw [s13];unfold jI BR;rw [hh];simp only [EC,List.nil_append,DY]
   congr 1
   rw [show fL 1 r.kind++(r.obj++(fL 1 (i8 r.aN)++(fL 8 r.gO++(fL 8 r.oG++(fL 1 0++(fL 1 (i8 r.k)++fL 1 (i8 r.n)))))))=(fL 1 r.kind++(r.obj++(fL 1 (i8 r.aN)++(fL 8 r.gO++fL 8 r.oG))))++(fL 1 0++(fL 1 (i8 r.k)++fL 1 (i8 r.n))) by simp only [EC],
    set_nat (B':=fL 1 1++(fL 1 (i8 r.k)++fL 1 (i8 r.n))) 0 (by simp only [DH, bO, w.obj.1]) rfl]
   simp only [EC]
section
section
variable {x:ao} (ho:x.obj.length=32)
include ho
end
theorem ao.z_wf:ao.z.Wf:=⟨by decide,yM,vW,by decide,by decide,vW,vW⟩
end
def cz (l:List Nat):ByteArray:=⟨(l.map UInt8.ofNat).toArray⟩
def u8v (n:Nat):Value := .int .u8 (n:Int)
theorem pI : ∀ {l:List Nat},(l.map u8v).mapM asByte=some (l.map UInt8.ofNat)
 | []=>rfl
 |n::l=>by have ih:=pI (l:=l);rw [FL,GO,ih];rfl
theorem strOf_inj {a b:List Nat} (ha : ∀ x∈a,x<256) (hb : ∀ x∈b,x<256):((cz a).toList==(cz b).toList)=decide (a=b):=by
 have hl : ∀ l:List Nat,(cz l).toList=l.map UInt8.ofNat:=fun l=>H5 _;have hinj : ∀ a b:List Nat,(∀ x∈a,x<256)->(∀ x∈b,x<256)->a.map UInt8.ofNat=b.map UInt8.ofNat->a=b:=by
  intro a;induction a with
  |nil=>intro b _ _ h;simpa using h.symm
  |cons x a ih=>
   intro b ha hb h
   match b with
   | []=>simp at h
   |y::b=>
    rw [FL,FL,GD] at h;have hx:=ha x ER;have hy:=hb y ER;have e:x=y:=by have:=FZ UInt8.toNat h.1;rw [UInt8.toNat_ofNat',UInt8.toNat_ofNat'] at this;omega
    rw [e,ih b (fun z hz=>ha z (EM _ hz)) (fun z hz=>hb z (EM _ hz)) h.2]
 rw [hl,hl];by_cases e:a=b
 ·rw [DA e,e];exact D4 _
 ·rw [DB e,II];exact fun h=>e (hinj a b ha hb h)
end Go.Proofs.YtdnahgfgoajmcaaGreatDoor
namespace Go.Proofs.YtdnahgfgoajmcaaGreatDoor
open Go Go.Abs Tryz
section
theorem jj {a:Option Addr} {n c:Nat} {h:ad} {l:List Nat} (e:av a n h=some l):pX (.slice a n c) h=some (.string (cz l),h):=by have hl:=(aK e).1;have hf:=hJ e (DF n) (c:=c);rw [D1 (by omega)] at hf;unfold pX bsR;simp only [hf,show (l.map u8).mapM asByte=some (l.map UInt8.ofNat) from pI];rfl
end
end Go.Proofs.YtdnahgfgoajmcaaGreatDoor
namespace Go.Proofs.YtdnahgfgoajmcaaGreatDoor
open Go Go.Abs Tryz
attribute [local congr] aq
theorem za {r:ao} (w:r.Wf):(jI r).length=53:=by unfold jI;simp only [DH,bO,w.obj.1]
end Go.Proofs.YtdnahgfgoajmcaaGreatDoor
namespace Go.Proofs.YtdnahgfgoajmcaaGreatDoor
open Go Go.Abs Tryz
theorem bit_lt (b:Bool):BR b<2:=by cases b<;>decide
theorem i8_of {x:Int} (h0:0<=x) (h1:x<=255):(i8 x:Int)=x:=by unfold i8;omega
theorem Bb {r:ao} (v:de r=true):0<=r.aN/\r.aN<=15/\0<=r.k/\r.k<=255/\0<=r.n/\r.n<=255:=by
 have hh:im r=true->0<=r.aN/\r.aN<=15:=fun h=>by unfold im at h;simp only [DJ,DR] at h;omega
 unfold de at v;split at v
 ·rw [DJ,DR] at v;obtain ⟨e,h⟩:=v;have h:=hh h;rw [e];exact ⟨h.1,h.2,show (0:Int)<=0 by decide,show (0:Int)<=255 by decide,show (0:Int)<=0 by decide,show (0:Int)<=255 by decide⟩
 split at v
 ·rw [DR] at v;rw [v];exact ⟨show (0:Int)<=0 by decide,show (0:Int)<=15 by decide,show (0:Int)<=0 by decide,show (0:Int)<=255 by decide,show (0:Int)<=0 by decide,show (0:Int)<=255 by decide⟩
 split at v
 ·unfold vz at v;simp only [DJ,DR] at v;have h:=hh v.1.1.1.1;omega
 ·cases v
end Go.Proofs.YtdnahgfgoajmcaaGreatDoor
namespace Go.Proofs.YtdnahgfgoajmcaaGreatDoor
open Go Go.Abs Tryz
attribute [local congr] aq
theorem str_dec {a b:List Nat} (ha:w9 a) (hb:w9 b):aC prog .eql 9 (.string (cz a)) (.string (cz b))=some (.bool (decide (a=b)))/\aC prog .neq 9 (.string (cz a)) (.string (cz b))=some (.bool !(decide (a=b))):=by rw [<-strOf_inj ha hb];exact ⟨rfl,rfl⟩
end Go.Proofs.YtdnahgfgoajmcaaGreatDoor
namespace Go.Proofs.YtdnahgfgoajmcaaGreatDoor
open Go Go.Abs Tryz
def uE (ks:List Kd) (n:Nat) (cs:List Value):Prop:=cs.length=n*ks.length /\ ∀ i,i<n->cQ ks ((cs.drop (i*ks.length)).take ks.length)
def SlN (h:ad) (ks:List Kd) (v:Value) (n:Nat) (cs:List Value):Prop:=
 ∃ a c,v = .slice a n c/\(a=none->n=0)/\uE ks n cs/\(0<n -> ∃ b off s k,a=some ⟨b,off,s⟩/\h.get b=some k/\off+n*ks.length<=k.length/\(k.drop off).take (n*ks.length)=cs)
def slB:Value->Option Nat
 | .slice (some a) (_+1) _=>some a.block
 |_=>none
theorem BX {i n z:Nat} (hi:i<n):i*z+z<=n*z:=by have:=F0 z (show i+1<=n by omega);rw [GY,Nat.one_mul] at this;exact this
end Go.Proofs.YtdnahgfgoajmcaaGreatDoor
