/-
  A part of the proof, spaces and names shortened by a program (a claim may hold 1,500,000 bytes).
  Conditions: as each theorem states.
-/
import Derived.Test.YtdnahgfgoajmcaaGreatDoorG12
import Derived.Test.YtdnahgfgoajmcaaGreatDoorProg
import Derived.KernelRfl
namespace Go.Proofs.YtdnahgfgoajmcaaGreatDoor
open Go Go.Abs Tryz
def bT:List Value := [.int .u32 1116352408,.int .u32 1899447441,.int .u32 3049323471,.int .u32 3921009573,.int .u32 961987163,.int .u32 1508970993,.int .u32 2453635748,.int .u32 2870763221,.int .u32 3624381080,.int .u32 310598401,.int .u32 607225278,.int .u32 1426881987,.int .u32 1925078388,.int .u32 2162078206,.int .u32 2614888103,.int .u32 3248222580,.int .u32 3835390401,.int .u32 4022224774,.int .u32 264347078,.int .u32 604807628,.int .u32 770255983,.int .u32 1249150122,.int .u32 1555081692,.int .u32 1996064986,.int .u32 2554220882,.int .u32 2821834349,.int .u32 2952996808,.int .u32 3210313671,.int .u32 3336571891,.int .u32 3584528711,.int .u32 113926993,.int .u32 338241895,.int .u32 666307205,.int .u32 773529912,.int .u32 1294757372,.int .u32 1396182291,.int .u32 1695183700,.int .u32 1986661051,.int .u32 2177026350,.int .u32 2456956037,.int .u32 2730485921,.int .u32 2820302411,.int .u32 3259730800,.int .u32 3345764771,.int .u32 3516065817,.int .u32 3600352804,.int .u32 4094571909,.int .u32 275423344,.int .u32 430227734,.int .u32 506948616,.int .u32 659060556,.int .u32 883997877,.int .u32 958139571,.int .u32 1322822218,.int .u32 1537002063,.int .u32 1747873779,.int .u32 1955562222,.int .u32 2024104815,.int .u32 2227730452,.int .u32 2361852424,.int .u32 2428436474,.int .u32 2756734187,.int .u32 3204031479,.int .u32 3329325298]
def DI:Nat->Option (List Value):=fun b=>match b with
 | 3=>some bT
 |_=>none
noncomputable def okF (f:FuncId):Bool:=match prog.funcs[f]? with|some fn=>pH prog fn|none=>false
theorem c119:cQ prog 85 cmpS:=CQ (fn:=f85) (by kernel_rfl) (by kernel_rfl) (by kernel_rfl) (by kernel_rfl) (by kernel_rfl)
noncomputable abbrev X0:au:=callL [(85,cmpS)]
theorem X0_sound:bp prog X0:=mG _ (by intro p hp;simp only [FQ,GO,JG] at hp;subst hp;exact c119)
def isTrueV:Value->Bool
 | .bool true=>true
 |_=>false
noncomputable def runQ (f:FuncId) (k:Value->ai->Bool):Bool:=wJ prog okF X0 (fun f=>Nat.beq f 85) 100000 40 f [] (p9 prog DI) k
theorem known_runs:runQ 5 (fun v _=>isTrueV v)=true:=by kernel_rfl
theorem lZ:prog.follows .mixedOrders=true:=by kernel_rfl
theorem okF_sound : ∀ f fn,okF f=true->prog.funcs[f]? = some fn->pH prog fn=true:=by intro f fn h1 h2;unfold okF at h1;rw [h2] at h1;exact h1
theorem known_lt:5<prog.funcs.size:=EY (by kernel_rfl)
theorem known_WB:WB (wJ prog okF X0 (fun f=>Nat.beq f 85) 100000 40) 5 [] (p9 prog DI) fun v _=>v = .bool true:=by
 refine ⟨fun v _=>isTrueV v,known_runs,fun v h e => ?_⟩;have e:isTrueV v=true:=e;unfold isTrueV at e;split at e
 ·rfl
 ·cases e
noncomputable def s14 (args:List Value) (h:ai):bc:=by classical exact if args = []/\h.get 3=some bT then some (.bool true,h) else none
theorem s14_eq {h:ai} (g:h.get 3=some bT):s14 [] h=some (.bool true,h):=by unfold s14;rw [DL ⟨rfl,g⟩]
theorem c14:cQ prog 5 s14:=by
 refine cQ.closedQ (wC (sm:=fun f=>Nat.beq f 85) X0_sound (by unfold aD;omega) lZ okF_sound 40) known_lt (v := .bool true) rfl DI ?_ known_WB s14 ?_
 ·intro b cs e;unfold DI at e;split at e
  ·cases e;kernel_rfl
  ·cases e
 ·intro args h r e;unfold s14 at e;split at e
  ·rename_i hh;cases e;refine ⟨hh.1,rfl,fun b cs _ hd => ?_⟩;unfold DI at hd;split at hd
   ·cases hd;exact hh.2
   ·cases hd
  ·cases e
noncomputable abbrev XL:List (FuncId×(List Value->ai->bc)) := [(5,s14),(85,cmpS)]
noncomputable abbrev XX:au:=callL XL
theorem yi:bp prog XX:=mG _ (by
 intro p hp;simp only [FQ,GO,JG] at hp;rcases hp with rfl|rfl
 ·exact c14
 ·exact c119)
noncomputable def CW:au:=CC prog XX
theorem lD:prog.globals.size=4:=by kernel_rfl
theorem aL {f:FuncId} {fn:Func} (i:cx prog f fn) {args:List Value} {h:ai} {r:Value×ai} (hg:4<=h.n0) (hX:XX f args h=none) (e:bw prog CW fn args h=some r):CW f args h=some r:=
 CC_body i (by rw [lD];exact hg) hX e
theorem r14 {h:ai} (g:h.get 3=some bT):CW 5 [] h=some (.bool true,h):=tv (show XX 5 [] h=some (.bool true,h) from s14_eq g)
abbrev aE (h h':ai):Prop:=az h h' (fun _=>False)
theorem aE.get {h h':ai} (o:aE h h') {b:Nat} {k:ju} (e:h.get b=some k):h'.get b=some k:=(az.get o b (h.aO e) (fun h=>h)).trans e
theorem aw {γ:Type} {o o':bc} {f:Value->ai->Option γ} (h:o=o'):af o f=af o' f:=by rw [h]
inductive Kd where
 |u8
 |i (k:IntKind)
 |b
def Kd.has:Kd->Value->Prop
 | .u8,v => ∃ n:Nat,v = .int .u8 n/\n<256
 | .i k,v => ∃ n:Int,v = .int k n/\(Lit.int k n).wf=true
 | .b,v => ∃ t:Bool,v = .bool t
theorem Kd.has.cell {k:Kd} {v:Value} (h:k.has v):eK v=false/\v.oneCell'=true/\flat v=true/\v.cells = #[v]:=by
 cases k with
 |u8=>obtain ⟨n,rfl,_⟩:=h;exact ⟨rfl,rfl,rfl,rfl⟩
 |i k=>obtain ⟨n,rfl,_⟩:=h;exact ⟨rfl,rfl,rfl,rfl⟩
 |b=>obtain ⟨t,rfl⟩:=h;exact ⟨rfl,rfl,rfl,rfl⟩
def df (ks:List Kd) (cs:List Value):Prop:=cs.length=ks.length /\ ∀ (j:Nat) (k:Kd),ks[j]? = some k -> ∃ v,cs[j]? = some v/\k.has v
theorem df.cell {ks:List Kd} {cs:List Value} (h:df ks cs) {j:Nat} {v:Value} (hv:cs[j]? = some v):eK v=false/\v.oneCell'=true/\flat v=true/\v.cells = #[v]:=by
 have hj:=(EV.1 hv).1;have hj':j<ks.length:=by rw [<-h.1];exact hj
 obtain ⟨w,hw,hk⟩:=h.2 j _ (DB hj');rw [hv] at hw;cases hw;exact hk.cell
theorem df.all {ks:List Kd} {cs:List Value} (h:df ks cs):Abs.noHoles cs=true/\aM cs=true/\bI cs=true:=by
 have key : ∀ v∈cs,eK v=false/\v.oneCell'=true/\flat v=true:=fun v hv=>by obtain ⟨j,hj⟩:=IP.1 hv;obtain ⟨a,b,c,_⟩:=h.cell hj;exact ⟨a,b,c⟩
 refine ⟨?_,?_,?_⟩
 ·unfold Abs.noHoles;rw [DR];exact fun v hv=>by rw [(key v hv).1];rfl
 ·unfold aM;rw [DR];exact fun v hv=>(key v hv).2.1
 ·unfold bI;rw [DR];exact fun v hv=>(key v hv).2.2
def EqT (t:TypeId) (ks:List Kd):Prop := ∀ xs ys:List Value,df ks xs->df ks ys -> ∃ r:Bool,(r=true↔xs=ys)/\aF prog .eql t (.agg xs.toArray) (.agg ys.toArray)=some (.bool r)/\aF prog .neq t (.agg xs.toArray) (.agg ys.toArray)=some (.bool !r)
def uh:List Kd:=List.replicate 32 .u8
def jO:List Kd := .u8::(List.replicate 32 .u8 ++ [.i .i64,.i .u64,.i .u64,.b,.i .i64,.i .i64])
theorem size1:cS prog 5=some 1:=by kernel_rfl
theorem fI:cS prog 36=some 32:=by kernel_rfl
theorem eV {xs:List Value} (h:bI xs=true):ground (.agg xs.toArray)=true:=by show bI xs.toArray.toList=true;exact h
theorem CD {xs:List Value} (h:df uh xs) {i:Nat} (hi:i<32) : ∃ n:Nat,xs[i]? = some (.int .u8 n)/\n<256:=by obtain ⟨v,h1,n,rfl,h2⟩:=h.2 i .u8 (by unfold uh;rw [GY,DL hi]);exact ⟨n,h1,h2⟩
theorem xA {d:Nat} {xs ys:List Value} (hx:df uh xs) (hy:df uh ys) : ∃ r:Bool,(r=true↔xs=ys)/\cf prog (Op.equalIn (d+2) 36 (.agg xs.toArray) (.agg ys.toArray))=some r:=by
 obtain ⟨r,h1,h2⟩:=pr_eq_arr (P:=prog) (d:=d) (m:=32) (t:=36) (e:=5) (k := .u8) (j := .u8) (xs:=xs.toArray) (ys:=ys.toArray) Tryz.underlying36 size1 Tryz.underlying5 (fun i hi=>by obtain ⟨a,ha,_⟩:=CD hx hi;obtain ⟨b,hb,_⟩:=CD hy hi;exact ⟨a,b,by simpa using ha,by simpa using hb⟩)
 refine ⟨r,h1.trans ⟨fun hh => ?_,fun hh i hi=>by rw [hh]⟩,h2⟩;have lx:xs.length=32:=hx.1;have ly:ys.length=32:=hy.1;refine FU fun i => ?_;by_cases hi:i<32
 ·simpa using hh i hi
 ·rw [ET (by omega),ET (by omega)]
theorem xY {l:List Value} (h:df jO l) : ∃ (a:Nat) (o:List Value) (b c d:Int) (e:Bool) (f g:Int),l = .int .u8 a::(o ++ [.int .i64 b,.int .u64 c,.int .u64 d,.bool e,.int .i64 f,.int .i64 g])/\df uh o/\a<256/\(Lit.int .i64 b).wf=true/\(Lit.int .u64 c).wf=true/\(Lit.int .u64 d).wf=true/\(Lit.int .i64 f).wf=true/\(Lit.int .i64 g).wf=true:=by
 have hl:l.length=39:=h.1;obtain ⟨_,h0,a,rfl,wa⟩:=h.2 0 .u8 rfl;obtain ⟨_,h33,b,rfl,wb⟩:=h.2 33 (.i .i64) rfl;obtain ⟨_,h34,c,rfl,wc⟩:=h.2 34 (.i .u64) rfl;obtain ⟨_,h35,d,rfl,wd⟩:=h.2 35 (.i .u64) rfl;obtain ⟨_,h36,e,rfl⟩:=h.2 36 .b rfl;obtain ⟨_,h37,f,rfl,wf⟩:=h.2 37 (.i .i64) rfl;obtain ⟨_,h38,g,rfl,wg⟩:=h.2 38 (.i .i64) rfl;refine ⟨a,(l.drop 1).take 32,b,c,d,e,f,g,?_,?_,wa,wb,wc,wd,wf,wg⟩
 ·refine FU fun i => ?_;have hlo:((l.drop 1).take 32).length=32:=by rw [DV,EB];omega
  rcases i with _|i
  ·exact h0
  ·rw [List.getElem?_cons_succ];by_cases hi:i<32
   ·rw [E9 (by omega),FK,DL hi,FL,JM]
   ·rw [EH (by omega),hlo];rcases (show i=32\/i=33\/i=34\/i=35\/i=36\/i=37\/38<=i by omega) with rfl|rfl|rfl|rfl|rfl|rfl|h38'
    ·exact h33
    ·exact h34
    ·exact h35
    ·exact h36
    ·exact h37
    ·exact h38
    ·rw [ET (by omega),ET (by simp;omega)]
 ·refine ⟨by rw [DV,EB,hl];rfl,fun j k hk => ?_⟩;have hj:j<32:=by have:=(EV.1 hk).1;simpa [uh] using this
  have hk':k = .u8:=by unfold uh at hk;rw [GY,DL hj] at hk;exact (H5 hk).symm
  subst hk';obtain ⟨v,hv,hh⟩:=h.2 (j+1) .u8 (by unfold jO;rw [List.getElem?_cons_succ,E9 (by simpa using hj),GY,DL hj])
  exact ⟨v,by rw [FK,DL hj,FL,JM];exact hv,hh⟩
theorem kx {a b c d e f:Value} {x:Value} {o:List Value} (ho:o.length=32) (i:Nat):(x::(o ++ [a,b,c,d,e,f])).toArray[33+i]? = [a,b,c,d,e,f][i]? := by rw [HU,show 33+i=(32+i)+1 by omega,List.getElem?_cons_succ,EH (by omega),ho,FO]
theorem ud {x:Value} {o t:List Value} (ho:o.length=32):(x::(o++t)).toArray.extract 1 (1+32)=o.toArray:=by
 rw [List.extract_toArray]
 congr 1
 show ((x::(o++t)).drop 1).take (1+32-1)=o;rw [H4,EP,show 1+32-1=32 from rfl,<-ho,HC];rfl
theorem eq58:EqT 66 jO:=by
 intro xs ys hx hy;have fx:=hx.all.2.2;have fy:=hy.all.2.2;obtain ⟨a,o,b,c,d,e,f,g,rfl,ho,_⟩:=xY hx;obtain ⟨a',o',b',c',d',e',f',g',rfl,ho',_⟩:=xY hy;obtain ⟨r,hr,hrun⟩:=xA (d:=9997) ho ho';have l1:o.length=32:=ho.1;have l2:o'.length=32:=ho'.1;have hp:cf prog (Op.equalIn 10000 66 (.agg (Value.int .u8 a::(o ++ [.int .i64 b,.int .u64 c,.int .u64 d,.bool e,.int .i64 f,.int .i64 g])).toArray) (.agg (Value.int .u8 a'::(o' ++ [.int .i64 b',.int .u64 c',.int .u64 d',.bool e',.int .i64 f',.int .i64 g'])).toArray))
   = some (decide ((a:Int)=a')&&(r&&(decide (b=b')&&(decide (c=c')&&(decide (d=d')&&(decide (e=e')&&(decide (f=f')&&decide (g=g')))))))):=by
  rw [uF (P:=prog) (d:=9999) Tryz.underlying66 (by kernel_rfl)];simp only [eqF];rw [DL (by decide),DL (by decide),DL (by decide),DL (by decide),DL (by decide),DL (by decide),DL (by decide),DL (by decide)];rw [cE (v := .int .u8 a) Tryz.underlying64 rfl,cE (v := .int .u8 a') Tryz.underlying64 rfl,mu Tryz.underlying36 fI,mu Tryz.underlying36 fI,ud l1,ud l2];rw [cE (v := .int .i64 b) Tryz.underlying3 (kx l1 0),cE (v := .int .i64 b') Tryz.underlying3 (kx l2 0),cE (v := .int .u64 c) Tryz.underlying32 (kx l1 1),cE (v := .int .u64 c') Tryz.underlying32 (kx l2 1),
   cE (v := .int .u64 d) Tryz.underlying32 (kx l1 2),cE (v := .int .u64 d') Tryz.underlying32 (kx l2 2),tH (v := .bool e) Tryz.underlying4 (kx l1 3),tH (v := .bool e') Tryz.underlying4 (kx l2 3),
   cE (v := .int .i64 f) Tryz.underlying3 (kx l1 4),cE (v := .int .i64 f') Tryz.underlying3 (kx l2 4),cE (v := .int .i64 g) Tryz.underlying3 (kx l1 5),cE (v := .int .i64 g') Tryz.underlying3 (kx l2 5)]
  simp only [Option.bind_some,kR (d:=9998) Tryz.underlying64,kR (d:=9998) Tryz.underlying3,kR (d:=9998) Tryz.underlying32,pr_eq_bool (d:=9998) Tryz.underlying4,hrun];by_cases e1:(a:Int)=a'
  ·cases r
   ·simp [e1]
   ·by_cases e2:b=b'<;>by_cases e3:c=c'<;>by_cases e4:d=d'<;>by_cases e5:e=e'<;>by_cases e6:f=f'<;>by_cases e7:g=g'<;>simp [e1,e2,e3,e4,e5,e6,e7]
  ·simp [e1]
 refine ⟨_,?_,Cl (by kernel_rfl) (eV fx) (eV fy) hp⟩;constructor
 ·intro h;simp only [DK,DS] at h;obtain ⟨h1,h2,h3,h4,h5,h6,h7,h8⟩:=h;rw [h1,hr.1 h2,h3,h4,h5,h6,h7,h8]
 ·intro h;rw [HJ] at h;obtain ⟨h1,h2⟩:=h;have h3:=List.append_inj h2 (by omega);obtain ⟨h4,h5⟩:=h3;simp only [HJ,Value.int.injEq,Value.bool.injEq,true_and,JW] at h5 h1;simp only [DK,DS];exact ⟨h1,hr.2 h4,h5⟩
abbrev aq (n:Nat):Value := .int .i64 (n:Int)
theorem fj (h:ai) (cs:List Value) (hc:aM cs=true):box (.agg cs.toArray) h=some (ptr h.next 0,h.alloc cs):=by have e:(Value.agg cs.toArray).cells=cs.toArray:=rfl;unfold box;rw [e,DL (by simpa using hc)];simp [Abs.newRow]
theorem mid {k A B C:List Value} {p n:Nat} (h:k=A++(B++C)) (hA:A.length=p) (hB:B.length=n):(k.drop p).take n=B:=by subst h hA hB;rw [List.drop_left,JL]
theorem xJ {h:ai} {b p n:Nat} {k A B C:List Value} (g:h.get b=some k) (e:k=A++(B++C)) (hA:A.length=p) (hB:B.length=n) (nh:Abs.noHoles B=true):du n (ptr b p) h=some (.agg B.toArray,h):=by
 have hm:=mid e hA hB;have hl:p+n<=k.length:=by rw [e,DE,DE];omega
 have:=qF g (o:=p) (n:=n) hl (by rw [hm];exact nh);rw [hm] at this;exact this
end Go.Proofs.YtdnahgfgoajmcaaGreatDoor
namespace Go.Proofs.YtdnahgfgoajmcaaGreatDoor
open Go Go.Abs Tryz
attribute [local congr] aw
theorem sf:(some true==some false)=false:=rfl
theorem fs:(some false==some true)=false:=rfl
theorem newC_eq (cs:List Value) (h:ai):eH cs h=some (ptr h.next 0,h.alloc cs):=rfl
theorem is53:cx prog 41 f41:=by constructor<;>kernel_rfl
theorem nil22 (a:Option Addr) (n c:Nat):aF prog .eql 34 (.slice a n c) (.slice none 0 0)=some (.bool a.isNone):=by cases a<;>kernel_rfl
theorem set_app {A B B':List Value} {i:Nat} {v:Value} (j:Nat) (h:A.length+j=i) (e:B.set j v=B'):(A++B).set i v=A++B':=by subst h;rw [IV _ _ (by omega),FO,e]
theorem stN_whole {h:ai} {b:Nat} {k k':ju} (hk:h.get b=some k) (h0:h.n0<=b) {n:Nat} (hn:k.length=n) (hn':k'.length=n) (ho:aM k'=true):eY n (ptr b 0) (.agg k'.toArray) h=some (undef,h.set b k'):=by
 unfold eY ptr;have hc:(Value.agg k'.toArray).cells=k'.toArray:=rfl;simp only [hc,FT,hn',EA];unfold stL;simp only [hk];rw [DL (by simp [ho,h0,hn,hn'])];have:splice k 0 k'=k':=by simp [splice,hn,hn']
 simp [this]
theorem gtr3 (a k:Nat):aF prog .gtr 3 (aq a) (.int .i64 (k:Int))=some (.bool (decide (k<a))):=by
 rw [bJ]
 congr 2
 by_cases e:k<a
 ·rw [DC e,DC (by omega)]
 ·rw [DF e,DF (by omega)]
end Go.Proofs.YtdnahgfgoajmcaaGreatDoor
namespace Go.Proofs.YtdnahgfgoajmcaaGreatDoor
open Go Go.Abs Tryz
section
section
abbrev u8 (n:Nat):Value := .int .u8 (n:Int)
theorem gT : ∀ l:List Nat,noHoles (l.map u8)=true
 | []=>rfl
 |x::l=>by have:=gT l;simp only [noHoles,FR,List.all_cons] at this |-;rw [this];rfl
theorem Da (l:List Nat) (o n:Nat):noHoles (((l.map u8).drop o).take n)=true:=by rw [<-List.map_drop,<-List.map_take];exact gT _
def nat8:Value->Option Nat
 | .int .u8 (.ofNat n)=>if n<256 then some n else none
 |_=>none
theorem nat8_eq {v:Value} {n:Nat} (h:nat8 v=some n):v=u8 n/\n<256:=by
 unfold nat8 at h;split at h
 ·split at h
  ·cases h;exact ⟨rfl,by assumption⟩
  ·cases h
 ·cases h
def bytesOf:List Value->Option (List Nat)
 | []=>some []
 |v::l=>match nat8 v,bytesOf l with
  |some n,some r=>some (n::r)
  |_,_=>none
theorem sq : ∀ {l:List Value} {r:List Nat},bytesOf l=some r->l=r.map u8 /\ ∀ n∈r,n<256
 | [],r,h=>by cases h;exact ⟨rfl,by simp⟩
 |v::l,r,h=>by
  unfold bytesOf at h;split at h
  ·rename_i n r' h1 h2;cases h;obtain ⟨rfl,h3⟩:=nat8_eq h1;obtain ⟨rfl,h4⟩:=sq h2;refine ⟨rfl,fun m hm => ?_⟩;rcases FQ.1 hm with rfl|hm
   ·exact h3
   ·exact h4 m hm
  ·cases h
theorem mP : ∀ {r:List Nat},(∀ n∈r,n<256)->bytesOf (r.map u8)=some r
 | [],_=>rfl
 |n::r,h=>by
  have h1:nat8 (u8 n)=some n:=by show (if n<256 then some n else none)=some n;rw [DL (h n ED)]
  simp -implicitDefEqProofs only [FR,bytesOf,h1,mP (r:=r) (fun m hm=>h m (EI _ hm))]
def ax (a:Option Addr) (n:Nat) (h:ai):Option (List Nat):=(firstA 1 n (.slice a n n) h).bind bytesOf
theorem aH {a:Option Addr} {n:Nat} {h:ai} {l:List Nat} (e:ax a n h=some l) :
  l.length=n/\(∀ m∈l,m<256)/\(0<n -> ∃ b off s k,a=some ⟨b,off,s⟩/\h.get b=some k/\off+n<=k.length /\ ∀ i,i<n->k[off+i]? = some (u8 (l.getD i 0))):=by
 unfold ax at e;rw [DZ] at e;obtain ⟨cs,h1,h2⟩:=e;obtain ⟨rfl,h3⟩:=sq h2;unfold firstA at h1;split at h1
 ·split at h1
  ·rename_i hn;simp -implicitDefEqProofs only [DA] at h1;have:l = []:=by cases l with|nil=>rfl|cons=>simp at h1
   subst this;subst hn;exact ⟨rfl,h3,fun h=>absurd h (by omega)⟩
  ·cases h1
 ·rename_i b off s _ _ heq;split at h1
  ·rename_i hn;simp -implicitDefEqProofs only [DA] at h1;have:l = []:=by cases l with|nil=>rfl|cons=>simp at h1
   subst this;have:n=0:=by omega
   subst this;exact ⟨rfl,h3,fun h=>absurd h (by omega)⟩
  ·split at h1
   ·rename_i k hk;split at h1
    ·rename_i hl0;have hl:=hl0.1;rw [GF] at h1 hl;simp -implicitDefEqProofs only [DA] at h1;have hlen:l.length=n:=by have:=GM List.length h1;simp -implicitDefEqProofs only [DY,DV,EB] at this;omega
     refine ⟨hlen,h3,fun _=>⟨b,off,s,k,?_,hk,hl,?_⟩⟩
     ·cases heq;rfl
     ·intro i hi;have h4:=GM (·[i]?) h1;simp -implicitDefEqProofs only [FK,hi,EA,FL,EN] at h4;rw [h4,DJ,DB (by omega)];rfl
    ·cases h1
   ·cases h1
 ·cases (show Value.slice a n n = .string _ by assumption)
 ·cases h1
theorem pf {a:Option Addr} {n:Nat} {h h':ai} {l:List Nat} (e:ax a n h=some l) (hm : ∀ b k,h.get b=some k->h'.get b=some k):ax a n h'=some l:=by
 unfold ax at e |-;rw [DZ] at e |-;obtain ⟨cs,h1,h2⟩:=e;refine ⟨cs,?_,h2⟩;unfold firstA at h1 |-;split at h1
 ·exact h1
 ·split at h1
  ·rw [DL (by assumption)];exact h1
  ·rw [DM (by assumption)];split at h1
   ·rename_i k hk;rw [hm _ _ hk];exact h1
   ·cases h1
 ·cases (show Value.slice a n n = .string _ by assumption)
 ·cases h1
end
section
section bytes
theorem p8 : ∀ l:List Nat,aM (l.map u8)=true
 | []=>rfl
 |x::l=>by have:=p8 l;simp only [aM,FR,List.all_cons] at this |-;rw [this];rfl
theorem jN {a:Option Addr} {n c:Nat} {h:ai} {l:List Nat} (e:ax a n h=some l) {m:Nat} (hm:m<=n):firstA 1 m (.slice a n c) h=some ((l.take m).map u8):=by
 unfold ax at e;rw [DZ] at e;obtain ⟨cs,h1,h2⟩:=e;obtain ⟨rfl,h3⟩:=sq h2;cases a with
 |none=>
  simp only [firstA] at h1 |-;split at h1
  ·cases l with
   |nil=>simp;omega
   |cons=>simp at h1
  ·cases h1
 |some x=>
  obtain ⟨b,off,s⟩:=x;simp only [firstA,GF] at h1 |-;by_cases hm0:m=0
  ·subst hm0;simp
  ·rw [DM hm0];rw [DM (by omega)] at h1;cases hk:h.get b with
   |none=>rw [hk] at h1;cases h1
   |some k=>
    rw [hk] at h1;simp only at h1 |-;split at h1
    ·rename_i hl0;have hl1:=hl0.1;simp only [DA] at h1;have hk2:List.take m (List.drop off k)=(l.take m).map u8:=by rw [List.map_take,<-h1,H2,HI hm]
     rw [DL ⟨by omega,by rw [hk2];exact gT _⟩,hk2]
    ·cases h1
end bytes
end
section
def iN (a:Option Addr) (n c:Nat):Bool:=Nat.ble n c&&(match a with|some ⟨_,_,some s⟩=>s==1|_=>true)
theorem goodS_le {a:Option Addr} {n c:Nat} (h:iN a n c=true):n<=c:=by unfold iN at h;rw [DK] at h;exact EY h.1
theorem pO {b off n lo hi:Nat} {s s':Option Nat} {h:ai} {l:List Nat} (e:ax (some ⟨b,off,s⟩) n h=some l) (h1:lo<=hi) (h2:hi<=n) :
  ax (some ⟨b,off+lo,s'⟩) (hi-lo) h=some ((l.drop lo).take (hi-lo)):=by
 obtain ⟨hl,hb,hat⟩:=aH e;unfold ax;rw [DZ];refine ⟨((l.drop lo).take (hi-lo)).map u8,?_,mP (fun x hx=>hb x (FJ (EZ hx)))⟩;simp only [firstA,GF];by_cases h0:hi-lo=0
 ·rw [DL h0,h0];rfl
 ·rw [DM h0];obtain ⟨b',off',s'',k,hx,hk,hkl,hk2⟩:=hat (by omega);cases hx;simp only [hk];have hcells:(k.drop (off+lo)).take (hi-lo)=((l.drop lo).take (hi-lo)).map u8:=by
   apply FU;intro i;rw [FK,EN,FK,FL,FL];by_cases hi2:i<hi-lo
   ·rw [DL hi2,DL hi2,GL,hk2 (lo+i) (by omega),DJ,DB (by omega)];rfl
   ·rw [DM hi2,DM hi2];rfl
  rw [hcells,DL ⟨by omega,gT _⟩]
theorem BT {a:Option Addr} {n c lo hi:Nat} {vl vh:Option Value} {h:ai} {l:List Nat} (g:iN a n c=true) (e:ax a n h=some l) (h1:lo<=hi) (h2:hi<=n) (hh:boundA n c vh=some hi) (hl:boundA 0 hi vl=some lo) :
  ∃ a' c',nT 1 (.slice a n c) vl vh none=some (.slice a' (hi-lo) c')/\ax a' (hi-lo) h=some ((l.drop lo).take (hi-lo))/\iN a' (hi-lo) c'=true/\(∀ y,a'=some y -> ∃ y0,a=some y0/\y0.block=y.block):=by
 have hn:=goodS_le g;have hb:boundsA n c vl vh none=some (lo,hi,c):=by unfold boundsA;have:boundA c c none=some c:=rfl;rw [this];simp only [hh,hl]
 have hble:Nat.ble (hi-lo) (c-lo)=true:=IA (by omega);cases a with
 |none=>
  have hl0:l = []:=by
   unfold ax firstA at e;by_cases hz:n=0
   ·subst hz;obtain ⟨h3,_⟩:=aH (a:=none) (n:=0) (h:=h) (l:=l) (by unfold ax firstA;exact e);exact DW.1 h3
   ·simp only [hz,EF,Option.bind_none] at e;cases e
  have hn0:n=0:=by have:=(aH e).1;rw [hl0] at this;exact this.symm
  subst hn0;have:hi=0:=by omega
  subst this;have:lo=0:=by omega
  subst this;refine ⟨none,c-0,?_,?_,?_,fun y hy=>(by cases hy)⟩
  ·unfold nT sliceSl;simp only [hb]
  ·subst hl0;rfl
  ·unfold iN;simp
 |some x=>
  obtain ⟨b,off,s⟩:=x;cases s with
  |none=>
   refine ⟨some ⟨b,if c=lo then off else off+lo*1,none⟩,c-lo,?_,?_,?_,fun y hy=>⟨_,rfl,(by cases hy;rfl)⟩⟩
   ·unfold nT sliceSl;simp only [hb]
   ·by_cases hc:c=lo
    ·have h3:hi-lo=0:=by omega
     rw [DL hc,h3];have:(l.drop lo).take 0 = []:=rfl;rw [this];unfold ax firstA;simp;rfl
    ·rw [DM hc,GF];exact pO e h1 h2
   ·unfold iN;rw [hble];rfl
  |some s=>
   have hs:s=1:=by unfold iN at g;rw [DK] at g;exact eq_of_beq g.2
   subst hs;refine ⟨some ⟨b,off+lo*1,some 1⟩,c-lo,?_,?_,?_,fun y hy=>⟨_,rfl,(by cases hy;rfl)⟩⟩
   ·unfold nT sliceSl;simp [hb]
   ·rw [GF];exact pO e h1 h2
   ·unfold iN;rw [hble];rfl
theorem nL {a:Option Addr} {n:Nat} {h h':ai} (e : ∀ x,a=some x->h'.get x.block=h.get x.block):ax a n h'=ax a n h:=by
 unfold ax firstA;cases a with
 |none=>rfl
 |some x=>simp only [e x rfl]
end
section
theorem dq {h:ai} {b off n:Nat} {s:Option Nat} {l:List Nat} (hg:h.get b=some (l.map u8)) (hl:off+n<=l.length) (hb : ∀ x∈l,x<256):ax (some ⟨b,off,s⟩) n h=some ((l.drop off).take n):=by
 unfold ax;rw [DZ];refine ⟨((l.drop off).take n).map u8,?_,mP (fun y hy=>hb y (FJ (EZ hy)))⟩;simp only [firstA,hg,GF];by_cases h0:n=0
 ·rw [DL h0,h0];rfl
 ·rw [DM h0,DL ⟨by simpa using hl,Da _ _ _⟩];simp
end
section
theorem vJ (h:ai):dg 1 (.int .u8 0) 0 [] h=some (.slice (some ⟨h.next,0,none⟩) 0 0,h.alloc []):=rfl
end
section
theorem Dd {g:ai} {E:Nat} {a:Option Addr} {n c:Nat} {l:List Nat} (_:g.n0<=E) (hl:ax a n g=some l) (hn:n<=21000) :
  ∃ b s c' g',appendA 1 1 (.slice (some ⟨E,0,none⟩) 0 0) (.slice a n c) g=some (.slice (some ⟨b,0,s⟩) n c',g')/\ax (some ⟨b,0,s⟩) n g'=some l/\iN (some ⟨b,0,s⟩) n c'=true/\(b=E\/(b=g.next/\g.next<g'.next)) /\
    g'.n0=g.n0/\g.next<=g'.next/\(∀ e,e<g.next->g'.getB e=g.getB e):=by
 obtain ⟨hlen,hb,_⟩:=aH hl;have hf:=jN hl (DD n) (c:=c);rw [DX (by omega)] at hf;have hcond:(!(aM (l.map u8)) || !(decide ((0+n)*1<=140737488355328)) || !(decide (0+n<=4611686018427387904))||decide ((l.map u8).length≠n*1))=false:=by rw [p8,DC (by omega:(0+n)*1<=140737488355328),DC (by omega:0+n<=4611686018427387904),DF (by simp;omega)];rfl
 unfold appendA;simp only [ik,hf];rw [DM (by rw [hcond];decide)];by_cases h0:n=0
 ·subst h0;have:l = []:=DW.1 hlen;subst this;rw [DL (by omega),DL rfl];exact ⟨E,none,0,g,rfl,rfl,rfl,.inl rfl,rfl,DD _,fun _ _=>rfl⟩
 ·rw [DM (by omega)];have f0:firstA 1 0 (.slice (some ⟨E,0,none⟩) 0 0) g=some []:=rfl;simp only [f0];rw [DM (by simp)];refine ⟨g.next,some 1,0+n,g.alloc ([]++l.map u8),by rw [DH],?_,?_,.inr ⟨rfl,by simp⟩,rfl,by simp,?_⟩
  ·rw [List.nil_append,dq (l:=l) (by rw [ai.aN,DL rfl]) (by omega) hb,EP,DX (by omega)]
  ·unfold iN;rw [DH];simp
  ·intro e he;rw [ai.cN,DM (by omega)]
end
section
theorem aE.bytes {h h':ai} (o:aE h h') {a:Option Addr} {n:Nat} {l:List Nat} (e:ax a n h=some l):ax a n h'=some l:=pf e fun _ _=>o.get
theorem r69b {a:Option Addr} {n c:Nat} {l:List Nat} {h:ai} (hG:4<=h.n0) (hl:ax a n h=some l) (hn:n<=21000) :
  ∃ a' c' h',CW 41 [.slice a n c] h=some (.slice a' n c',h')/\ax a' n h'=some l/\iN a' n c'=true/\aE h h'/\(∀ y,a'=some y->h.next<=y.block/\y.block<h'.next)/\(a'.isNone=a.isNone):=by
 cases a with
 |none=>
  have h0:n=0:=by
   obtain ⟨h1,_,h3⟩:=aH hl;by_cases hz:n=0
   ·exact hz
   ·obtain ⟨_,_,_,_,h4,_⟩:=h3 (by omega);cases h4
  subst h0;refine ⟨none,0,h,aL is53 hG rfl ((t53_eq _ _ _).trans ?_),hl,rfl,az.refl _ _,fun y hy=>by (cases hy),rfl⟩;unfold t53;simp -implicitDefEqProofs only [aj,nil22,ak,Option.isNone_none]
 |some x=>
  have hl1:ax (some x) n (h.alloc [])=some l:=pf hl fun _ _ hc=>ai.qi hc _;obtain ⟨b,s,c',g',e1,e2,e3,e4,e5,e6,e7⟩:=Dd (g:=h.alloc []) (E:=h.next) (c:=c) h.n0_le_next hl1 hn;refine ⟨some ⟨b,0,s⟩,c',g',aL is53 hG rfl ((t53_eq _ _ _).trans ?_),e2,e3,(az.alloc h [] _).trans ⟨e5,e6,fun d hd _=>e7 d hd⟩,?_,rfl⟩
  ·unfold t53;simp -implicitDefEqProofs only [aj,nil22,ak,Option.isNone_some,vJ,e1]
  ·intro y hy;cases hy;have hn1:(h.alloc []).next=h.next+1:=by simp
   show h.next<=b/\b<g'.next;rcases e4 with e4|⟨e4,e8⟩
   ·omega
   ·omega
theorem _root_.Go.Abs.az.bytes {h h':ai} {B:Nat->Prop} (k:az h h' B) {a:Option Addr} {n:Nat} {l:List Nat} (e:ax a n h=some l) (hb : ∀ y,a=some y->0<n -> ¬B y.block):ax a n h'=some l:=by
 by_cases h0:n=0
 ·subst h0;obtain ⟨hl,_,_⟩:=aH e;have:l = []:=DW.1 hl;subst this;cases a with
  |none=>rfl
  |some x=>unfold ax firstA;simp;rfl
 ·obtain ⟨_,_,h3⟩:=aH e;obtain ⟨b,off,s,c,rfl,hc,_⟩:=h3 (by omega);rw [nL (h:=h) (fun y hy=>by cases hy;exact k.get b (h.aO hc) (hb _ rfl (by omega)))];exact e
structure IsR (h:ai) (p r:Nat) (l:List Nat) (e:Int):Prop where
 ex : ∃ a n c,h.get r=some [.slice a n c,.int .i64 e]/\ax a n h=some l/\iN a n c=true /\ ∀ y,a=some y->p<=y.block/\y.block<r
 n0:h.n0<=r
 len:l.length<=21000
 g4:4<=h.n0
 pr:p<=r
def be (l:List Nat):Nat:=l.foldl (fun v x=>v*256+x) 0
end
section
section
variable {p r:Nat} {l:List Nat} {h:ai} (R:IsR h p r l 0)
include R
end
end
end
end Go.Proofs.YtdnahgfgoajmcaaGreatDoor
namespace Go.Proofs.YtdnahgfgoajmcaaGreatDoor
open Go Go.Abs Tryz
attribute [local congr] aw
end Go.Proofs.YtdnahgfgoajmcaaGreatDoor
namespace Go.Proofs.YtdnahgfgoajmcaaGreatDoor
open Go Go.Abs Tryz
section
section
theorem BR {h:ai} {L:Nat} (h0:h.n0<=L) (hn:L<h.next) {c:Nat} (hc:c≠L):(h.kill L).getB c=h.getB c:=by unfold ai.kill;rw [ai.cT h h0 hn,DM hc]
end
section
end
section
theorem setPlain {h:ai} {b:Nat} {k k':ju} (hk:h.get b=some k) (h0:h.n0<=b):az h (h.set b k') (fun c=>c=b)/\(h.set b k').get b=some k':=⟨az.set h0 hk (.inr rfl),ai.dZ h0 hk _⟩
end
section
def fW:Value->Option Nat
 | .slice (some a) _ _=>some a.block
 |_=>none
def rL (h:ai) (N size:Nat) (v:Value) (len:Nat) (cells:List Value):Prop:=
 cells.length=len*size/\Abs.noHoles cells=true/\aM cells=true /\
 ((v = .slice none 0 0/\len=0) \/ ∃ b s,v = .slice (some ⟨b,0,s⟩) len len/\N<=b/\((s=none/\len=0)\/(s=some size/\h.get b=some cells)))
theorem rL.nil (h:ai) (N size:Nat):rL h N size (.slice none 0 0) 0 []:=⟨by simp,rfl,rfl,.inl ⟨rfl,rfl⟩⟩
theorem rL.keep {h h':ai} {N size:Nat} {v:Value} {len:Nat} {cells:List Value} (o:rL h N size v len cells) {B:Nat->Prop} (k:az h h' B) (hB : ∀ b,fW v=some b -> ¬B b):rL h' N size v len cells:=by
 obtain ⟨h1,h2,h3,h4⟩:=o;refine ⟨h1,h2,h3,?_⟩;rcases h4 with h4|⟨b,s,rfl,h5,h6|⟨h6,h7⟩⟩
 ·exact .inl h4
 ·exact .inr ⟨b,s,rfl,h5,.inl h6⟩
 ·exact .inr ⟨b,s,rfl,h5,.inr ⟨h6,k.getE h7 (hB b rfl)⟩⟩
theorem jr (a b:List Value) (ha:Abs.noHoles a=true) (hb:Abs.noHoles b=true):Abs.noHoles (a++b)=true:=by unfold Abs.noHoles at *;rw [FI,ha,hb];rfl
theorem iE (a b:List Value) (ha:aM a=true) (hb:aM b=true):aM (a++b)=true:=by unfold aM at *;rw [FI,ha,hb];rfl
theorem append_own {h:ai} {N size jt len m:Nat} {v x:Value} {cells news:List Value} (o:rL h N size v len cells) (h0:h.n0<=N) (hN:N<=h.next) (_:0<size) (hx:ik x=some m) (hf:firstA size m x h=some news)
  (h1:aM news=true) (h2:Abs.noHoles news=true) (hl:news.length=m*size) (hb:(len+m)*jt<=140737488355328) (hc:len+m<=4611686018427387904) :
  ∃ v' h',appendA size jt v x h=some (v',h')/\rL h' N size v' (len+m) (cells++news)/\az h h' (fun c=>fW v=some c/\h.get c=some cells)/\(v'=v\/(fW v'=some h.next/\h.next<h'.next)):=by
 have o':=o;obtain ⟨o1,o2,o3,o4⟩:=o;have hcond : ∀ len':Nat,len'=len->(!(aM news) || !(decide ((len'+m)*jt<=140737488355328)) || !(decide (len'+m<=4611686018427387904))||decide (news.length≠m*size))=false:=by rintro _ rfl;rw [h1,DC hb,DC hc,DF (by omega)];rfl
 by_cases hm:m=0
 ·subst hm;have hn:news = []:=DW.1 (by omega);subst hn;have ho:rL h N size v (len+0) (cells ++ []):=by rw [EU];exact o'
  refine ⟨v,h,?_,ho,az.refl _ _,.inl rfl⟩;rcases o4 with ⟨rfl,rfl⟩|⟨b,s,rfl,h5,h6⟩
  ·unfold appendA;simp only [hx,hf];rw [DM (by rw [hcond 0 rfl];decide),DL (by omega),DL trivial]
  ·unfold appendA;simp only [hx,hf];rw [DM (by rw [hcond len rfl];decide),DL (by omega),DL trivial]
 ·have fresh : ∀ cs:List Value,cs = []->len=0->rL (h.alloc news) N size (.slice (some ⟨h.next,0,some size⟩) (len+m) (len+m)) (len+m) (cs++news):=by rintro _ rfl rfl;exact ⟨by simpa using hl,by simpa using h2,by simpa using h1,.inr ⟨h.next,_,rfl,hN,.inr ⟨rfl,by rw [ai.aN,DL rfl];rfl⟩⟩⟩
  rcases o4 with ⟨rfl,rfl⟩|⟨b,s,rfl,h5,⟨rfl,rfl⟩|⟨rfl,h6⟩⟩
  ·have hce:cells = []:=DW.1 (by simpa using o1);refine ⟨_,_,?_,fresh cells hce rfl,az.alloc _ _ _,.inr ⟨rfl,by simp⟩⟩;unfold appendA;simp only [hx,hf];rw [DM (by rw [hcond 0 rfl];decide),DM (by omega),DL trivial]
  ·have hce:cells = []:=DW.1 (by simpa using o1);refine ⟨_,_,?_,fresh cells hce rfl,az.alloc _ _ _,.inr ⟨rfl,by simp⟩⟩;unfold appendA;simp only [hx,hf];have f0:firstA size 0 (.slice (some ⟨b,0,none⟩) 0 0) h=some []:=by simp [firstA]
   rw [DM (by rw [hcond 0 rfl];decide),DM (by omega)];simp only [f0];rw [DM (by simp)];rfl
  ·have hf2:firstA size len (.slice (some ⟨b,0,some size⟩) len len) h=some cells:=by
    simp only [firstA];by_cases hz:len*size=0
    ·rw [DL hz];have:cells = []:=DW.1 (by omega);rw [this]
    ·rw [DM hz];simp only [h6];have e:(cells.drop 0).take (len*size)=cells:=by rw [EP,DX (by omega)]
     simp only [e];rw [DL ⟨by omega,o2⟩]
   have hlt:=h.aO h6;have hk : ∀ c,c<h.next->c≠b->((h.kill b).alloc (cells++news)).getB c=h.getB c:=by intro c hc hne;rw [ai.cN,DM (by rw [ai.fU];omega)];exact BR (by omega) hlt hne
   refine ⟨.slice (some ⟨h.next,0,some size⟩) (len+m) (len+m),(h.kill b).alloc (cells++news),?_,⟨by rw [DE,o1,hl,HM],jr _ _ o2 h2,iE _ _ o3 h1,.inr ⟨h.next,_,rfl,hN,.inr ⟨rfl,?_⟩⟩⟩,⟨rfl,by simp,fun c hc hB=>hk c hc (fun e=>hB (by rw [e];exact ⟨rfl,h6⟩))⟩,.inr ⟨rfl,by simp⟩⟩
   ·unfold appendA;simp only [hx,hf];rw [DM (by rw [hcond len rfl];decide),DM (by omega)];simp only [hf2];rw [DM (by simp [o1]),DL (by simp [h6];omega)]
   ·rw [ai.aN,DL (by rw [ai.fU])]
structure fq (h:ai) (N:Nat) (v:Value) (l:List Nat):Prop where
 own:rL h N 1 v l.length (l.map u8)
 byte : ∀ x∈l,x<256
theorem fq.nil (h:ai) (N:Nat):fq h N (.slice none 0 0) []:=⟨.nil h N 1,by simp⟩
theorem fq.keep {h h':ai} {N:Nat} {v:Value} {l:List Nat} (o:fq h N v l) {B:Nat->Prop} (k:az h h' B) (hB : ∀ b,fW v=some b -> ¬B b):fq h' N v l:=⟨o.own.keep k hB,o.byte⟩
theorem fq.bytes {h:ai} {N:Nat} {v:Value} {l:List Nat} (o:fq h N v l) : ∃ a c,v = .slice a l.length c/\ax a l.length h=some l/\iN a l.length c=true/\(∀ y,a=some y->N<=y.block)/\(∀ y,a=some y->fW v=some y.block):=by
 obtain ⟨⟨o1,o2,o3,o4⟩,ob⟩:=o;rcases o4 with ⟨rfl,h4⟩|⟨b,s,rfl,h5,⟨rfl,h4⟩|⟨rfl,h6⟩⟩
 ·have:l = []:=DW.1 h4;subst this;exact ⟨none,0,rfl,rfl,rfl,fun y hy=>(by cases hy),fun y hy=>(by cases hy)⟩
 ·have:l = []:=DW.1 h4;subst this;exact ⟨_,_,rfl,rfl,rfl,fun y hy=>(by cases hy;exact h5),fun y hy=>(by cases hy;rfl)⟩
 ·refine ⟨_,_,rfl,?_,?_,fun y hy=>by cases hy;exact h5,fun y hy=>by cases hy;rfl⟩
  ·have:=dq (off:=0) (n:=l.length) (s:=some 1) h6 (by omega) ob;rw [this,EP,DX (DD _)]
  ·unfold iN;rw [IA (DD _)];rfl
theorem pM {h:ai} {N n c:Nat} {v:Value} {l m:List Nat} {a:Option Addr} (o:fq h N v l) (h0:h.n0<=N) (hN:N<=h.next) (hm:ax a n h=some m) (hb:l.length+n<=100000000) :
  ∃ v' h',appendA 1 1 v (.slice a n c) h=some (v',h')/\fq h' N v' (l++m)/\az h h' (fun c=>fW v=some c)/\(v'=v\/(fW v'=some h.next/\h.next<h'.next)):=by
 obtain ⟨hl,hbt,_⟩:=aH hm;have hf:=jN hm (DD n) (c:=c);rw [DX (by omega)] at hf;obtain ⟨v',h',e1,e2,e3,e4⟩:=append_own (jt:=1) o.own h0 hN (by decide) (show ik (.slice a n c)=some n from rfl) hf (p8 _) (gT _) (by simp [hl]) (by omega) (by omega);refine ⟨v',h',e1,⟨?_,?_⟩,e3.mono (fun c _ hc=>hc.1),e4⟩
 ·rw [DE,FH,hl];exact e2
 ·intro x hx;rcases DU.1 hx with hx|hx
  ·exact o.byte x hx
  ·exact hbt x hx
end
section
theorem sub3 {a b:Nat} (h:b<=a) (h2:a<=9223372036854775807):aF prog .sub 3 (aq a) (aq b)=some (aq (a-b)):=by unfold aq;rw [fE,wrap_i64 (by omega) (by omega)];exact GM (fun q=>some (Value.int .i64 q)) (by omega)
end
section
structure Af (h:ai) (N w lim:Nat) (l:List Nat):Prop where
 ex : ∃ v,h.get w=some [aq lim,.bool false,v]/\fq h N v l/\fW v≠some w /\ ∀ b,fW v=some b->b<h.next
 n0:h.n0<=N
 Nw:N<=w
 small:lim<=100000
 g4:4<=h.n0
def wb (h:ai) (w:Nat):Option Nat:=match h.get w with
 |some [_,_,v]=>fW v
 |_=>none
def Fr (h:ai) (w b:Nat):Prop:=b<h.next/\b≠w/\wb h w≠some b
structure WS (w:Nat) (h h':ai):Prop where
 n0:h'.n0=h.n0
 next:h.next<=h'.next
 getB : ∀ b,Fr h w b->h'.getB b=h.getB b
 fr : ∀ b,Fr h w b->Fr h' w b
theorem WS.get {w:Nat} {h h':ai} (x:WS w h h') (b:Nat) (f:Fr h w b):h'.get b=h.get b:=by unfold ai.get;rw [x.getB b f]
theorem WS.refl (w:Nat) (h:ai):WS w h h:=⟨rfl,DD _,fun _ _=>rfl,fun _ f=>f⟩
theorem WS.trans {w:Nat} {a b c:ai} (x:WS w a b) (y:WS w b c):WS w a c:=⟨y.n0.trans x.n0,D7 x.next y.next,fun d f=>(y.getB d (x.fr d f)).trans (x.getB d f),fun d f=>y.fr d (x.fr d f)⟩
theorem WS.of_old {w:Nat} {h h':ai} (hw:w<h.next) (o:aE h h'):WS w h h':=⟨o.n0,o.next,fun b f=>az.getB o b f.1 (fun h=>h),fun b f=>⟨EJ f.1 o.next,f.2.1,by
 have:wb h' w=wb h w:=by unfold wb;rw [az.get o w hw (fun h=>h)]
 rw [this];exact f.2.2⟩⟩
theorem WS.bytes {w:Nat} {h h':ai} (k:WS w h h') {a:Option Addr} {n:Nat} {l:List Nat} (e:ax a n h=some l) (hb : ∀ y,a=some y->0<n->Fr h w y.block):ax a n h'=some l:=by
 by_cases h0:n=0
 ·subst h0;obtain ⟨hl,_,_⟩:=aH e;have:l = []:=DW.1 hl;subst this;cases a with
  |none=>rfl
  |some x=>unfold ax firstA;simp;rfl
 ·obtain ⟨_,_,h3⟩:=aH e;obtain ⟨b,off,s,c,rfl,hc,_⟩:=h3 (by omega);rw [nL (h:=h) (fun y hy=>by cases hy;exact k.get b (hb _ rfl (by omega)))];exact e
theorem Af.lt {h:ai} {N w lim:Nat} {l:List Nat} (W:Af h N w lim l):w<h.next:=by obtain ⟨v,h1,_⟩:=W.ex;exact h.aO h1
theorem fq.cell {h:ai} {N:Nat} {v:Value} {l:List Nat} (o:fq h N v l):v.cells = #[v]/\v.oneCell'=true/\eK v=false:=by obtain ⟨a,c,rfl,_⟩:=o.bytes;exact ⟨rfl,rfl,rfl⟩
theorem w_append {h:ai} {N w lim:Nat} {l m:List Nat} {a:Option Addr} {n c:Nat} (W:Af h N w lim l) (hm:ax a n h=some m) (hb:l.length+n<=100000) :
  ∃ v v' g g',ld1 (ptr w 2) h=some (v,h)/\appendA 1 1 v (.slice a n c) h=some (v',g)/\eY 1 (ptr w 2) v' g=some (undef,g')/\Af g' N w lim (l++m)/\WS w h g':=by
 obtain ⟨v,h1,h2,h3,hbn⟩:=W.ex;have hlt:=W.lt;have hNw:=W.Nw;obtain ⟨v',g,e1,e2,e3,e4⟩:=pM (c:=c) h2 W.n0 (by omega) hm (by omega);have hg:=e3.getE h1 h3;obtain ⟨c1,c2,c3⟩:=e2.cell;have n0g:g.n0<=w:=by rw [e3.n0];have:=W.n0;omega
 have hst:eY 1 (ptr w 2) v' g=some (undef,g.set w [aq lim,.bool false,v']):=xx hg (by simp) n0g c1 c2;obtain ⟨k2,k3⟩:=setPlain (k' := [aq lim,.bool false,v']) hg n0g;have hv':fW v'≠some w:=by
  rcases e4 with rfl|⟨e4,_⟩
  ·exact h3
  ·rw [e4];intro he;cases he;omega
 refine ⟨v,v',g,_,aW h1 rfl (h2.cell.2.2),e1,hst,⟨⟨v',k3,e2.keep k2 (fun b hb hc=>by subst hc;exact hv' hb),hv',fun b hb=>by
  rcases e4 with rfl|⟨e4,e5⟩
  ·exact EJ (hbn b hb) (D7 e3.next k2.next)
  ·rw [e4] at hb;cases hb;exact EJ e5 k2.next⟩,?_,hNw,W.small,by rw [k2.n0,e3.n0];exact W.g4⟩,⟨k2.n0.trans e3.n0,D7 e3.next k2.next,fun b f => ?_,fun b f=>⟨EJ f.1 (D7 e3.next k2.next),f.2.1,?_⟩⟩⟩
 ·rw [k2.n0,e3.n0];exact W.n0
 ·have hwb:wb h w=fW v:=by unfold wb;rw [h1]
  have f3:=f.2.2;rw [hwb] at f3;exact (k2.getB b (EJ f.1 e3.next) f.2.1).trans (e3.getB b f.1 f3)
 ·have hwb:wb h w=fW v:=by unfold wb;rw [h1]
  have f3:=f.2.2;rw [hwb] at f3;have hwb':wb (g.set w [aq lim,.bool false,v']) w=fW v':=by unfold wb;rw [k3]
  rw [hwb'];rcases e4 with rfl|⟨e4,_⟩
  ·exact f3
  ·rw [e4];intro he;cases he;have:=f.1;omega
theorem is87:cx prog 55 f55:=by constructor<;>kernel_rfl
theorem r87 (h:ai) (hG:4<=h.n0) {lim:Nat} (hl:lim<=100000) : ∃ h',CW 55 [aq lim] h=some (ptr h.next 0,h')/\Af h' h.next h.next lim []/\aE h h' /\ ∀ b,b<h.next->Fr h' h.next b:=by
 have hmx:minmax true (.int .i64 0) [aq lim]=some (aq lim):=by
  simp only [minmax,aq,EA];by_cases h0:(lim:Int)>0
  ·rw [DL (by simpa using h0)]
  ·have:lim=0:=by omega
   subst this;rfl
 have hb:fZ [.int .i64 0,.bool false,.slice none 0 0] [(0,1,aq lim)]=some (.agg [aq lim,.bool false,.slice none 0 0].toArray):=rfl;refine ⟨h.alloc [aq lim,.bool false,.slice none 0 0],aL is87 hG rfl ((t87_eq _ _ _).trans ?_),⟨⟨.slice none 0 0,by rw [ai.aN,DL rfl],.nil _ _,(by intro h;cases h),(by intro b h;cases h)⟩,h.n0_le_next,DD _,hl,hG⟩,az.alloc _ _ _,fun b hb=>⟨by rw [ai.cO];omega,by omega,by
  have:wb (h.alloc [aq lim,.bool false,.slice none 0 0]) h.next=none:=by unfold wb;rw [ai.aN,DL rfl];rfl
  rw [this];intro h;cases h⟩⟩
 unfold t87;simp -implicitDefEqProofs only [aj,hmx,ak,hb,fj h [aq lim,.bool false,.slice none 0 0] rfl]
theorem is126:cx prog 88 f88:=by constructor<;>kernel_rfl
theorem eql110 (b o:Nat):aF prog .eql 103 (ptr b o) (.pointer none)=some (.bool false):=by kernel_rfl
theorem r126 {h:ai} {N w lim:Nat} {l:List Nat} (W:Af h N w lim l) {n:Nat} (hn:l.length+n<=lim) : ∃ h',CW 88 [ptr w 0,aq n] h=some (.bool true,h')/\Af h' N w lim l/\WS w h h':=by
 obtain ⟨v,h1,h2,h3,hbn⟩:=W.ex;obtain ⟨a,c,hv,h4,h5,h6,h7⟩:=h2.bytes;have hNw:=W.Nw;have n0w:h.n0<=w:=by have:=W.n0;omega
 have l0:ld1 (ptr w 0) h=some (aq lim,h):=aW h1 rfl;have l1:ld1 (ptr w 1) h=some (.bool false,h):=aW h1 rfl;have l2:ld1 (ptr w 2) h=some (.slice a l.length c,h):=by rw [<-hv];exact aW h1 rfl (h2.cell.2.2)
 have hst:eY 1 (ptr w 1) (.bool false) h=some (undef,h.set w [aq lim,.bool false,v]):=xx h1 (by simp) n0w rfl rfl;obtain ⟨k2,k3⟩:=setPlain (k' := [aq lim,.bool false,v]) h1 n0w;have hsm:=W.small;have hd:(decide (lim-l.length<n))=false:=DF (by omega);refine ⟨_,aL is126 W.g4 rfl ((t126_eq _ _ _ _).trans ?_),⟨⟨v,k3,h2.keep k2 (fun b hb hc=>by subst hc;exact h3 hb),h3,fun b hb=>EJ (hbn b hb) k2.next⟩,k2.n0▸W.n0,hNw,hsm,k2.n0▸W.g4⟩,⟨k2.n0,k2.next,fun b f=>k2.getB b f.1 f.2.1,fun b f=>⟨EJ f.1 k2.next,f.2.1,by
  have e1:wb h w=fW v:=by unfold wb;rw [h1]
  have e2:wb (h.set w [aq lim,.bool false,v]) w=fW v:=by unfold wb;rw [k3]
  rw [e2,<-e1];exact f.2.2⟩⟩⟩
 have l1':ld1 (ptr w 1) (h.set w [aq lim,.bool false,v])=some (.bool false,h.set w [aq lim,.bool false,v]):=aW k3 rfl;unfold t126;simp -implicitDefEqProofs only [aj,eql110,ak,bB,EC,aC,bX,aB,DH,l1,DG,EF,l0,l2,lenL_slice];rw [show (Value.int .i64 (l.length:Int))=aq l.length from rfl];simp -implicitDefEqProofs only [sub3 (show l.length<=lim by omega) (show lim<=9223372036854775807 by omega), ak, aj, gtr3, hd, hst, l1', aV, DO]
def gz:Nat->Nat->List Nat
 | 0,_ => []
 |n+1,v=>(v/256^n%256)::gz n v
theorem bR : ∀ n v,(gz n v).length=n
 | 0,_=>rfl
 |n+1,v=>by rw [gz,List.length_cons,bR]
theorem is125:cx prog 87 f87:=by constructor<;>kernel_rfl
theorem vA (h:ai) (x:Nat):dg 1 (.int .u8 0) 1 [(0,u8 x)] h=some (.slice (some ⟨h.next,0,none⟩) 1 1,h.alloc [u8 x]):=rfl
theorem nB (h:ai) {x:Nat} (hx:x<256):ax (some ⟨h.next,0,none⟩) 1 (h.alloc [u8 x])=some [x]:=by have:=dq (h:=h.alloc [u8 x]) (b:=h.next) (off:=0) (n:=1) (s:=none) (l := [x]) (by rw [ai.aN,DL rfl];rfl) (by simp) (by simpa using hx);rw [this];rfl
theorem Af.old {h h':ai} {N w lim:Nat} {l:List Nat} (W:Af h N w lim l) (o:aE h h'):Af h' N w lim l:=by obtain ⟨v,h1,h2,h3,h4⟩:=W.ex;exact ⟨⟨v,o.getE h1 (fun h=>h),h2.keep o (fun _ _ h=>h),h3,fun b hb=>EJ (h4 b hb) o.next⟩,by rw [o.n0];exact W.n0,W.Nw,W.small,by rw [o.n0];exact W.g4⟩
theorem Af.alloc {h:ai} {N w lim:Nat} {l:List Nat} (W:Af h N w lim l) (k:ju):Af (h.alloc k) N w lim l:=W.old (az.alloc _ _ _)
theorem r125 {h:ai} {N w lim:Nat} {l:List Nat} (W:Af h N w lim l) {v n:Nat} (h1n:1<=n) (hn:n<=8) (hfit:l.length+n<=lim) (_:v<18446744073709551616) :
  ∃ h',CW 87 [ptr w 0,.int .u64 v,aq n] h=some (.tuple #[],h')/\Af h' N w lim (l++gz n v)/\WS w h h':=by
 obtain ⟨h1,e1,W1,k1⟩:=r126 W hfit;have hsm:=W.small;have key:Fin 30 (fun ex y g=>ex = .exit 0/\Af g N w lim (l++gz n v)/\WS w h g)
   (iter (codeA prog CW (ao f87 [1,0,1,0,0])) aD (aK 30 (up (bs [ptr w 0,.int .u64 v,aq n]) [(6,aq (n-1)),(7,ptr w 0),(8,aq n),(9,.bool true),(10,aq n),(11,aq (n-1))])) h1):=by
  refine bC (vU CW) (Inv:=fun k y g=>k<=n/\y 0=ptr w 0/\y 1 = .int .u64 v/\y 6 = .int .i64 ((k:Int)-1)/\WS w h g /\ ∃ cur,Af g N w lim cur/\cur++gz k v=l++gz n v) ?_ n (by have:aD=18446744073709551616:=rfl;omega)
   ⟨DD _,rfl,rfl,by show aq (n-1)=_;unfold aq;exact GM _ (by omega),k1,l,W1,rfl⟩
  rintro k y g ⟨hk,i0,i1,i6,hkept,cur,Wc,hcur⟩;have hclen:cur.length+k=l.length+n:=by have:=GM List.length hcur;simpa [bR] using this
  unfold nm;simp -implicitDefEqProofs only [i6,aj,bG,ak];by_cases hz:k=0
  ·subst hz;have hd:decide ((((0:Nat):Int)-1)>=0)=false:=by decide
   simp -implicitDefEqProofs only [hd];refine dJ.out 0 ⟨rfl,?_,hkept⟩;have:cur=l++gz n v:=by simpa [gz] using hcur
   rw [<-this];exact Wc
  ·obtain ⟨q,rfl⟩ : ∃ q,k=q+1:=⟨k-1,by omega⟩
   have hd:decide ((((q+1:Nat):Int)-1)>=0)=true:=DC (by omega);have hm8:aF prog .mul 3 (.int .i64 8) (.int .i64 (((q+1:Nat):Int)-1))=some (.int .i64 ((8*q:Nat):Int)):=by rw [jn,wrap_i64 (by omega) (by omega)];exact GM (fun z=>some (Value.int .i64 z)) (by omega)
   have hsh:aF prog .shr 32 (.int .u64 (v:Int)) (.int .i64 ((8*q:Nat):Int))=some (.int .u64 ((v/256^q:Nat):Int)):=by rw [eQ prog 32 (k := .u64) (k' := .i64) (b:=8*q) (by show 8*q<=64;omega)];rw [show (2:Nat)^(8*q)=256^q by rw [Nat.pow_mul]]
   have hcv:IntKind.wrap .u8 ((v/256^q:Nat):Int)=((v/256^q%256:Nat):Int):=by rw [gG];omega
   have hlt8:v/256^q%256<256:=HN _ (by decide);generalize hx:v/256^q%256=x at *;obtain ⟨v1,v2,g1,g2,f1,f2,f3,f4,f5⟩:=w_append (c:=1) (Wc.alloc [u8 x]) (nB g hlt8) (by omega);have hl2:ld1 (ptr w 2) g=some (v1,g):=by obtain ⟨vv,q1,q2,q3⟩:=Wc.ex;have e1:ld1 (ptr w 2) g=some (vv,g):=aW q1 rfl (q2.cell.2.2);have e2:ld1 (ptr w 2) (g.alloc [u8 x])=some (vv,g.alloc [u8 x]):=aW (ai.qi q1 _) rfl (q2.cell.2.2);rw [e2] at f1;simp only [DA,DN,JW] at f1;rw [<-f1];exact e1
   have hsub:aF prog .sub 3 (.int .i64 (((q+1:Nat):Int)-1)) (.int .i64 1)=some (.int .i64 ((q:Int)-1)):=by rw [fE,wrap_i64 (by omega) (by omega)];exact GM (fun z=>some (Value.int .i64 z)) (by omega)
   simp -implicitDefEqProofs only [hd,i0,i1,aj,ak,bX,aB,DH,hl2,hm8,hsh,eh,hcv];rw [show (Value.int .u8 (x:Int))=u8 x from rfl,vA];simp -implicitDefEqProofs only [aj, f2, ak, f3, hsub];refine dJ.next q (by omega) ⟨by omega,i0,i1,rfl,?_,cur ++ [x],f4,?_⟩
   ·exact (hkept.trans (WS.of_old Wc.lt (az.alloc g _ _))).trans f5
   ·rw [<-hcur,gz,hx,ER];rfl
 obtain ⟨ex,y,g,q1,rfl,q2,q3⟩:=key;refine ⟨g,aL is125 W.g4 rfl ((t125_eq _ _ _ _ _).trans ?_),q2,q3⟩;unfold t125;have hs1:aF prog .sub 3 (aq n) (.int .i64 1)=some (aq (n-1)):=sub3 (b:=1) h1n (by omega);simp -implicitDefEqProofs only [aj,e1,hs1,ak];rw [q1];simp -implicitDefEqProofs only [bk,b125_2,EA];have hr:f87.results.toList = []:=by kernel_rfl
 rw [dC,hr];rfl
end
section
theorem is90:cx prog 58 f58:=by constructor<;>kernel_rfl
theorem is88:cx prog 56 f56:=by constructor<;>kernel_rfl
theorem is91:cx prog 59 f59:=by constructor<;>kernel_rfl
section
variable {h:ai} {N w lim:Nat} {l:List Nat} (W:Af h N w lim l)
include W
theorem r90 {v:Nat} (hfit:l.length+8<=lim) (hv:v<18446744073709551616) : ∃ h',CW 58 [ptr w 0,.int .u64 v] h=some (.tuple #[],h')/\Af h' N w lim (l++gz 8 v)/\WS w h h':=by obtain ⟨h1,e1,e2,e3⟩:=r125 W (v:=v) (n:=8) (by decide) (by decide) hfit (by omega);have e1:CW 87 [ptr w 0,.int .u64 v,.int .i64 8] h=_:=e1;refine ⟨h1,aL is90 W.g4 rfl ((t90_eq _ _ _ _).trans ?_),e2,e3⟩;unfold t90;simp -implicitDefEqProofs only [aj,e1]
theorem r88 {v:Nat} (hfit:l.length+1<=lim) (hv:v<256) : ∃ h',CW 56 [ptr w 0,.int .u8 v] h=some (.tuple #[],h')/\Af h' N w lim (l++gz 1 v)/\WS w h h':=by obtain ⟨h1,e1,e2,e3⟩:=r125 W (v:=v) (n:=1) (by decide) (by decide) hfit (by omega);have e1:CW 87 [ptr w 0,.int .u64 v,.int .i64 1] h=_:=e1;have hw:IntKind.wrap .u64 (v:Int)=(v:Int):=wrap_u64 (by omega) (by omega);refine ⟨h1,aL is88 W.g4 rfl ((t88_eq _ _ _ _).trans ?_),e2,e3⟩;unfold t88;simp -implicitDefEqProofs only [aj,eh,hw,e1]
theorem r91 (hl:l.length<=21000) : ∃ a c h',CW 59 [ptr w 0] h=some (.tuple #[.slice a l.length c,.int .i64 0],h')/\ax a l.length h'=some l/\iN a l.length c=true/\aE h h'/\(∀ y,a=some y->h.next<=y.block):=by
 obtain ⟨v,h1,h2,h3⟩:=W.ex;obtain ⟨a,c,hv,h4,h5,h6,h7⟩:=h2.bytes;obtain ⟨a',c',h',e1,e2,e3,e4,e5,_⟩:=r69b (c:=c) W.g4 h4 hl;have l1:ld1 (ptr w 1) h=some (.bool false,h):=aW h1 rfl;have l2:ld1 (ptr w 2) h=some (.slice a l.length c,h):=by rw [<-hv];exact aW h1 rfl (h2.cell.2.2)
 refine ⟨a',c',h',aL is91 W.g4 rfl ((t91_eq _ _ _).trans ?_),e2,e3,e4,fun y hy=>(e5 y hy).1⟩;unfold t91;simp -implicitDefEqProofs only [aj,eql110,ak,bX,aB,DH,l1,l2,e1]
end
end
end
theorem df.app {ks ls:List Kd} {a b:List Value} (x:df ks a) (y:df ls b):df (ks++ls) (a++b):=by
 refine ⟨by rw [DE,DE,x.1,y.1],fun j k hk => ?_⟩;by_cases hj:j<ks.length
 ·rw [E9 hj] at hk;obtain ⟨v,h1,h2⟩:=x.2 j k hk;exact ⟨v,by rw [E9 (by rw [x.1];exact hj)];exact h1,h2⟩
 ·rw [EH (by omega)] at hk;obtain ⟨v,h1,h2⟩:=y.2 _ k hk;exact ⟨v,by rw [EH (by rw [x.1];omega),x.1];exact h1,h2⟩
theorem df.one {k:Kd} {v:Value} (h:k.has v):df [k] [v]:=⟨rfl,fun j t ht=>by
 cases j with
 |zero=>cases ht;exact ⟨v,rfl,h⟩
 |succ j=>cases ht⟩
@[ext] structure av where
  kind:Nat
  obj:List Nat
  aU:Int
  ja:Nat
  qP:Nat
  held:Bool
  k:Int
  n:Int
abbrev bn (l:List Nat):List Value:=l.map u8
def bW (r:av):List Value := .int .u8 (r.kind:Int)::(bn r.obj ++ [.int .i64 r.aU,.int .u64 (r.ja:Int),.int .u64 (r.qP:Int),.bool r.held,.int .i64 r.k,.int .i64 r.n])
def I64 (n:Int):Prop := -9223372036854775808<=n/\n<=9223372036854775807
def BK (l:List Nat):Prop := ∀ x∈l,x<256
def js (l:List Nat):Prop:=l.length=32/\BK l
structure av.Wf (r:av):Prop where
 kind:r.kind<256
 obj:js r.obj
 aU:I64 r.aU
 ja:r.ja<18446744073709551616
 qP:r.qP<18446744073709551616
 k:I64 r.k
 n:I64 r.n
theorem pG {n:Int}:(Lit.int .i64 n).wf=true↔I64 n:=by unfold I64;simp [Lit.wf,IntKind.min,IntKind.max,IntKind.signed,IntKind.bits]
theorem wf_u64' {m:Nat} (h:m<18446744073709551616):(Lit.int .u64 (m:Int)).wf=true:=by simp [Lit.wf,IntKind.min,IntKind.max,IntKind.signed,IntKind.bits];omega
theorem dK {l:List Nat} (h:js l):df uh (bn l):=by
 refine ⟨by rw [DY];exact h.1,fun j k hk => ?_⟩;have hj:j<32:=by have:=(EV.1 hk).1;simpa [uh] using this
 unfold uh at hk;rw [GY,DL hj] at hk;cases hk;have hj':j<l.length:=by rw [h.1];exact hj
 exact ⟨_,by rw [EN,DB hj'];rfl,_,rfl,h.2 _ (EL hj')⟩
theorem cZ {r:av} (h:r.Wf):df jO (bW r):=
 (df.one (k := .u8) ⟨_,rfl,h.kind⟩).app ((dK h.obj).app ((df.one (k := .i .i64) ⟨_,rfl,pG.2 h.aU⟩).app ((df.one (k := .i .u64) ⟨_,rfl,wf_u64' h.ja⟩).app ((df.one (k := .i .u64) ⟨_,rfl,wf_u64' h.qP⟩).app
  ((df.one (k := .b) ⟨_,rfl⟩).app ((df.one (k := .i .i64) ⟨_,rfl,pG.2 h.k⟩).app (df.one (k := .i .i64) ⟨_,rfl,pG.2 h.n⟩)))))))
theorem xl {a b:List Nat} (h:bn a=bn b):a=b:=List.map_inj_right (fun x y e=>by have e:(Value.int .u8 (x:Int)) = .int .u8 (y:Int):=e;simp only [Value.int.injEq,true_and] at e;omega) |>.1 h
theorem tQ {a b:av} (ha:a.obj.length=32) (hb:b.obj.length=32) (h:bW a=bW b):a=b:=by unfold bW at h;rw [HJ] at h;obtain ⟨h1,h2⟩:=h;obtain ⟨h3,h4⟩:=List.append_inj h2 (by simp [bn,ha,hb]);simp only [HJ,Value.int.injEq,Value.bool.injEq,true_and,JW] at h1 h4;obtain ⟨q1,q2,q3,q4,q5,q6⟩:=h4;exact av.ext (by omega) (xl h3) q1 (by omega) (by omega) q4 q5 q6
end Go.Proofs.YtdnahgfgoajmcaaGreatDoor
namespace Go.Proofs.YtdnahgfgoajmcaaGreatDoor
open Go Go.Abs Tryz
attribute [local congr] aw
def kH (r:av):Bool:=decide (r.aU>=0)&&decide (r.aU<16)&&decide ((r.ja:Int)>=1)
def z32:List Nat:=List.replicate 32 0
def av.z:av:=⟨0,z32,0,0,0,false,0,0⟩
deriving instance DecidableEq for av
def av.b9 (r:av):av:={ av.z with kind:=r.kind,aU:=r.aU,ja:=r.ja }
def av.grave (r:av):av:={ av.z with kind:=r.kind,obj:=r.obj }
def Ae (r:av):Bool:=kH r&&decide ((r.qP:Int)>=1)&&decide (1<=r.k)&&decide (r.k<=r.n)&&decide (r.n<=255)
def dX (r:av):Bool:=if (r.kind:Int)==1 then decide (r=r.b9)&&kH r else if (r.kind:Int)==2 then decide (r=r.grave) else if (r.kind:Int)==3 then Ae r else false
theorem is86:cx prog 45 f45:=by constructor<;>kernel_rfl
theorem is42:cx prog 20 f20:=by constructor<;>kernel_rfl
theorem aQ {r:av} (w:r.Wf):(bW r).length=39/\Abs.noHoles (bW r)=true/\aM (bW r)=true:=by have t:=cZ w;exact ⟨t.1,t.all.1,t.all.2.1⟩
structure RLd (h:ai) (b:Nat) (r:av):Prop where
 l0:ld1 (ptr b 0) h=some (.int .u8 (r.kind:Int),h)
 l1:du 32 (ptr b 1) h=some (.agg (bn r.obj).toArray,h)
 l33:ld1 (ptr b 33) h=some (.int .i64 r.aU,h)
 l34:ld1 (ptr b 34) h=some (.int .u64 (r.ja:Int),h)
 l35:ld1 (ptr b 35) h=some (.int .u64 (r.qP:Int),h)
 l36:ld1 (ptr b 36) h=some (.bool r.held,h)
 l37:ld1 (ptr b 37) h=some (.int .i64 r.k,h)
 l38:ld1 (ptr b 38) h=some (.int .i64 r.n,h)
 all:du 39 (ptr b 0) h=some (.agg (bW r).toArray,h)
theorem mo {h:ai} {b:Nat} {r:av} (w:r.Wf) (g:h.get b=some (bW r)):RLd h b r:=by
 have ho:(bn r.obj).length=32:=by rw [DY];exact w.obj.1
 have hd:=(dK w.obj).all.1;have fB : ∀ i v,[Value.int .i64 r.aU,.int .u64 (r.ja:Int),.int .u64 (r.qP:Int),.bool r.held,.int .i64 r.k,.int .i64 r.n][i]? = some v->(bW r)[33+i]? = some v:=fun i v e=>by unfold bW;rw [show 33+i=(32+i)+1 by omega,List.getElem?_cons_succ,EH (by omega),ho,FO];exact e
 exact ⟨aW g rfl rfl,xJ g (A := [.int .u8 (r.kind:Int)]) (B:=bn r.obj) rfl rfl ho hd,aW g (fB 0 _ rfl) rfl,aW g (fB 1 _ rfl) rfl,aW g (fB 2 _ rfl) rfl,aW g (fB 3 _ rfl) rfl,aW g (fB 4 _ rfl) rfl,aW g (fB 5 _ rfl) rfl,
  xJ g (A := []) (B:=bW r) (C := []) (by simp) rfl (aQ w).1 (aQ w).2.1⟩
theorem xH (h:ai) {r:av} (w:r.Wf) : ∃ h1,box (.agg (bW r).toArray) h=some (ptr h.next 0,h1)/\aE h h1/\RLd h1 h.next r:=by
 have g1:(h.alloc (bW r)).get h.next=some (bW r):=by rw [ai.aN,DL rfl]
 exact ⟨_,fj h _ (aQ w).2.2,az.alloc _ _ _,mo w g1⟩
theorem r86 {h:ai} (hG:4<=h.n0) {r:av} (w:r.Wf) : ∃ h',CW 45 [.agg (bW r).toArray] h=some (.bool (kH r),h')/\aE h h':=by
 obtain ⟨h1,b1,o1,A⟩:=xH h w;refine ⟨h1,aL is86 hG rfl ((t86_eq _ _ _).trans ?_),o1⟩;unfold t86 kH;cases q0:decide (r.aU>=0) with
 |false=>simp -implicitDefEqProofs only [b1, A.l33, aj, ak, bB, fs, aG, DG, EF, aB, DH, bG, q0, EG]
 |true=>
 cases q1:decide (r.aU<16) with
 |false=>simp -implicitDefEqProofs only [b1, A.l33, aj, ak, bB, fs, EC, aC, aG, DG, EF, EA, aB, DH, bG, bL, q0, q1, ES, EG]
 |true=>
 cases q2:decide ((r.ja:Int)>=1) with
 |false=>simp -implicitDefEqProofs only [b1, A.l33, A.l34, aj, ak, bB, EC, aC, EA, aB, DH, bG, bL, q0, q1, q2, D9, ES]
 |true=>
 simp -implicitDefEqProofs only [b1, A.l33, A.l34, aj, ak, bB, EC, aC, EA, aB, DH, bG, bL, q0, q1, q2, D9]
theorem mf {A B C B':List Value} {o n:Nat} (hA:A.length=o) (hB:B.length=n) (hB':B'.length=n):splice (A++(B++C)) o B'=A++(B'++C):=by subst hA;unfold splice;rw [JL,hB',ER,<-hB,<-List.length_append,<-List.append_assoc A B C,List.drop_left]
theorem iq {z A B C B':List Value} {o n:Nat} {cU:List (Nat×Nat×Value)} (e:z=A++(B++C)) (hA:A.length=o) (hB:B.length=n) (hB':B'.length=n):fillL z ((o,n,.agg B'.toArray)::cU)=fillL (A++(B'++C)) cU:=by
 subst e;have hc:(Value.agg B'.toArray).cells=B'.toArray:=rfl;simp only [fillL,hc,FT,hB'];rw [DL (by
  have:o+n<=(A++(B++C)).length:=by rw [DE,DE,hA,hB];omega
  simp only [DC this];simp),mf hA hB hB']
theorem vY:I64 0:=⟨by decide,by decide⟩
theorem base_wf {r:av} (w:r.Wf):r.b9.Wf:=⟨w.kind,⟨rfl,fun x hx=>by have:=GP hx;omega⟩,w.aU,w.ja,by show (0:Nat)<_;omega,vY,vY⟩
theorem grave_wf {r:av} (w:r.Wf):r.grave.Wf:=⟨w.kind,w.obj,vY,by show (0:Nat)<_;omega,by show (0:Nat)<_;omega,vY,vY⟩
theorem bld_base (r:av):fZ mE [(0,1,.int .u8 (r.kind:Int)),(33,1,.int .i64 r.aU),(34,1,.int .u64 (r.ja:Int))]=some (.agg (bW r.b9).toArray):=rfl
theorem bld_grave {r:av} (w:r.Wf):fZ mE [(0,1,.int .u8 (r.kind:Int)),(1,32,.agg (bn r.obj).toArray)]=some (.agg (bW r.grave).toArray):=by have e:fillL mE [(0,1,.int .u8 (r.kind:Int)),(1,32,.agg (bn r.obj).toArray)]=fillL ([.int .u8 (r.kind:Int)]++(bn z32 ++ [.int .i64 0,.int .u64 0,.int .u64 0,.bool false,.int .i64 0,.int .i64 0])) [(1,32,.agg (bn r.obj).toArray)]:=rfl;unfold fZ;rw [e,iq (A := [.int .u8 (r.kind:Int)]) (B:=bn z32) (o:=1) (n:=32) rfl rfl rfl (by rw [DY];exact w.obj.1)];rfl
theorem CZ {a b:av} (wa:a.Wf) (wb:b.Wf):aF prog .eql 66 (.agg (bW a).toArray) (.agg (bW b).toArray)=some (.bool (decide (a=b))):=by
 obtain ⟨r,h1,h2,_⟩:=eq58 _ _ (cZ wa) (cZ wb);have hr:r=decide (a=b):=by
  by_cases e:a=b
  ·rw [DC e,h1.2 (by rw [e])]
  ·rw [DF e];cases r with
   |false=>rfl
   |true=>exact absurd (tQ wa.obj.1 wb.obj.1 (h1.1 rfl)) e
 rw [h2,hr]
theorem r42 {h:ai} (hG:4<=h.n0) {r:av} (w:r.Wf) : ∃ h',CW 20 [.agg (bW r).toArray] h=some (.bool (dX r),h')/\aE h h':=by
 obtain ⟨h1,b1,o1,A⟩:=xH h w;obtain ⟨h2,e2,o2⟩:=r86 (h:=h1) (by rw [o1.n0];exact hG) w;have e3:=bld_base r;have e4:=bld_grave w;have e5:=CZ w (base_wf w);have e6:=CZ w (grave_wf w);unfold dX;cases k1:(r.kind:Int)==1 with
 |true=>
  simp only [EA];cases q0:decide (r=r.b9) with
  |false=>
   refine ⟨h1,aL is42 hG rfl ((zP _ _ _).trans ?_),o1⟩;unfold t42;simp -implicitDefEqProofs only [b1, A.l0, A.l33, A.l34, A.all, e3, e5, k1, q0, aj, ak, bB, fs, aG, DG, EF, aB, DH, bF, EG]
  |true=>
   refine ⟨h2,aL is42 hG rfl ((zP _ _ _).trans ?_),o1.trans o2⟩;unfold t42;simp -implicitDefEqProofs only [b1, A.l0, A.l33, A.l34, A.all, e3, e5, e2, k1, q0, aj, ak, bB, EC, aC, EA, aB, DH, bF, EM]
 |false=>
  simp only [DG,EF];cases k2:(r.kind:Int)==2 with
  |true=>
   simp only [EA];refine ⟨h1,aL is42 hG rfl ((zP _ _ _).trans ?_),o1⟩;unfold t42;simp -implicitDefEqProofs only [b1, A.l0, A.l1, A.all, e4, e6, k1, k2, aj, ak, aB, DH, bF]
  |false=>
   simp only [DG,EF];cases k3:(r.kind:Int)==3 with
   |true=>
    simp only [EA];have A2:RLd h2 h.next r:=mo w (aE.get o2 (by obtain ⟨_,b1',_⟩:=xH h w;have:=fj h (bW r) (aQ w).2.2;rw [b1] at this;cases this;rw [ai.aN,DL rfl]))
    refine ⟨h2,aL is42 hG rfl ((zP _ _ _).trans ?_),o1.trans o2⟩;unfold t42 Ae;cases q0:kH r with
    |false=>simp -implicitDefEqProofs only [b1, A.l0, A.all, e2, k1, k2, k3, aj, ak, bB, fs, aG, DG, EF, aB, DH, bF, q0, EG]
    |true=>
    cases q1:decide ((r.qP:Int)>=1) with
    |false=>simp -implicitDefEqProofs only [b1, A.l0, A.all, e2, k1, k2, k3, A2.l35, aj, ak, bB, fs, EC, aC, aG, DG, EF, EA, aB, DH, bG, bF, q0, q1, ES, EG]
    |true=>
    cases q2:decide (1<=r.k) with
    |false=>simp -implicitDefEqProofs only [b1, A.l0, A.all, e2, k1, k2, k3, A2.l35, A2.l37, aj, ak, bB, fs, EC, aC, aG, DG, EF, EA, aB, DH, bG, bU, bF, q0, q1, q2, D9, ES, EG]
    |true=>
    cases q3:decide (r.k<=r.n) with
    |false=>simp -implicitDefEqProofs only [b1, A.l0, A.all, e2, k1, k2, k3, A2.l35, A2.l37, A2.l38, aj, ak, bB, fs, EC, aC, aG, DG, EF, EA, aB, DH, bG, bU, bF, q0, q1, q2, q3, D9, ES, EG]
    |true=>
    cases q4:decide (r.n<=255) with
    |false=>simp -implicitDefEqProofs only [b1, A.l0, A.all, e2, k1, k2, k3, A2.l35, A2.l37, A2.l38, aj, ak, bB, EC, aC, EA, aB, DH, bG, bU, bF, q0, q1, q2, q3, q4, D9, ES]
    |true=>
    simp -implicitDefEqProofs only [b1, A.l0, A.all, e2, k1, k2, k3, A2.l35, A2.l37, A2.l38, aj, ak, bB, EC, aC, EA, aB, DH, bG, bU, bF, q0, q1, q2, q3, q4, D9]
   |false=>
    refine ⟨h1,aL is42 hG rfl ((zP _ _ _).trans ?_),o1⟩;unfold t42;simp -implicitDefEqProofs only [b1, A.l0, k1, k2, k3, aj, ak, DG, EF, aB, DH, bF]
theorem ld_agg {t n:Nat} (h1:su prog t=some true) (h2:cS prog t=some n) (v:Value) (h:ai):ld prog t v h=du n v h:=by unfold ld;rw [h1,h2]
theorem zn {n k:Nat} (hk:k<n) (x:Nat->Value):(aK n x).getD k undef=x k:=by unfold aK;simp [hk]
theorem vG:js z32:=⟨rfl,fun x hx=>by have:=GP hx;omega⟩
theorem ext0 (a b:Value):extractA (.tuple #[a,b]) 0=some a:=rfl
theorem ext1 (a b:Value):extractA (.tuple #[a,b]) 1=some b:=rfl
theorem fresh (cs:List Value) (h:ai) : ∃ h2,eH cs h=some (ptr h.next 0,h2)/\aE h h2/\h2.get h.next=some cs/\h2.next=h.next+1:=
 ⟨_,newC_eq _ _,az.alloc _ _ _,by rw [ai.aN,DL rfl],rfl⟩
theorem stored {h:ai} {b o:Nat} {k:ju} {v:Value} (g:h.get b=some k) (hn:h.n0<=b) (ho:o<k.length) (hc:v.cells = #[v]) (hv:v.oneCell'=true) : ∃ h2,eY 1 (ptr b o) v h=some (undef,h2)/\az h h2 (· = b)/\h2.get b=some (k.set o v)/\h2.n0<=b/\h2.next=h.next:=
 ⟨_,xx g ho hn hc hv,az.set hn g (.inr rfl),ai.dZ hn g _,hn,rfl⟩
theorem aY {h:ai} {b n:Nat} {k k':ju} (g:h.get b=some k) (hn:h.n0<=b) (hl:k.length=n) (hl':k'.length=n) (ho:aM k'=true) : ∃ h2,eY n (ptr b 0) (.agg k'.toArray) h=some (undef,h2)/\az h h2 (· = b)/\h2.get b=some k'/\h2.n0<=b/\h2.next=h.next:=
 ⟨_,stN_whole g hn hl hl' ho,az.set hn g (.inr rfl),ai.dZ hn g _,hn,rfl⟩
theorem is89:cx prog 57 f57:=by constructor<;>kernel_rfl
theorem r89 {h:ai} {N w lim:Nat} {l:List Nat} (W:Af h N w lim l) {a:Option Addr} {n c:Nat} {m:List Nat} (hm:ax a n h=some m) (ha : ∀ y,a=some y->0<n->Fr h w y.block) (hfit:l.length+n<=lim) :
  ∃ h',CW 57 [ptr w 0,.slice a n c] h=some (.tuple #[],h')/\Af h' N w lim (l++m)/\WS w h h':=by
 obtain ⟨h1,e1,W1,k1⟩:=r126 W (n:=n) hfit;have hsm:=W.small;obtain ⟨v1,v2,g1,g2,f1,f2,f3,f4,f5⟩:=w_append (c:=c) W1 (k1.bytes hm ha) (by omega);have hl:lenL (.slice a n c)=some (aq n):=rfl;refine ⟨g2,aL is89 W.g4 rfl ((t89_eq _ _ _ _).trans ?_),f4,k1.trans f5⟩;unfold t89;simp -implicitDefEqProofs only [aj,hl,ak,e1,bX,aB,DH,f1,f2,f3]
theorem Bz (b o:Nat):sliceArr 32 1 (ptr b o) none none none=some (.slice (some ⟨b,o,none⟩) 32 32):=by unfold sliceArr;rfl
theorem De (l:List Nat):Abs.noHoles (bn l)=true/\aM (bn l)=true:=by
 refine ⟨?_,?_⟩
 ·unfold Abs.noHoles;rw [DR];intro v hv;obtain ⟨x,_,rfl⟩:=E0.1 hv;rfl
 ·unfold aM;rw [DR];intro v hv;obtain ⟨x,_,rfl⟩:=E0.1 hv;rfl
theorem bj {h:ai} {b n:Nat} {k:List Value} (g:h.get b=some k) (hl:k.length=n) (nh:Abs.noHoles k=true):du n (ptr b 0) h=some (.agg k.toArray,h):=xJ g (A := []) (B:=k) (C := []) (by simp) rfl hl nh
def i8 (x:Int):Nat:=(x%256).toNat
theorem qH (x:Int):i8 x<256:=by unfold i8;omega
theorem CL (x:Int):IntKind.wrap .u8 x=(i8 x:Nat):=by rw [gG];unfold i8;omega
def bit (b:Bool):Nat:=if b then 1 else 0
def kr (r:av):List Nat:=gz 1 r.kind++(r.obj++(gz 1 (i8 r.aU)++(gz 8 r.ja++(gz 8 r.qP++(gz 1 (bit r.held)++(gz 1 (i8 r.k)++gz 1 (i8 r.n)))))))
theorem jf {h:ai} {b off:Nat} {s:Option Nat} {k A C:List Value} {l:List Nat} (g:h.get b=some k) (e:k=A++(bn l++C)) (hA:A.length=off) (hb:BK l):ax (some ⟨b,off,s⟩) l.length h=some l:=by
 unfold ax;rw [DZ];refine ⟨bn l,?_,mP hb⟩;have hm:=mid e hA (show (bn l).length=l.length from DY ..);have hl:off+l.length<=k.length:=by rw [e,DE,DE,DY,hA];omega
 simp only [firstA,g,GF];by_cases h0:l.length=0
 ·rw [DL h0,DW.1 h0];rfl
 ·rw [DM h0,hm,DL ⟨hl,(De l).1⟩]
theorem yk {g:ai} {b off m i v:Nat} {s:Option Nat} {k:ju} {l:List Nat} (h0:g.n0<=b) (hk:g.get b=some k) (hl:ax (some ⟨b,off,s⟩) m g=some l) (hi:i<m) (hv:v<256) :
  ∃ h',eY 1 (ptr b (off+i)) (u8 v) g=some (undef,h')/\ax (some ⟨b,off,s⟩) m h'=some (l.set i v)/\az g h' (· = b)/\h'.next=g.next:=by
 obtain ⟨hlen,hb,hat⟩:=aH hl;obtain ⟨b',off',s',k',he,hk',hkl,hc⟩:=hat (by omega);cases he;rw [hk] at hk';cases hk';obtain ⟨h',e1,e2,e3,_,e5⟩:=stored (v:=u8 v) (o:=off+i) hk h0 (by omega) rfl rfl;refine ⟨h',e1,?_,e2,e5⟩;have hcells:(k.drop off).take m=bn l:=by
  refine FU fun j => ?_;rw [FK];by_cases hj:j<m
  ·rw [DL hj,FL,hc j hj,EN,DJ,DB (by omega)];rfl
  ·rw [DM hj,ET (by rw [DY];omega)]
 have hsplit:(k.set (off+i) (u8 v))=k.take off++(bn (l.set i v)++k.drop (off+m)):=by
  have h1:k=k.take off++(bn l++k.drop (off+m)):=by rw [<-hcells,<-List.drop_drop,FC,FC]
  have h2:(k.take off).length=off:=by rw [DV];omega
  conv=>lhs;rw [h1]
  rw [IV _ _ (by omega),h2,FO,JS _ _ (by rw [DY];omega),show bn (l.set i v)=(bn l).set i (u8 v) from JN ..]
 have hb':BK (l.set i v):=fun x hx=>by
  rcases HF hx with hx|hx
  ·exact hb x hx
  ·omega
 have:=jf (off:=off) (s:=s) e3 hsplit (by rw [DV];omega) hb';rw [H6,hlen] at this;exact this
theorem aE.bK {a b c:ai} {d:Nat} (x:aE a b) (k:az b c (· = d)) (hd:a.next<=d):aE a c:=x.also k (fun e he q=>by omega)
theorem idx_bytes {a:Option Addr} {n c i:Nat} {h:ai} {l:List Nat} (e:ax a n h=some l) (hi:i<n) : ∃ b off s k,a=some ⟨b,off,s⟩/\h.get b=some k/\idxS 1 (.slice a n c) (aq i)=some (ptr b (off+i)):=by obtain ⟨b,off,s,k,rfl,hk,_⟩:=(aH e).2.2 (by omega);refine ⟨b,off,s,k,rfl,hk,?_⟩;unfold idxS;simp only [];rw [DL (by omega),Int.toNat_natCast,GF]
theorem set_nat {A B B':List Nat} {i v:Nat} (j:Nat) (h:A.length+j=i) (e:B.set j v=B'):(A++B).set i v=A++B':=by subst h;rw [IV _ _ (by omega),FO,e]
theorem dS (h:ai) {r:av} (w:r.Wf) : ∃ h1,box (.agg (bW r).toArray) h=some (ptr h.next 0,h1)/\aE h h1/\h1.get h.next=some (bW r)/\h1.next=h.next+1:=by
 have g1:(h.alloc (bW r)).get h.next=some (bW r):=by rw [ai.aN,DL rfl]
 exact ⟨_,fj h _ (aQ w).2.2,az.alloc _ _ _,g1,rfl⟩
theorem is43:cx prog 24 f24:=by constructor<;>kernel_rfl
set_option maxRecDepth 100000 in
theorem r43 {h:ai} (hG:4<=h.n0) {r:av} (w:r.Wf) (v:dX r=true) : ∃ a c h',CW 24 [.agg (bW r).toArray] h=some (.tuple #[.slice a 53 c,.int .i64 0],h')/\ax a 53 h'=some (kr r)/\aE h h'/\(∀ y,a=some y->h.next<=y.block)/\iN a 53 c=true:=by
 obtain ⟨h1,b1,o1,g1,n1⟩:=dS h w;have A1:=mo w g1;obtain ⟨h2,e2,o2⟩:=r42 (h:=h1) (by rw [o1.n0];exact hG) w;rw [v] at e2;have O2:=o1.trans o2;have m2:=o2.next;obtain ⟨h3,e3,W3,o3,F3⟩:=r87 h2 (by rw [O2.n0];exact hG) (lim:=53) (by decide);have e3:CW 55 [.int .i64 53] h2=_:=e3;have fb:Fr h3 h2.next h.next:=F3 _ (by omega);have gb:h3.get h.next=some (bW r):=aE.get o3 (aE.get o2 g1);have K3:WS h2.next h3 h3:=WS.refl _ _;have A3:=mo w gb;obtain ⟨h4,e4,W4,k4⟩:=r88 W3 (v:=r.kind) (by simp only [List.length_nil];omega) w.kind;have K4:=K3.trans k4;have A4:=mo w ((K4.get _ fb).trans gb);obtain ⟨h5,e5,W5,k5⟩:=r89 W4 (n:=r.obj.length) (c:=32) (jf (off:=1) (s:=none) ((K4.get _ fb).trans gb) (A := [.int .u8 (r.kind:Int)]) rfl rfl w.obj.2) (fun y hy _=>by cases hy;exact K4.fr _ fb) (by simp only [DE, bR, List.length_nil, w.obj.1];omega);have K5:=K4.trans k5;have A5:=mo w ((K5.get _ fb).trans gb);obtain ⟨h6,e6,W6,k6⟩:=r88 W5 (v:=i8 r.aU) (by simp only [DE, bR, List.length_nil, w.obj.1];omega) (qH _);have K6:=K5.trans k6;have A6:=mo w ((K6.get _ fb).trans gb);obtain ⟨h7,e7,W7,k7⟩:=r90 W6 (v:=r.ja) (by simp only [DE, bR, List.length_nil, w.obj.1];omega) w.ja;have K7:=K6.trans k7;have A7:=mo w ((K7.get _ fb).trans gb);obtain ⟨h8,e8,W8,k8⟩:=r90 W7 (v:=r.qP) (by simp only [DE, bR, List.length_nil, w.obj.1];omega) w.qP;have K8:=K7.trans k8;have A8:=mo w ((K8.get _ fb).trans gb);obtain ⟨h9,e9,W9,k9⟩:=r88 W8 (v:=0) (by simp only [DE, bR, List.length_nil, w.obj.1];omega) (by decide);have K9:=K8.trans k9;have A9:=mo w ((K9.get _ fb).trans gb);obtain ⟨h10,e10,W10,k10⟩:=r88 W9 (v:=i8 r.k) (by simp only [DE, bR, List.length_nil, w.obj.1];omega) (qH _);have K10:=K9.trans k10;have A10:=mo w ((K10.get _ fb).trans gb);obtain ⟨h11,e11,W11,k11⟩:=r88 W10 (v:=i8 r.n) (by simp only [DE, bR, List.length_nil, w.obj.1];omega) (qH _);have K11:=K10.trans k11;have A11:=mo w ((K11.get _ fb).trans gb);have a5:(32:Nat)=r.obj.length:=w.obj.1.symm;have e5:CW 57 [ptr h2.next 0,.slice (some ⟨h.next,1,none⟩) 32 32] h4=some (.tuple #[],h5):=by have:=e5;rw [w.obj.1] at this;exact this
 have e9:CW 56 [ptr h2.next 0,.int .u8 0] h8=some (.tuple #[],h9):=e9;obtain ⟨a,c,h12,e12,s12,gd12,o12,f12⟩:=r91 W11 (by simp only [DE, bR, List.length_nil, w.obj.1];decide);have hL:(((((((([]++gz 1 r.kind)++r.obj)++gz 1 (i8 r.aU))++gz 8 r.ja)++gz 8 r.qP)++gz 1 0)++gz 1 (i8 r.k))++gz 1 (i8 r.n)).length=53:=by simp only [DE, bR, List.length_nil, w.obj.1]
 have o212:aE h2 h12:=by refine ⟨by rw [o12.n0,K11.n0,o3.n0],D7 o3.next (D7 K11.next o12.next),fun d hd _ => ?_⟩;have f3:=F3 d hd;exact (az.getB o12 d (EJ f3.1 K11.next) (fun h=>h)).trans ((K11.getB d f3).trans (az.getB o3 d hd (fun h=>h)))
 have A12:=mo w (aE.get o212 (aE.get o2 g1));rw [hL] at e12 s12 gd12;have hle:h.next<=h11.next:=by have:=D7 o3.next K11.next;omega
 have hs3:aF prog .sub 3 (aq 53) (.int .i64 3)=some (aq 50):=sub3 (b:=3) (by decide) (by decide);have hl53:lenL (.slice a 53 c)=some (aq 53):=rfl;cases hh:r.held with
 |false=>
  refine ⟨a,c,h12,aL is43 hG rfl ((t43_eq _ _ _).trans ?_),?_,O2.trans o212,fun y hy=>D7 hle (f12 y hy),gd12⟩
  ·have l36:ld1 (ptr h.next 36) h12=some (.bool false,h12):=by rw [A12.l36,hh]
   unfold t43;simp -implicitDefEqProofs only [b1, A1.all, e2, e3, A3.l0, e4, Bz, e5, A5.l33, eh, CL, e6, A6.l34, e7, A7.l35, e8, e9, A9.l37, e10, A10.l38, e11, e12, ext0, ext1, l36, aj, ak, aB, DH, DP, aV]
  ·rw [s12];unfold kr bit;rw [hh];simp only [ER,List.nil_append,DG,EF]
 |true=>
  obtain ⟨b,off,s,k,rfl,hk,hix⟩:=idx_bytes (c:=c) (i:=50) s12 (by decide);have hbn:h11.next<=b:=f12 _ rfl;obtain ⟨h13,e13,s13,k13,n13⟩:=yk (i:=50) (v:=1) (by rw [o212.n0];have:=h2.n0_le_next;have:=D7 o3.next K11.next;omega) hk s12 (by decide) (by decide);refine ⟨some ⟨b,off,s⟩,c,h13,aL is43 hG rfl ((t43_eq _ _ _).trans ?_),?_,aE.bK (O2.trans o212) k13 (D7 hle hbn),fun y hy=>by cases hy;exact D7 hle hbn,gd12⟩
  ·have l36:ld1 (ptr h.next 36) h12=some (.bool true,h12):=by rw [A12.l36,hh]
   have e13:eY 1 (ptr b (off+50)) (.int .u8 1) h12=some (undef,h13):=e13;unfold t43;simp -implicitDefEqProofs only [b1, A1.all, e2, e3, A3.l0, e4, Bz, e5, A5.l33, eh, CL, e6, A6.l34, e7, A7.l35, e8, e9, A9.l37, e10, A10.l38, e11, e12, ext0, ext1, l36, hl53, hs3, hix, e13, aj, ak, aB, DH, DP, aV]
  ·rw [s13];unfold kr bit;rw [hh];simp only [ER,List.nil_append,EA]
   congr 1
   rw [show gz 1 r.kind++(r.obj++(gz 1 (i8 r.aU)++(gz 8 r.ja++(gz 8 r.qP++(gz 1 0++(gz 1 (i8 r.k)++gz 1 (i8 r.n)))))))=(gz 1 r.kind++(r.obj++(gz 1 (i8 r.aU)++(gz 8 r.ja++gz 8 r.qP))))++(gz 1 0++(gz 1 (i8 r.k)++gz 1 (i8 r.n))) by simp only [ER],
    set_nat (B':=gz 1 1++(gz 1 (i8 r.k)++gz 1 (i8 r.n))) 0 (by simp only [DE, bR, w.obj.1]) rfl]
   simp only [ER]
section
section
variable {x:av} (ho:x.obj.length=32)
include ho
end
theorem av.z_wf:av.z.Wf:=⟨by decide,vG,vY,by decide,by decide,vY,vY⟩
end
def u8v (n:Nat):Value := .int .u8 (n:Int)
theorem wP : ∀ {l:List Nat},(l.map u8v).mapM asByte=some (l.map UInt8.ofNat)
 | []=>rfl
 |n::l=>by have ih:=wP (l:=l);rw [FR,HT,ih];rfl
end Go.Proofs.YtdnahgfgoajmcaaGreatDoor
namespace Go.Proofs.YtdnahgfgoajmcaaGreatDoor
open Go Go.Abs Tryz
section
end
end Go.Proofs.YtdnahgfgoajmcaaGreatDoor
namespace Go.Proofs.YtdnahgfgoajmcaaGreatDoor
open Go Go.Abs Tryz
attribute [local congr] aw
theorem yl {r:av} (w:r.Wf):(kr r).length=53:=by unfold kr;simp only [DE,bR,w.obj.1]
end Go.Proofs.YtdnahgfgoajmcaaGreatDoor
namespace Go.Proofs.YtdnahgfgoajmcaaGreatDoor
open Go Go.Abs Tryz
theorem bit_lt (b:Bool):bit b<2:=by cases b<;>decide
end Go.Proofs.YtdnahgfgoajmcaaGreatDoor
namespace Go.Proofs.YtdnahgfgoajmcaaGreatDoor
open Go Go.Abs Tryz
attribute [local congr] aw
end Go.Proofs.YtdnahgfgoajmcaaGreatDoor
namespace Go.Proofs.YtdnahgfgoajmcaaGreatDoor
open Go Go.Abs Tryz
def yE (ks:List Kd) (n:Nat) (cs:List Value):Prop:=cs.length=n*ks.length /\ ∀ i,i<n->df ks ((cs.drop (i*ks.length)).take ks.length)
def SlN (h:ai) (ks:List Kd) (v:Value) (n:Nat) (cs:List Value):Prop:=
 ∃ a c,v = .slice a n c/\(a=none->n=0)/\yE ks n cs/\(0<n -> ∃ b off s k,a=some ⟨b,off,s⟩/\h.get b=some k/\off+n*ks.length<=k.length/\(k.drop off).take (n*ks.length)=cs)
def slB:Value->Option Nat
 | .slice (some a) (_+1) _=>some a.block
 |_=>none
theorem Cx {i n z:Nat} (hi:i<n):i*z+z<=n*z:=by have:=GC z (show i+1<=n by omega);rw [HM,JT] at this;exact this
end Go.Proofs.YtdnahgfgoajmcaaGreatDoor
