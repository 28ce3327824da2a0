/-
  A part of the proof, shortened by a program.
  Conditions: as each theorem states.
-/
import Derived.Test.YtdhpgacmgebjdaaGreatDoorG19
set_option linter.all false
namespace Go.Proofs.YtdhpgacmgebjdaaGreatDoor.W
open Go Go.Abs Tryz R
noncomputable section
section
attribute [local congr] aC
structure RT (h:ae):Prop where
 n0:3<=h.n0
 tab:h.get 1=some cH
def RT.kept {h g:ae} (x:RT h) {B:Nat->Prop} (k:aw h g B) (hB : ∀ b,B b->h.n0<=b):RT g:=
 ⟨by rw [k.n0];exact x.n0,k.getE x.tab (fun q=>by have:=hB _ q;have:=x.n0;omega)⟩
def RT.old {h g:ae} (x:RT h) (k:aM h g):RT g:=x.kept k (fun _ q=>q.elim)
structure BS (h:ae) (v:Vl) (l:List Nat):Prop where
 ex : ∃ a c,v = .slice a l.length c/\aq a l.length h=some l/\(0<l.length->ct a l.length c=true)
def BS.old {h g:ae} {v:Vl} {l:List Nat} (x:BS h v l) (o:aM h g):BS g v l:=by obtain ⟨a,c,e,s,q⟩:=x.ex;exact ⟨a,c,e,aM.bytes o s,q⟩
def BS.len {h:ae} {v:Vl} {l:List Nat} (x:BS h v l):cI v=some (ak l.length):=by obtain ⟨a,c,rfl,_⟩:=x.ex;rfl
def BS.cell {h:ae} {v:Vl} {l:List Nat} (x:BS h v l):cw v=false/\v.oneCell'=true/\v.cells = #[v]/\nat8 v=none:=by obtain ⟨a,c,rfl,_⟩:=x.ex;exact ⟨rfl,rfl,rfl,rfl⟩
def BS.veq {h:ae} {v:Vl} {l:List Nat} (x:BS h v l):Abs.veq v v=true:=by obtain ⟨a,c,rfl,_⟩:=x.ex;simp [Abs.veq]
def BS.of {h:ae} {a:Option Addr} {n c:Nat} {l:List Nat} (s:aq a n h=some l) (g:0<n->ct a n c=true):BS h (.slice a n c) l:=by have:=(ay s).1;subst this;exact ⟨a,c,rfl,s,g⟩
def BS.nil (h:ae):BS h (.slice none 0 0) []:=⟨none,0,rfl,rfl,fun h=>absurd h (GH 0)⟩
def HD0_ok:HD0.Ok:=⟨rfl,rfl,fun x hx=>by have:=EZ (show x∈List.replicate 64 0 from hx);omega⟩
def hwrite {h:ae} (T:RT h) {p:Nat} {s:HD} (o:s.Ok) (hp:h.get p=some s.cells) (hp0:h.n0<=p) {v:Vl} {l:List Nat} (x:BS h v l) (hx : ∀ a n c y,v = .slice (some y) n c->a=y.block->0<n->a≠p) (hfit:s.n+l.length<=1000000) :
  ∃ h',CD 130 [ptr p 0,v] h=some (.tuple #[],h')/\aw h h' (· = p)/\h'.get p=some (s.wr l).cells/\(s.wr l).Ok/\(s.wr l).n=s.n+l.length:=by
 obtain ⟨a,c,rfl,e,g⟩:=x.ex;exact r130 T.n0 T.tab o hp hp0 e g (fun y hy hn=>by subst hy;exact hx _ _ _ _ rfl rfl hn) hfit
def BS.lt {h:ae} {v:Vl} {l:List Nat} (x:BS h v l) : ∀ a n c y,v = .slice (some y) n c->a=y.block->0<n->a<h.next:=by rintro a n c y rfl rfl hn;obtain ⟨a',c',e,s,_⟩:=x.ex;cases e;obtain ⟨b,o,q,e,hb⟩:=du s hn;cases e;exact hb
def sha (l:List Nat):List Nat:=(HD0.wr l).sum
def sha_ok (l:List Nat):eE (sha l):=vU _
def is67:bJ prog 67 f67 := .of (by kernel_rfl)
def res67:f67.results.toList = [.cell 2 32]:=by kernel_rfl
def ye:cL prog 32=some 32:=by kernel_rfl
def r67 {h:ae} (T:RT h) {v:Vl} {l:List Nat} (x:BS h v l) (hl:l.length<=50000) : ∃ g,CD 67 [v] h=some (.agg (bA (sha l)).toArray,g)/\aM h g:=by
 obtain ⟨h1,z1,o1,g1,n1⟩:=fresh (List.replicate 32 (.int .u8 0)) h;obtain ⟨h2,e2,o2,g2,n2⟩:=r129 (h:=h1) (T.old o1).n0;have O2:=o1.trans o2;have p2:h2.n0<=h1.next:=by rw [o2.n0];exact h1.n0_le_next
 obtain ⟨h3,e3,k3,g3,ok3,n3⟩:=hwrite (T.old O2) HD0_ok g2 p2 (x.old O2) (fun a n c y e1 e2 hn=>by have:=x.lt a n c y e1 e2 hn;omega) (by show 0+_<=_;omega);have O3:aM h h3:=aM.bu O2 k3 (by omega);obtain ⟨h4,e4,o4⟩:=r131 (T.old O3).n0 (T.old O3).tab ok3 g3 (by rw [n3];show 0+_<=_;omega);have q4:=aM.get o4 (aw.getE k3 (aM.get o2 g1) (by omega));have so:=sha_ok l;obtain ⟨h5,t5,k5,g5,_,_⟩:=aR (n:=32) (k':=bA (sha l)) q4 (by rw [o4.n0,O3.n0];exact h.n0_le_next) rfl (bf so) (bh _).2;refine ⟨h5,aJ is67 rfl ((t67_eq _ _ _).trans ?_),aM.bu (O3.trans o4) k5 (DO _)⟩;unfold t67;have t5:bX 32 (ptr h.next 0) (.agg (bA (HD0.wr l).sum).toArray) h4=_:=t5;simp -implicitDefEqProofs only [z1,e2,e3,e4,t5,af];exact tB (v := .agg (bA (sha l)).toArray) res67 yQ ye (by decide) _ (aV g5 (bf so) (bh _).1)
def is66:bJ prog 66 f66 := .of (by kernel_rfl)
def b66_exit (C:ah) (e:aQ) (h:ae):b66_14 C 0 e h=k66_12 C e h:=rfl
def gZ (a b:Vl):extractA (.tuple #[a,b]) 0=some a:=rfl
def iC (a b:Vl):extractA (.tuple #[a,b]) 1=some b:=rfl
def fI (a:Int):aE prog .neq 25 (.int .i64 a) (.int .i64 0)=some (.bool (a != 0)):=cS ..
def vP.of_old {h g k:ae} {N:Nat} (o:aM h g) (a:vP N g k) (hN:h.next<=N):aM h k:=o.also a (fun d hd q=>by omega)
set_option maxRecDepth 100000 in
def r66 {h:ae} {m:ej} {v:Vl} (x:ki h m v) : ∃ w g,CD 66 [mv m v] h=some (.tuple #[w,.int .i64 (if ij m then 2 else 0)],g)/\aM h g/\BS g w (if ij m then [] else nH m):=by
 obtain ⟨h1,b1,o1,g1,A,x1,n1⟩:=x.box;obtain ⟨h2,e2,o2⟩:=r68 x1;have O2:=o1.trans o2;cases v0:ij m with
 |true=>
  rw [v0] at e2;refine ⟨.slice none 0 0,h2,aJ is66 rfl ((t66_eq _ _ _).trans ?_),O2,BS.nil _⟩;unfold t66;simp -implicitDefEqProofs only [b1,A.all,e2,D8,fI,show ((2:Int) != 0)=true from rfl,af,aj]
 |false=>
  rw [v0] at e2;obtain ⟨v1,v2,v3,v4,v5,v6,v7⟩:=tX v0;have x2:=x1.old o2;have A2:=x2.ld (aM.get o2 g1);have hmul:aE prog .mul 3 (.int .i64 32) (.int .i64 m.gt)=some (.int .i64 (32*m.gt)):=by rw [j8,wrap_i64 (by omega) (by omega)]
  have hadd:aE prog .add 3 (.int .i64 39) (.int .i64 (32*m.gt))=some (ak (39+m.cx.length*32)):=by rw [dI,wrap_i64 (by omega) (by omega)];exact E2 (fun z=>some (Value.int .i64 z)) (by omega)
  obtain ⟨h3,e3,W3,k3⟩:=r116 h2 (lim:=39+m.cx.length*32) (by omega);have hb:h.next<h2.next:=by have:=o2.next;omega
  have gb : ∀ {g:ae},vP h2.next h2 g->g.get h.next=some (dL m v)/\ki g m v:=fun k=>⟨k.getE (aM.get o2 g1) (by omega),x2.sl.keep k (fun b q=>by have:=x2.sl.lt q;omega),x2.wf⟩
  have ob:=x.wf.obj;have LL : ∀ (l:List Nat) (n:Nat),l.length<=38->n<=1->l.length+n<=39+m.cx.length*32:=fun _ _ _ _=>by omega
  obtain ⟨h4,e4,W4,k4⟩:=r118 W3 (v:=19713) (by simp only [List.length_nil];omega) (by decide);have K4:=k3.trans k4;have A4:=(gb K4).2.ld (gb K4).1;obtain ⟨h5,e5,W5,k5⟩:=r117 W4 (v:=i8 m.gk) (by simp only [DW,bY,List.length_nil];omega) (i8_lt _);have K5:=K4.trans k5;have A5:=(gb K5).2.ld (gb K5).1;obtain ⟨h6,e6,W6,k6⟩:=r117 W5 (v:=i8 m.gn) (by simp only [DW,bY,List.length_nil];omega) (i8_lt _);have K6:=K5.trans k6;have A6:=(gb K6).2.ld (gb K6).1;obtain ⟨h7,e7,W7,k7⟩:=r117 W6 (v:=i8 m.gt) (by simp only [DW,bY,List.length_nil];omega) (i8_lt _);have K7:=K6.trans k7;have A7:=(gb K7).2.ld (gb K7).1;obtain ⟨h8,e8,W8,k8⟩:=r118 W7 (v:=i16 m.gs) (by simp only [DW,bY,List.length_nil];omega) (i16_lt _);have K8:=K7.trans k8;obtain ⟨h9,e9,W9,k9⟩:=r120 W8 (n:=m.obj.length) (c:=32) (fN (off:=4) (s:=none) (gb K8).1 (A := [.int .i64 m.gk,.int .i64 m.gn,.int .i64 m.gt,.int .i64 m.gs]) rfl rfl ob.2) (by simp only [DW,bY,List.length_nil,ob.1];omega);have K9:=K8.trans k9;have A9:=(gb K9).2.ld (gb K9).1;rw [ob.1] at e9;have hL:(((((([]++iZ 2 19713)++iZ 1 (i8 m.gk))++iZ 1 (i8 m.gn))++iZ 1 (i8 m.gt))++iZ 2 (i16 m.gs))++m.obj).length=39:=by simp only [DW,bY,List.length_nil,ob.1]
  have e4:CD 118 [ptr h2.next 0,.int .u16 19713] h3=some (.tuple #[],h4):=e4;have key : ∃ w g,t66 CD (mv m v) h=some (.tuple #[w,.int .i64 0],g)/\aM h g/\BS g w (nH m):=by
   unfold t66;simp -implicitDefEqProofs only [b1,A.all,e2,D3,DJ,fI,EW,A2.l2,hmul,hadd,e3,e4,A4.l0,wrap_i8,wrap_i16,bV,e5,A5.l1,e6,A6.l2,e7,A7.l3,e8,tK,e9,A9.l36,x.len,af,aj,ax,DK];refine cp (Q:=fun o:ba => ∃ w g,o=some (Value.tuple #[w,.int .i64 0],g)/\aM h g/\BS g w (nH m)) (cj (nE CD) (mnRound (h0:=h2) (N:=h2.next) (w:=h2.next) (lim:=39+m.cx.length*32) x2.sl (fun b q=>x2.sl.lt q) x.wf.cx (by omega) (by rw [hL];exact DO _)) m.cx.length (by have:aK=18446744073709551616:=rfl;omega)
    ⟨0,DK _,rfl,rfl,rfl,rfl,K9,by simpa using W9⟩) ?_
   rintro ex z g ⟨rfl,z5,K,W'⟩;rw [bK,b66_exit,Di];unfold um;have hE:(((((([]++iZ 2 19713)++iZ 1 (i8 m.gk))++iZ 1 (i8 m.gn))++iZ 1 (i8 m.gt))++iZ 2 (i16 m.gs))++m.obj)++m.cx.flatMap id=nH m:=by unfold nH;simp only [FD,List.nil_append]
   rw [hE] at W';obtain ⟨a,c,h',e,sb,gs,o,f⟩:=r121 W' (by rw [xo x.wf];omega);exact ⟨_,h',by simp -implicitDefEqProofs only [z5,e,gZ,iC,af,aj],(vP.of_old O2 K (by omega)).trans o,.of sb (fun _=>gs)⟩
  obtain ⟨w,g,e,o,b⟩:=key;exact ⟨w,g,aJ is66 rfl ((t66_eq _ _ _).trans e),o,b⟩
end
section
attribute [local congr] aC
def uA (m:ej):List Nat:=if ij m then z32 else sha (nH m)
def z32_d:eE z32:=⟨rfl,fun x hx=>by have:=EZ hx;omega⟩
def Cc (m:ej):eE (uA m):=by unfold uA;split;exact z32_d;exact sha_ok _
def is24:bJ prog 24 f24 := .of (by kernel_rfl)
def res24:f24.results.toList = [.cell 2 32,.tmp 3]:=by kernel_rfl
def bld32:dG (List.replicate 32 (.int .u8 0)) []=some (.agg (bA z32).toArray):=by kernel_rfl
def r24 {h:ae} (T:RT h) {m:ej} {v:Vl} (x:ki h m v) : ∃ g,CD 24 [mv m v] h=some (.tuple #[.agg (bA (uA m)).toArray,.int .i64 (if ij m then 2 else 0)],g)/\aM h g:=by
 obtain ⟨h1,b1,o1,g1,A,x1,n1⟩:=x.box;obtain ⟨h2,z2,o2,g2,n2⟩:=fresh (List.replicate 32 (.int .u8 0)) h1;obtain ⟨w,h3,e3,o3,bw⟩:=r66 (x1.old o2);have A2:=(x1.old o2).ld (aM.get o2 g1);have O3:=(o1.trans o2).trans o3;have io:=Cc m;have nn : ∀ {g:ae},aM h3 g->g.n0<=h1.next:=fun o=>by rw [o.n0,O3.n0,n1];have:=h.n0_le_next;omega
 cases vb:ij m with
 |true=>
  rw [vb] at e3;obtain ⟨h5,t5,k5,g5,_,_⟩:=aR (n:=32) (k':=bA (uA m)) (aM.get o3 g2) (nn (aw.refl _ _)) rfl (bf io) (bh _).2;have hi:uA m=z32:=by unfold uA;rw [vb];rfl
  refine ⟨h5,aJ is24 rfl ((t24_eq _ _ _).trans ?_),aM.bu O3 k5 (by omega)⟩;unfold t24;rw [hi] at t5 g5 |-;simp -implicitDefEqProofs only [b1,z2,A2.all,e3,gZ,iC,D8,fI,show ((2:Int) != 0)=true from rfl,bld32,t5,af,aj];exact ew res24 yQ ye (by decide) (by decide) _ (aV g5 rfl (bh _).1)
 |false=>
  rw [vb] at e3 bw;obtain ⟨h4,e4,o4⟩:=r67 (T.old O3) bw (by rw [DU (by simp),xo x.wf];have:=(tX vb);omega);have hi:sha (nH m)=uA m:=by unfold uA;rw [vb];rfl
  rw [DU (by simp),hi] at e4;obtain ⟨h5,t5,k5,g5,_,_⟩:=aR (n:=32) (k':=bA (uA m)) (aM.get o4 (aM.get o3 g2)) (nn o4) rfl (bf io) (bh _).2;refine ⟨h5,aJ is24 rfl ((t24_eq _ _ _).trans ?_),aM.bu (O3.trans o4) k5 (by omega)⟩;unfold t24;simp -implicitDefEqProofs only [b1,z2,A2.all,e3,gZ,iC,D3,DJ,fI,EW,e4,t5,af,aj];exact ew res24 yQ ye (by decide) (by decide) _ (aV g5 (bf io) (bh _).1)
def kW (ix:Nat) (d:List Nat):List Nat:=((HD0.wr [ix/256%256,ix%256]).wr d).sum
def is70:bJ prog 70 f70 := .of (by kernel_rfl)
def res70:f70.results.toList = [.cell 4 32]:=by kernel_rfl
def bsl2 (h:ae) (x y:Nat):fE 1 (.int .u8 0) 2 [(0,u8 x),(1,u8 y)] h=some (.slice (some ⟨h.next,0,none⟩) 2 2,h.alloc (bA [x,y])):=rfl
def r70 {h:ae} (T:RT h) {ix:Nat} (hix:ix<9223372036854775808) {v:Vl} {l:List Nat} (x:BS h v l) (hl:l.length<=50000) : ∃ g,CD 70 [ak ix,v] h=some (.agg (bA (kW ix l)).toArray,g)/\aM h g:=by
 obtain ⟨h1,z1,o1,g1,n1⟩:=fresh (List.replicate 32 (.int .u8 0)) h;obtain ⟨h2,e2,o2,g2,n2⟩:=r129 (h:=h1) (T.old o1).n0;have O2:=o1.trans o2;have b3:=bsl2 h2 (ix/256%256) (ix%256);have o3:aM h2 (h2.alloc (bA [ix/256%256,ix%256])):=aw.alloc _ _ _;have hb:Bys [ix/256%256,ix%256]:=by intro q hq;simp only [EN,EU,GF] at hq;rcases hq with rfl|rfl<;>omega
 have s3:aq (some ⟨h2.next,0,none⟩) 2 (h2.alloc (bA [ix/256%256,ix%256]))=some [ix/256%256,ix%256]:=by have:=fN (h:=h2.alloc (bA [ix/256%256,ix%256])) (b:=h2.next) (off:=0) (s:=none) (A := []) (C := []) (l := [ix/256%256,ix%256]) (by rw [ae.aX,DR rfl]) (by simp) rfl hb;exact this
 have B3:BS (h2.alloc (bA [ix/256%256,ix%256])) (.slice (some ⟨h2.next,0,none⟩) 2 2) [ix/256%256,ix%256]:=⟨_,_,rfl,s3,fun _=>rfl⟩
 have m3:(h2.alloc (bA [ix/256%256,ix%256])).next=h2.next+1:=rfl;generalize h2.alloc (bA [ix/256%256,ix%256])=h3 at *;have O3:=O2.trans o3;have p1 : ∀ {g:ae},aM h g->g.n0<=h1.next:=fun o=>by rw [o.n0];have:=h.n0_le_next;omega
 obtain ⟨h4,e4,k4,g4,ok4,n4⟩:=hwrite (T.old O3) HD0_ok (aM.get o3 g2) (p1 O3) B3 (fun a n c y e1 e2 hn=>by cases e1;have e2:a=h2.next:=e2;omega) (by show 0+2<=_;omega);have O4:aM h h4:=aM.bu O3 k4 (by omega);obtain ⟨h5,e5,k5,g5,ok5,n5⟩:=hwrite (T.old O4) ok4 g4 (p1 O4) (x.old O4) (fun a n c y e1 e2 hn=>by have:=x.lt a n c y e1 e2 hn;omega) (by rw [n4];show 0+2+_<=_;omega);have O5:aM h h5:=aM.bu O4 k5 (by omega);obtain ⟨h6,e6,o6⟩:=r131 (T.old O5).n0 (T.old O5).tab ok5 g5 (by rw [n5,n4];show 0+2+_<=_;omega);have q6:=aM.get o6 (aw.getE k5 (aw.getE k4 (aM.get o3 (aM.get o2 g1)) (by omega)) (by omega));have so:eE (kW ix l):=vU _;obtain ⟨h7,t7,k7,g7,_,_⟩:=aR (n:=32) (k':=bA (kW ix l)) q6 (by rw [o6.n0,O5.n0];exact h.n0_le_next) rfl (bf so) (bh _).2;refine ⟨h7,aJ is70 rfl ((t70_eq _ _ _ _).trans ?_),aM.bu (O5.trans o6) k7 (DO _)⟩;unfold t70;have sh:aE prog .shr 3 (ak ix) (.int .u64 8)=some (ak (ix/256)):=dx prog 3 (k := .i64) (k' := .u64) (a:=ix) (b:=8) (by decide);have cv : ∀ (z:Nat) (g:ae),iD .u8 (ak z) g=some (u8 (z%256),g):=by intro z g;rw [show ak z=Value.int .i64 (z:Int) from rfl,bV,fU,show u8 (z%256)=Value.int .u8 ((z%256:Nat):Int) from rfl];exact E2 (fun q=>some (Value.int .u8 q,g)) (by omega)
 have t7:bX 32 (ptr h.next 0) (.agg (bA ((HD0.wr [ix/256%256,ix%256]).wr l).sum).toArray) h6=_:=t7;simp -implicitDefEqProofs only [z1,e2,sh,cv,b3,e4,e5,e6,t7,af,aj];exact tB (v := .agg (bA (kW ix l)).toArray) res70 yQ ye (by decide) _ (aV g7 (bf so) (bh _).1)
def xn (k s:Int):Int:=if k<1\/255<k\/s<0\/8192<s then 0 else (s+k-1).tdiv k
def r69 (k s:Int) (h:ae) : ∃ e,CD 69 [.int .i64 k,.int .i64 s] h=some (.tuple #[.int .i64 (xn k s),.int .i64 e],h):=by refine ⟨if k<1\/255<k\/s<0\/8192<s then 2 else 0,aJ is69 rfl ((t69_eq _ _ _ _).trans ?_)⟩;unfold t69 xn;by_cases c0:k<1<;>by_cases c1:255<k<;>by_cases c2:s<0<;>by_cases c3:8192<s<;>simp -implicitDefEqProofs only [c0,c1,c2,c3,GO,FN,gt_iff_lt,af,aj,btt,btf,bft,bff,az,aG,DJ,D3,D8,bU,dN,or_true,true_or,GF,false_or,or_self];rw [dI,wrap_i64 (x:=s+k) (by omega) (by omega)];simp -implicitDefEqProofs only [aj,af];rw [gu,wrap_i64 (x:=s+k-1) (by omega) (by omega)];simp -implicitDefEqProofs only [aj,af];rw [sP _ _ _ _ _ (by omega),wrap_i64 (by have:=Int.tdiv_nonneg (a:=s+k-1) (b:=k) (by omega) (by omega);omega) (by have:=Int.tdiv_le_self (a:=s+k-1) k (by omega);omega)];simp -implicitDefEqProofs only [aj,af]
end
section
attribute [local congr] aC
def size1:cL prog 5=some 1:=by kernel_rfl
def kK {xs:List Vl} (h:bD xs=true):ground (.agg xs.toArray)=true:=by show bD xs.toArray.toList=true;exact h
def dig_get {xs:List Vl} (h:jS fK xs) {i:Nat} (hi:i<32) : ∃ n:Nat,xs[i]? = some (.int .u8 n)/\n<256:=by obtain ⟨v,h1,n,rfl,h2⟩:=h.2 i .u8 (by unfold fK;rw [HU,DR hi]);exact ⟨n,h1,h2⟩
def dig_run {d:Nat} {xs ys:List Vl} (hx:jS fK xs) (hy:jS fK ys) : ∃ r:Bool,(r=true↔xs=ys)/\cR prog (Op.equalIn (d+2) 32 (.agg xs.toArray) (.agg ys.toArray))=some r:=by
 obtain ⟨r,h1,h2⟩:=pr_eq_arr (P:=prog) (d:=d) (m:=32) (t:=32) (e:=5) (k := .u8) (j := .u8) (xs:=xs.toArray) (ys:=ys.toArray) Tryz.underlying32 size1 Tryz.underlying5 (fun i hi=>by obtain ⟨a,ha,_⟩:=dig_get hx hi;obtain ⟨b,hb,_⟩:=dig_get hy hi;exact ⟨a,b,by simpa using ha,by simpa using hb⟩)
 refine ⟨r,h1.trans ⟨fun hh => ?_,fun hh i hi=>by rw [hh]⟩,h2⟩;have lx:xs.length=32:=hx.1;have ly:ys.length=32:=hy.1;refine FA fun i => ?_;by_cases hi:i<32
 ·simpa using hh i hi
 ·rw [ER (by omega),ER (by omega)]
def eqD32 {a b:List Nat} (wa:eE a) (wb:eE b):aE prog .eql 32 (.agg (bA a).toArray) (.agg (bA b).toArray)=some (.bool (decide (a=b)))/\aE prog .neq 32 (.agg (bA a).toArray) (.agg (bA b).toArray)=some (.bool (!decide (a=b))):=by
 obtain ⟨r,hr,hrun⟩:=dig_run (d:=9998) (bO wa) (bO wb);have hr':r=decide (a=b):=by
  by_cases e:a=b
  ·rw [DS e,hr.2 (by rw [e])]
  ·rw [DP e];cases r with
   |false=>rfl
   |true=>exact absurd (uj (hr.1 rfl)) e
 rw [<-hr'];exact bin_agg (by kernel_rfl) (kK (bO wa).all.2.2) (kK (bO wb).all.2.2) hrun
def Dt (m:ej) (ix:Int) (d:List Nat):Int:=
 if ij m then 2 else if ix<0\/m.gt<=ix then 2 else if (d.length:Int)≠xn m.gk m.gs then 10 else if kW ix.toNat d=m.cx.getD ix.toNat [] then 0 else 20
abbrev pv (ix:Int) (dv:Vl):Vl := .agg #[.int .i64 ix,dv]
def pbox {h:ae} (ix:Int) {dv:Vl} {d:List Nat} (x:BS h dv d) : ∃ g,box (pv ix dv) h=some (ptr h.next 0,g)/\aM h g/\g.get h.next=some [.int .i64 ix,dv]/\g.next=h.next+1:=by
 have e:aN [.int .i64 ix,dv]=true:=by simp [aN,x.cell.2.1,show (Value.int .i64 ix).oneCell'=true from rfl]
 exact ⟨_,iL h [.int .i64 ix,dv] e,aw.alloc _ _ _,by rw [ae.aX,DR rfl],rfl⟩
def is25:bJ prog 25 f25 := .of (by kernel_rfl)
set_option maxRecDepth 100000 in
def r25 {h:ae} (T:RT h) {m:ej} {v:Vl} (x:ki h m v) {ix:Int} (hix:ix<9223372036854775808) {dv:Vl} {d:List Nat} (b:BS h dv d) (hd:d.length<=50000) :
  ∃ g,CD 25 [mv m v,pv ix dv] h=some (.int .i64 (Dt m ix d),g)/\aM h g:=by
 obtain ⟨h1,b1,o1,g1,A,x1,n1⟩:=x.box;obtain ⟨h2,b2,o2,g2,n2⟩:=pbox ix (b.old o1);obtain ⟨h3,e3,o3⟩:=r68 (x1.old o2);have O2:=o1.trans o2;have O3:=O2.trans o3;have A2:=(x1.old o2).ld (aM.get o2 g1);have x3:=x.old O3;have A3:=x3.ld (aM.get (o2.trans o3) g1);have q3:=aM.get o3 g2;have B3:=b.old O3;have p0:ld1 (ptr h1.next 0) h3=some (.int .i64 ix,h3):=aP q3 rfl;have p1:ld1 (ptr h1.next 1) h3=some (dv,h3):=aP q3 rfl B3.cell.1;unfold Dt;cases vb:ij m with
 |true=>
  rw [vb] at e3;refine ⟨h3,aJ is25 rfl ((xp _ _ _ _).trans ?_),O3⟩;unfold t25;simp -implicitDefEqProofs only [b1,b2,A2.all,e3,D8,fI,show ((2:Int) != 0)=true from rfl,af,aj]
 |false=>
 rw [vb] at e3;obtain ⟨v1,v2,v3,v4,v5,v6,v7⟩:=tX vb;by_cases c0:ix<0
 ·refine ⟨h3,aJ is25 rfl ((xp _ _ _ _).trans ?_),O3⟩;unfold t25;simp -implicitDefEqProofs only [b1,b2,A2.all,e3,D3,DJ,fI,EW,ax,DK,p0,bU,c0,GO,btf,aG,D8,true_or,af,aj]
 by_cases c1:m.gt<=ix
 ·refine ⟨h3,aJ is25 rfl ((xp _ _ _ _).trans ?_),O3⟩;unfold t25;simp -implicitDefEqProofs only [b1,b2,A2.all,e3,D3,DJ,fI,EW,ax,DK,p0,A3.l2,bU,dA,ge_iff_le,c0,c1,GO,FN,bff,az,D8,or_true,af,aj]
 obtain ⟨e',e69⟩:=r69 m.gk m.gs h3;have eL:aE prog .neq 3 (ak d.length) (.int .i64 (xn m.gk m.gs))=some (.bool ((d.length:Int) != xn m.gk m.gs)):=cS ..;by_cases c2:(d.length:Int)=xn m.gk m.gs
 ·obtain ⟨n,rfl⟩ : ∃ n:Nat,ix=n:=⟨ix.toNat,by omega⟩
  rw [show (Value.int .i64 (n:Int))=ak n from rfl] at p0;obtain ⟨h4,e4,o4⟩:=r70 (T.old O3) (ix:=n) (by omega) B3 hd;have hn:n<m.cx.length:=by omega
  obtain ⟨w,hw⟩ : ∃ w,m.cx[n]? = some w:=⟨_,DL hn⟩
  have ww:=x.wf.cx w (EC hw);have x4:=x3.old o4;have A4:=x4.ld (aM.get o4 (aM.get (o2.trans o3) g1));have q4:=aM.get o4 q3;have P0:ld1 (ptr h1.next 0) h4=some (ak n,h4):=aP q4 rfl;obtain ⟨bb,q,kb,hb,a1,gk,gl,gd,a2,_⟩:=x3.sl.at hn;have a1:idxS 32 v (ak n)=some (ptr bb (q+n*32)):=a1;have a2:bZ 32 (ptr bb (q+n*32)) h3=some (.agg (el 32 (m.cx.flatMap bA) n).toArray,h3):=a2;rw [DD x.wf.cx hw] at a2;obtain ⟨bb',q',kb',hb',a1',_,_,_,a2',_⟩:=x4.sl.at hn;have a1':idxS 32 v (ak n)=some (ptr bb' (q'+n*32)):=a1';rw [a1] at a1';have a2':bZ 32 (ptr bb' (q'+n*32)) h4=some (.agg (el 32 (m.cx.flatMap bA) n).toArray,h4):=a2';rw [DD x.wf.cx hw,<-Option.some.inj a1'] at a2';have eD:=(eqD32 (a:=kW n d) (vU _) ww).2;have hp:m.cx.getD n []=w:=by rw [DV,hw];rfl
  have ck1:=eQ A3.l36 x3.sl.veq;have ck2:fP true (some (ak n,h3)) (ak n)=true:=eQ rfl (by simp [Abs.veq,ak]);have ck3:=eQ a2 (v := .agg (bA w).toArray) (by show Abs.veqL (bA w).toArray.toList (bA w).toArray.toList=true;exact (bO ww).veq);refine ⟨h4,aJ is25 rfl ((xp _ _ _ _).trans ?_),O3.trans o4⟩;unfold t25;rw [Int.toNat_natCast,hp];simp -implicitDefEqProofs only [b1,b2,A2.all,e3,D3,DJ,fI,EW,ax,DK,p0,A3.l2,A3.l0,A3.l3,bU,dA,ge_iff_le,c0,c1,FN,bff,az,or_self,e69,gZ,iC,p1,B3.len,eL,c2,e4,A4.l36,P0,a1,a2',eD,ck1,ck2,ck3,EY,af,aj,ne_eq,not_true_eq_false];by_cases c3:kW n d=w
  ·simp -implicitDefEqProofs only [c3,GO,EP,D8,af]
  ·simp -implicitDefEqProofs only [c3,FN,EJ,D3,af]
 ·refine ⟨h3,aJ is25 rfl ((xp _ _ _ _).trans ?_),O3⟩;have c2':((d.length:Int) != xn m.gk m.gs)=true:=by simpa using c2
  unfold t25;simp -implicitDefEqProofs only [b1,b2,A2.all,e3,D3,DJ,fI,EW,ax,DK,p0,A3.l2,A3.l0,A3.l3,bU,dA,ge_iff_le,c0,c1,FN,bff,az,or_self,e69,gZ,iC,p1,B3.len,eL,c2',c2,af,aj,ne_eq,not_false_eq_true,D8]
end
section
attribute [local congr] aC
abbrev zM:List Vl:=fy
abbrev zP:List Vl := [(.int .i64 0),(.slice none 0 0)]
def q175 {h:ae} {p r:Nat} {s:Rd} (Q:mC h p r s):CD 175 [ptr r 0] h=some (ak s.l.length,h):=by obtain ⟨a,n,c,h1,h2,_⟩:=Q.ex;have hn:=(ay h2).1;subst hn;have l0:ld1 (ptr r 0) h=some (.slice a s.l.length c,h):=aP h1 rfl;refine aJ is175 rfl ((t175_eq _ _ _).trans ?_);unfold t175;simp -implicitDefEqProofs only [R.eql134,av,ax,DK,l0,show cI (.slice a s.l.length c)=some (ak s.l.length) from rfl,af,aj]
def pK (l:List Nat):Nat×Rd:=Rd.eS ⟨l,0⟩ 1
def pI (l:List Nat):Nat×Rd:=(pK l).2.eS 2
def pT (l:List Nat):List Nat×Rd:=(pI l).2.text
def pD (l:List Nat):List Nat×Rd:=(pT l).2.take (pT l).2.l.length
def eh (l:List Nat):Option (ej×Nat×List Nat):=
 if (pK l).1=2/\(pD l).2.e=0/\(fW (pT l).1).2=0/\Dt (fW (pT l).1).1 (pI l).1 (pD l).1=0 then some ((fW (pT l).1).1,(pI l).1,(pD l).1) else none
def is113:bJ prog 113 f113 := .of (by kernel_rfl)
def res113:f113.results.toList = [.cell 2 35,.cell 3 37,.cell 4 32,.tmp 5]:=by kernel_rfl
def rj:sO prog 35=some true:=by kernel_rfl
def agg37:sO prog 37=some true:=by kernel_rfl
def siz35:cL prog 35=some 37:=by kernel_rfl
def siz37:cL prog 37=some 2:=by kernel_rfl
def bldM:dG zM []=some (.agg zM.toArray):=rfl
def bldP:dG zP []=some (.agg zP.toArray):=rfl
def results113 {n:Nat} (hn:5<n) (x:Nat->Vl) {h:ae} {a b c:Vl} (e2:bZ 37 (x 2) h=some (a,h)) (e3:bZ 2 (x 3) h=some (b,h)) (e4:bZ 32 (x 4) h=some (c,h)):resultsA prog f113.results.toList (aT n x) h=some (.tuple #[a,b,c,x 5],h):=by rw [res113];simp only [resultsA,FW,List.mapM_nil,dy,ep (show 2<n by omega),ep (show 3<n by omega),ep (show 4<n by omega),ep hn,nM rj siz35,nM agg37 siz37,nM yQ ye,e2,e3,e4];rfl
def RdPost (h:ae) (o:ba) (l:List Nat):Prop:=
 ∃ g,aM h g/\match eh l with
   |none=>o=some (.tuple #[.agg zM.toArray,.agg zP.toArray,.agg (bA z32).toArray,.bool false],g)
   |some (m,ix,d) => ∃ v dv,o=some (.tuple #[mv m v,pv ix dv,.agg (bA (uA m)).toArray,.bool true],g)/\ki g m v/\BS g dv d/\(∀ b,AV v=some b->h.next<=b)/\(∀ a n c,dv = .slice (some a) n c->h.next<=a.block)
def lL (s:Rd) (n:Nat):(s.take n).1.length<=s.l.length/\(s.take n).2.l.length<=s.l.length:=by
 unfold Rd.take;split
 ·split
  ·simp only [E0,FK];omega
  ·simp
 ·simp
def text_le (s:Rd):s.text.1.length<=s.l.length:=by
 unfold Rd.text Rd.eS;have a:=lL s 2;split
 ·split
  ·have b:=lL (s.take 2).2 (be (s.take 2).1);exact ED b.1 a.2
  ·simp
 ·simp
def three {h g:ae} {a b c:Nat} (o:aM h g) (ha:h.next<=a) (hb:h.next<=b) (hc:h.next<=c) (ab:a≠b) (ac:a≠c) (bc:b≠c) {k0 k1 k2:eW} {A B D:List Vl} (g0:g.get a=some k0) (g1:g.get b=some k1) (g2:g.get c=some k2)
  (l0:k0.length=37) (l1:k1.length=2) (l2:k2.length=32) (A0:A.length=37) (A1:aN A=true) (A2:Abs.noHoles A=true) (B0:B.length=2) (B1:aN B=true) (B2:Abs.noHoles B=true) (D0:D.length=32) (D1:aN D=true) (D2:Abs.noHoles D=true) :
  ∃ x y z,bX 37 (ptr a 0) (.agg A.toArray) g=some (undef,x)/\bX 2 (ptr b 0) (.agg B.toArray) x=some (undef,y)/\bX 32 (ptr c 0) (.agg D.toArray) y=some (undef,z)/\aM h z/\aw g z (fun q=>q=a\/q=b\/q=c) /\
    bZ 37 (ptr a 0) z=some (.agg A.toArray,z)/\bZ 2 (ptr b 0) z=some (.agg B.toArray,z)/\bZ 32 (ptr c 0) z=some (.agg D.toArray,z)/\x.get b=some k1/\x.get c=some k2/\y.get c=some k2:=by
 have n:=h.n0_le_next;have N : ∀ {g:ae},aM h g->g.n0=h.n0:=fun o=>o.n0;obtain ⟨x,tx,kx,gx,_,nx⟩:=aR (n:=37) (k':=A) g0 (by rw [N o];omega) l0 A0 A1;have ox:=aM.bu o kx ha;have xb:=aw.getE kx g1 (fun e=>ab e.symm);have xc:=aw.getE kx g2 (fun e=>ac e.symm);obtain ⟨y,ty,ky,gy,_,ny⟩:=aR (n:=2) (k':=B) xb (by rw [N ox];omega) l1 B0 B1;have oy:=aM.bu ox ky hb;have yc:=aw.getE ky xc (fun e=>bc e.symm);obtain ⟨z,tz,kz,gz,_,nz⟩:=aR (n:=32) (k':=D) yc (by rw [N oy];omega) l2 D0 D1;exact ⟨x,y,z,tx,ty,tz,aM.bu oy kz hc,((kx.mono (fun _ _ h => .inl h)).trans (ky.mono (fun _ _ h => .inr (.inl h)))).trans (kz.mono (fun _ _ h => .inr (.inr h))),aV (aw.getE kz (aw.getE ky gx ab) ac) A0 A2,aV (aw.getE kz gy bc) B0 B2,aV gz D0 D2,xb,xc,yc⟩
def cv16i (n:Nat) (h:ae) (hn:n<65536):iD .i64 (.int .u16 (n:Int)) h=some (ak n,h):=by rw [bV,wrap_i64 (by omega) (by omega)]
def wZ (a:Nat):aE prog .neq 155 (.int .u8 (a:Int)) (.int .u8 2)=some (.bool ((a:Int) != 2)):=cS ..
set_option maxRecDepth 100000 in
def r113 {h:ae} (T:RT h) {v:Vl} {l:List Nat} (x:BS h v l) (hl:l.length<=21000):RdPost h (CD 113 [v] h) l:=by
 obtain ⟨h1,z1,o1,g1,n1⟩:=fresh zM h;obtain ⟨h2,z2,o2,g2,n2⟩:=fresh zP h1;obtain ⟨h3,z3,o3,g3,n3⟩:=fresh (bA z32) h2;have O3:=(o1.trans o2).trans o3;obtain ⟨a,c,rfl,sb,_⟩:=(x.old O3).ex;obtain ⟨r,h4,e4,R4,o4,lr⟩:=R.r110 (c:=c) sb hl;obtain ⟨h5,e5,R5,k5,n5⟩:=q111 (s:=⟨l,0⟩) R4;obtain ⟨h6,e6,R6,k6,n6⟩:=q168 (s:=(pK l).2) R5;have hz:=h.n0_le_next;have O4:=O3.trans o4;have N0 : ∀ {g:ae},aM h g->g.n0=h.n0:=fun o=>o.n0;have O5:aM h h5:=aM.bu O4 k5 (by omega);have O6:aM h h6:=aM.bu O5 k6 (by omega);have hr : ∀ {q:Nat},q<h3.next -> ¬q=r:=fun hq e=>by omega
 have P2:h6.get h1.next=some zP:=aw.getE k6 (aw.getE k5 (aM.get o4 (aM.get o3 g2)) (hr (by omega))) (hr (by omega));obtain ⟨h7,t7,k7,g7,_,n7⟩:=stored (v := .int .i64 (pI l).1) (o:=0) P2 (by rw [N0 O6];omega) (by decide) rfl rfl;have R7:mC h7 h3.next r (pI l).2:=R.IsR.keepB R6 k7 (fun b hb e=>by omega);have O7:aM h h7:=aM.bu O6 k7 (by omega);obtain ⟨a8,c8,h8,e8,s8,gs8,R8,k8,f8⟩:=q174 R7;have O8:aM h h8:=aM.bu O7 k8 (by omega);have l8:(pI l).2.text.1.length<=21000:=by have:=text_le (pI l).2;have:=R7.len;omega
 obtain ⟨v9,h9,e9,o9,w9,S9,f9⟩:=q173 (c:=c8) s8 l8;have O9:=O8.trans o9;have P1:h9.get h.next=some zM:=aM.get o9 (aw.getE k8 (aw.getE k7 (aw.getE k6 (aw.getE k5 (aM.get o4 (aM.get o3 (aM.get o2 g1))) (hr (by omega))) (hr (by omega))) (by omega)) (hr (by omega)));have X9:ki h9 (fW (pT l).1).1 v9:=⟨S9,w9⟩
 obtain ⟨h10,t10,k10,g10,_,n10⟩:=aR (n:=37) (k':=dL (fW (pT l).1).1 v9) P1 (by rw [N0 O9];omega) rfl X9.ok.1 X9.ok.2.2;have R10:mC h10 h3.next r (pT l).2:=R.IsR.keepB (R.IsR.keep (B:=fun _=>False) R8 o9) k10 (fun b hb e=>by omega);have O10:aM h h10:=aM.bu O9 k10 (by omega);have e10:=q175 R10;obtain ⟨a11,c11,h11,e11,s11,gs11,R11,k11,f11⟩:=q169 (n:=(pT l).2.l.length) R10;have O11:aM h h11:=aM.bu O10 k11 (by omega);have P11:h11.get h1.next=some [.int .i64 (pI l).1,.slice none 0 0]:=aw.getE k11 (aw.getE k10 (aM.get o9 (aw.getE k8 g7 (hr (by omega)))) (by omega)) (hr (by omega));obtain ⟨h12,t12,k12,g12,_,n12⟩:=stored (v := .slice a11 (pD l).1.length c11) (o:=1) P11 (by rw [N0 O11];omega) (Nat.lt_succ_self 1) rfl rfl;have O12:aM h h12:=aM.bu O11 k12 (by omega);have q4:r<h4.next:=R.IsR.lt R4;have m8:=k8.next;have m9:=o9.next;have m11:=k11.next;have B11:BS h11 (.slice a11 (pD l).1.length c11) (pD l).1 := .of s11 (fun _=>gs11);have dl:(pD l).1.length<=21000:=by have:=(lL (pT l).2 (pT l).2.l.length).1;have:=R10.len;unfold pD;omega
 have B12:BS h12 (.slice a11 (pD l).1.length c11) (pD l).1:=by refine .of (k12.bytes s11 fun y hy _ e => ?_) (fun _=>gs11);have:=f11 y hy;omega
 have X12:ki h12 (fW (pT l).1).1 v9:=⟨((X9.sl.keep k10 (fun b hb e=>by have:=f9 b hb;omega)).keep k11 (fun b hb e=>by have:=f9 b hb;omega)).keep k12 (fun b hb e=>by have:=f9 b hb;omega),w9⟩
 have R12:mC h12 h3.next r (pD l).2:=R.IsR.keepB R11 k12 (fun b hb e=>by omega);have G0:h12.get h.next=some (dL (fW (pT l).1).1 v9):=aw.getE k12 (aw.getE k11 g10 (hr (by omega))) (by omega);have G1:h12.get h1.next=some [.int .i64 (pI l).1,.slice a11 (pD l).1.length c11]:=g12;have G2:h12.get h2.next=some (bA z32):=aw.getE k12 (aw.getE k11 (aw.getE k10 (aM.get o9 (aw.getE k8 (aw.getE k7 (aw.getE k6 (aw.getE k5 (aM.get o4 g3) (hr (by omega))) (hr (by omega))) (by omega)) (hr (by omega)))) (by omega)) (hr (by omega))) (by omega);have A12:=X12.ld G0;have D12:bZ 2 (ptr h1.next 0) h12=some (pv (pI l).1 (.slice a11 (pD l).1.length c11),h12):=aV G1 rfl rfl;have ixl:(pI l).1<65536:=Rd.mn (R.IsR.byte R5) 2;obtain ⟨h13,e13,o13⟩:=r25 (T.old O12) X12 (ix:=((pI l).1:Nat)) (by omega) B12 (by omega);have e14:=q170 R12;have z3:dj (List.replicate 32 (.int .u8 0)) h2=some (ptr h2.next 0,h3):=z3;have cv : ∀ g,iD .i64 (.int .u16 ((pI l).1:Int)) g=some (.int .i64 (pI l).1,g):=fun g=>cv16i _ g ixl;have e5:CD 111 [ptr r 0] h4=some (.int .u8 ((pK l).1:Nat),h5):=e5;have e6:CD 168 [ptr r 0] h5=some (.int .u16 ((pI l).1:Nat),h6):=e6;have e8:CD 174 [ptr r 0] h7=some (.slice a8 (pT l).1.length c8,h8):=e8;have e9:CD 173 [.slice a8 (pT l).1.length c8] h8=some (.tuple #[mv (fW (pT l).1).1 v9,.int .i64 (fW (pT l).1).2],h9):=e9;have e11:CD 169 [ptr r 0,ak (pT l).2.l.length] h10=some (.slice a11 (pD l).1.length c11,h11):=e11;have e14:CD 170 [ptr r 0] h12=some (.int .i64 (pD l).2.e,h12):=e14;have z32l:(bA z32).length=32:=rfl;have bad : ∀ {g:ae},aM h12 g->eh l=none->(∀ x y z,bX 37 (ptr h.next 0) (.agg zM.toArray) g=some (undef,x)->bX 2 (ptr h1.next 0) (.agg zP.toArray) x=some (undef,y)->bX 32 (ptr h2.next 0) (.agg (bA z32).toArray) y=some (undef,z) ->
   bZ 37 (ptr h.next 0) z=some (.agg zM.toArray,z)->bZ 2 (ptr h1.next 0) z=some (.agg zP.toArray,z)->bZ 32 (ptr h2.next 0) z=some (.agg (bA z32).toArray,z) ->
   bZ 32 (ptr h2.next 0) g=some (.agg (bA z32).toArray,g)->fP true (bZ 32 (ptr h2.next 0) x) (.agg (bA z32).toArray)=true->fP true (bZ 32 (ptr h2.next 0) y) (.agg (bA z32).toArray)=true->t113 CD (.slice a l.length c) h=some (.tuple #[.agg zM.toArray,.agg zP.toArray,.agg (bA z32).toArray,.bool false],z))->RdPost h (CD 113 [.slice a l.length c] h) l:=by
  intro g o hn K;obtain ⟨x,y,z,s1,s2,s3,oz,_,q1,q2,q3,_,xc,yc⟩:=three (A:=zM) (B:=zP) (D:=bA z32) (O12.trans o) (DO _) (by omega) (by omega) (by omega) (by omega) (by omega) (aM.get o G0) (aM.get o G1) (aM.get o G2) X12.ok.1 rfl rfl rfl rfl rfl rfl rfl rfl rfl (bh _).2 (bh _).1;have vz:Abs.veq (.agg (bA z32).toArray) (.agg (bA z32).toArray)=true:=by show Abs.veqL (bA z32).toArray.toList (bA z32).toArray.toList=true;exact (bO z32_d).veq
  have:=K x y z s1 s2 s3 q1 q2 q3 (aV (aM.get o G2) rfl (bh _).1) (eQ (aV xc rfl (bh _).1) vz) (eQ (aV yc rfl (bh _).1) vz);refine ⟨z,oz,?_⟩;rw [hn];exact aJ is113 rfl ((t113_eq _ _ _).trans this)
 by_cases c0:(pK l).1=2
 ·have nk:(((pK l).1:Int) != 2)=false:=by rw [c0];rfl
  by_cases c1:(pD l).2.e=0
  ·have n1:((pD l).2.e != 0)=false:=by rw [c1];rfl
   by_cases c2:(fW (pT l).1).2=0
   ·have n2:((fW (pT l).1).2 != 0)=false:=by rw [c2];rfl
    by_cases c3:Dt (fW (pT l).1).1 (pI l).1 (pD l).1=0
    ·have n3:(Dt (fW (pT l).1).1 (pI l).1 (pD l).1 != 0)=false:=by rw [c3];rfl
     have X13:=X12.old o13;obtain ⟨h14,e24,o14⟩:=r24 (T.old (O12.trans o13)) X13;have O14:=(O12.trans o13).trans o14;have io:=Cc (fW (pT l).1).1;have oo:=o13.trans o14;obtain ⟨h15,t15,k15,g15,_,n15⟩:=aR (n:=32) (k':=bA (uA (fW (pT l).1).1)) (aM.get oo G2) (by rw [N0 O14];omega) z32l (bf io) (bh _).2;have O15:aM h h15:=aM.bu O14 k15 (by omega);have M0:h15.get h.next=_:=aw.getE k15 (aM.get oo G0) (by omega);have M1:h15.get h1.next=_:=aw.getE k15 (aM.get oo G1) (by omega);have on:aN [Value.int .i64 (pI l).1,.slice a11 (pD l).1.length c11]=true:=rfl;obtain ⟨x,y,z,s1,s2,s3,oz,kz,q1,q2,q3,xb,xc,yc⟩:=three (A:=dL (fW (pT l).1).1 v9) (B := [.int .i64 (pI l).1,.slice a11 (pD l).1.length c11]) (D:=bA (uA (fW (pT l).1).1)) O15 (DO _) (by omega) (by omega) (by omega) (by omega) (by omega) M0 M1 g15 X12.ok.1 rfl (bf io) X12.ok.1 X12.ok.2.2 X12.ok.2.1 rfl on rfl (bf io) (bh _).2 (bh _).1;have w1:bZ 37 (ptr h.next 0) h15=some (mv (fW (pT l).1).1 v9,h15):=aV M0 X12.ok.1 X12.ok.2.1;have w2:bZ 2 (ptr h1.next 0) h15=some (pv (pI l).1 (.slice a11 (pD l).1.length c11),h15):=aV M1 rfl rfl;have w3:bZ 32 (ptr h2.next 0) h15=some (.agg (bA (uA (fW (pT l).1).1)).toArray,h15):=aV g15 (bf io) (bh _).1;have vi:Abs.veq (.agg (bA (uA (fW (pT l).1).1)).toArray) (.agg (bA (uA (fW (pT l).1).1)).toArray)=true:=by show Abs.veqL (bA (uA (fW (pT l).1).1)).toArray.toList _=true;exact (bO io).veq
     have vp:Abs.veq (pv (pI l).1 (.slice a11 (pD l).1.length c11)) (pv (pI l).1 (.slice a11 (pD l).1.length c11))=true:=by simp [Abs.veq,Abs.veqL]
     have w4:=eQ (aV (n:=2) xb rfl rfl) vp;have w5:=eQ (aV (n:=32) xc (bf io) (bh _).1) vi;have w6:=eQ (aV (n:=32) yc (bf io) (bh _).1) vi;have p13:bZ 37 (ptr h.next 0) h13=some (mv (fW (pT l).1).1 v9,h13):=aV (aM.get o13 G0) X12.ok.1 X12.ok.2.1;have s1:bX 37 (ptr h.next 0) (mv (fW (pT l).1).1 v9) h15=some (undef,x):=s1;have s2:bX 2 (ptr h1.next 0) (pv (pI l).1 (.slice a11 (pD l).1.length c11)) x=some (undef,y):=s2;refine ⟨z,oz,?_⟩;have hp:eh l=some ((fW (pT l).1).1,(pI l).1,(pD l).1):=by unfold eh;rw [DR ⟨c0,c1,c2,c3⟩]
     rw [hp];have kk : ∀ {b:Nat},h3.next<=b->b<h12.next -> ¬(b=h.next\/b=h1.next\/b=h2.next):=fun a b=>by omega
     refine ⟨v9,.slice a11 (pD l).1.length c11,aJ is113 rfl ((t113_eq _ _ _).trans ?_),⟨((X13.sl.keep o14 (fun _ _ h=>h)).keep k15 (fun b hb e=>by have:=f9 b hb;omega)).keep kz (fun b hb e=>by have:=f9 b hb;omega),w9⟩,?_,fun b hb=>by have:=f9 b hb;omega,fun a n c e=>by cases e;have:=f11 _ rfl;omega⟩
     ·unfold t113;simp -implicitDefEqProofs only [z1,z2,z3,e4,e5,e6,cv,ax,DK,t7,e8,e9,gZ,iC,t10,e10,e11,t12,wZ,nk,bff,az,D3,DJ,e14,fI,n1,n2,n3,A12.all,D12,e13,p13,e24,t15,w1,w2,w3,s1,s2,s3,w4,w5,w6,EY,af,aj];refine results113 (n:=56) (by decide) _ ?_ ?_ ?_<;>assumption
     ·refine .of (kz.bytes (k15.bytes (aM.bytes oo (k12.bytes s11 fun y hy _ e => ?_)) fun y hy _ e => ?_) fun y hy _ e => ?_) (fun _=>gs11);all_goals have:=f11 y hy;omega
    ·refine bad o13 (by unfold eh;rw [DU (fun q=>c3 q.2.2.2)]) fun x y z s1 s2 s3 q1 q2 q3 w1 w2 w3 => ?_;have n3:(Dt (fW (pT l).1).1 (pI l).1 (pD l).1 != 0)=true:=by rw [HQ];exact c3
     unfold t113;simp -implicitDefEqProofs only [z1,z2,z3,e4,e5,e6,cv,ax,DK,t7,e8,e9,gZ,iC,t10,e10,e11,t12,wZ,nk,bff,az,D3,DJ,e14,fI,n1,n2,n3,A12.all,D12,e13,D8,bldM,bldP,s1,s2,s3,w1,w2,w3,EY,af,aj];refine results113 (n:=56) (by decide) _ ?_ ?_ ?_<;>assumption
   ·refine bad (aw.refl _ _) (by unfold eh;rw [DU (fun q=>c2 q.2.2.1)]) fun x y z s1 s2 s3 q1 q2 q3 w1 w2 w3 => ?_;have n2:((fW (pT l).1).2 != 0)=true:=by rw [HQ];exact c2
    unfold t113;simp -implicitDefEqProofs only [z1,z2,z3,e4,e5,e6,cv,ax,DK,t7,e8,e9,gZ,iC,t10,e10,e11,t12,wZ,nk,bff,btf,az,aG,D3,DJ,e14,fI,n1,n2,D8,bldM,bldP,s1,s2,s3,w1,w2,w3,EY,af,aj];refine results113 (n:=56) (by decide) _ ?_ ?_ ?_<;>assumption
  ·refine bad (aw.refl _ _) (by unfold eh;rw [DU (fun q=>c1 q.2.1)]) fun x y z s1 s2 s3 q1 q2 q3 w1 w2 w3 => ?_;have n1:((pD l).2.e != 0)=true:=by rw [HQ];exact c1
   unfold t113;simp -implicitDefEqProofs only [z1,z2,z3,e4,e5,e6,cv,ax,DK,t7,e8,e9,gZ,iC,t10,e10,e11,t12,wZ,nk,bff,btf,az,aG,D3,DJ,e14,fI,n1,D8,bldM,bldP,s1,s2,s3,w1,w2,w3,EY,af,aj];refine results113 (n:=56) (by decide) _ ?_ ?_ ?_<;>assumption
 ·refine bad (aw.refl _ _) (by unfold eh;rw [DU (fun q=>c0 q.1)]) fun x y z s1 s2 s3 q1 q2 q3 w1 w2 w3 => ?_;have nk:(((pK l).1:Int) != 2)=true:=by rw [HQ];omega
  unfold t113;simp -implicitDefEqProofs only [z1,z2,z3,e4,e5,e6,cv,ax,DK,t7,e8,e9,gZ,iC,t10,e10,e11,t12,wZ,nk,btf,aG,D8,bldM,bldP,s1,s2,s3,w1,w2,w3,EY,af,aj];refine results113 (n:=56) (by decide) _ ?_ ?_ ?_<;>assumption
end
section
attribute [local congr] aC
def CO (k:Nat) (id:List Nat):List Nat:=k::id
def oS (v:Nat):List Nat:=iZ 1 1++iZ 8 v
def app_none {g:ae} {b n c:Nat} {l m:List Nat} {a:Option Addr} (hg:g.get b=some (l.map u8)) (hb : ∀ x∈l,x<256) (hm:aq a n g=some m) (hn:0<n) (hl:l.length+n<=1000000) (hp:0<l.length) :
  ∃ v',appendA 1 1 (.slice (some ⟨b,0,none⟩) l.length l.length) (.slice a n c) g=some (v',g.alloc ((l++m).map u8))/\jq (g.alloc ((l++m).map u8)) g.next v' (l++m):=by
 obtain ⟨hml,hmb,_⟩:=ay hm;have hf:=jv hm (DO n) (c:=c);rw [EB (by omega)] at hf;have hf2:firstA 1 l.length (.slice (some ⟨b,0,none⟩) l.length l.length) g=some (l.map u8):=by
  have hs:aq (some ⟨b,0,none⟩) l.length g=some l:=by rw [dP (l:=l) hg (by omega) hb,FO,EB (DO _)]
  have:=jv hs (DO l.length) (c:=l.length);rw [EB (DO _)] at this;exact this
 refine ⟨.slice (some ⟨g.next,0,some 1⟩) (l.length+n) (l.length+n),?_,⟨?_,fun x hx => ?_⟩⟩
 ·unfold appendA;simp only [ot,hf];rw [DU (by simp only [sz,DY];simp;omega),DU (by omega)];simp only [hf2];rw [DU (by simp)];rw [EV]
 ·have hlen:(l++m).length=l.length+n:=by rw [DW,hml]
  rw [hlen];refine ⟨by rw [DY,hlen];omega,fT _,sz _,.inr ⟨g.next,some 1,rfl,DO _,.inr ⟨rfl,by rw [ae.aX,DR rfl]⟩⟩⟩
 ·rcases EF.1 hx with h|h
  ·exact hb x h
  ·exact hmb x h
def is74:bJ prog 74 f74 := .of (by kernel_rfl)
def is76:bJ prog 76 f76 := .of (by kernel_rfl)
structure NS (h g:ae) (v:Vl) (l:List Nat):Prop where
 bs:BS g v l
 new : ∀ a n c,v = .slice (some a) n c->h.next<=a.block
def r74 (h:ae) {v:Nat} (hv:v<18446744073709551616) : ∃ w g,CD 74 [.int .u64 (v:Int)] h=some (w,g)/\aM h g/\NS h g w (oS v):=by
 obtain ⟨h1,e1,W1,k1⟩:=r116 h (lim:=9) (by omega);obtain ⟨h2,e2,W2,k2⟩:=r117 W1 (v:=1) (by decide) (by decide);obtain ⟨h3,e3,W3,k3⟩:=r133 W2 (v:=v) (by simp only [DW,bY,List.length_nil];omega) hv;have lw:([]++iZ 1 1++iZ 8 v).length=9:=by simp only [DW,bY,List.length_nil]
 obtain ⟨a,c,g,e4,s4,g4,o4,f4⟩:=r121 W3 (by rw [lw];omega);have e1:CD 116 [.int .i64 9] h=some (ptr h.next 0,h1):=e1;have e2:CD 117 [ptr h.next 0,.int .u8 1] h1=some (.tuple #[],h2):=e2;have K:=(k1.trans k2).trans k3;refine ⟨_,g,aJ is74 rfl ((t74_eq _ _ _).trans ?_),(vP.of_old (aw.refl _ _) K (DO _)).trans o4,.of s4 (fun _=>g4),fun x n c e=>by cases e;have:=f4 _ rfl;have:=K.next;omega⟩;unfold t74;simp -implicitDefEqProofs only [e1,e2,e3,e4,gZ,iC,af,aj]
def r76 (h:ae) {k:Nat} (hk:k<256) {id:List Nat} (d:eE id) : ∃ w g,CD 76 [.int .u8 (k:Int),.agg (bA id).toArray] h=some (w,g)/\aM h g/\NS h g w (CO k id):=by
 have b1:=iL h (bA id) (bh id).2;have o1:aM h (h.alloc (bA id)):=aw.alloc _ _ _;have g1:(h.alloc (bA id)).get h.next=some (bA id):=by rw [ae.aX,DR rfl]
 have n1:(h.alloc (bA id)).next=h.next+1:=rfl;generalize h.alloc (bA id)=h1 at *;have b2:=bsl1 h1 k;have o2:aM h1 (h1.alloc [u8 k]):=aw.alloc _ _ _;have g2:(h1.alloc [u8 k]).get h1.next=some (bA [k]):=by rw [ae.aX,DR rfl];rfl
 have n2:(h1.alloc [u8 k]).next=h1.next+1:=rfl;generalize h1.alloc [u8 k]=h2 at *;have sd:aq (some ⟨h.next,0,none⟩) 32 h2=some id:=by have:=fN (h:=h2) (b:=h.next) (off:=0) (s:=none) (A := []) (C := []) (l:=id) (aM.get o2 g1) (by simp) rfl d.2;rw [d.1] at this;exact this
 obtain ⟨w,e3,w3⟩:=app_none (g:=h2) (b:=h1.next) (l := [k]) (c:=32) g2 (by simpa using hk) sd (by decide) (by simp) (by simp);obtain ⟨a,c,rfl,s,gs,f,_⟩:=w3.bytes;have o3:aM h2 (h2.alloc (([k]++id).map u8)):=aw.alloc _ _ _;refine ⟨_,_,aJ is76 rfl ((t76_eq _ _ _ _).trans ?_),(o1.trans o2).trans o3,.of s (fun _=>gs),fun x n c e=>by cases e;have:=f _ rfl;omega⟩;unfold t76;have b2:fE 1 (.int .u8 0) 1 [(0,.int .u8 (k:Int))] h1=_:=b2;have e3:appendA 1 1 (.slice (some ⟨h1.next,0,none⟩) 1 1) (.slice (some ⟨h.next,0,none⟩) 32 32) h2=_:=e3;simp -implicitDefEqProofs only [b1,b2,tK,e3,af,aj]
end
end
end Go.Proofs.YtdhpgacmgebjdaaGreatDoor.W
