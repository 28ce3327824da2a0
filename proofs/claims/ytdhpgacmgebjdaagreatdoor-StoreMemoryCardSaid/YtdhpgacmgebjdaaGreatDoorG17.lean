/-
  A part of the proof, shortened by a program.
  Conditions: as each theorem states.
-/
import Derived.Test.YtdhpgacmgebjdaaGreatDoorG16
set_option linter.all false
namespace Go.Proofs.YtdhpgacmgebjdaaGreatDoor
open Go Go.Abs Tryz
noncomputable section
def known_lt:12<prog.funcs.size:=EH (by kernel_rfl)
def outT_true : ∀ {r:aY},outT r=true -> ∃ v h,r=some (v,h)/\v = .bool true
 |none,e=>by cases e
 |some (v,h),e=>by
  have e:isTrueV v=true:=e;unfold isTrueV at e;split at e
  ·exact ⟨_,h,rfl,rfl⟩
  ·cases e
def known_W:ofC (CC prog XC) 12 [] (gH prog DI) fun v _=>v = .bool true:=by obtain ⟨v,h,e,hv⟩:=outT_true known_runs;exact ⟨v,h,callF_CC (by unfold az;omega) vj smF_X (fun _ _=>XT.ok) 60 _ _ _ _ e,hv⟩
def s12 (args:List Vl) (h:ae):aY:=by classical exact if args = []/\h.get 1=some cP then some (.bool true,h) else none
def s12_eq {h:ae} (g:h.get 1=some cP):s12 [] h=some (.bool true,h):=by unfold s12;rw [DH ⟨rfl,g⟩]
def c12:bU prog 12 s12:=by
 refine bU.closedQ (Bh (kY iE XC_sound)) known_lt (v := .bool true) rfl DI ?_ known_W s12 ?_
 ·intro b cs e;unfold DI at e;split at e
  ·cases e;kernel_rfl
  ·cases e
 ·intro args h r e;unfold s12 at e;split at e
  ·rename_i hh;cases e;refine ⟨hh.1,rfl,fun b cs _ hd => ?_⟩;unfold DI at hd;split at hd
   ·cases hd;exact hh.2
   ·cases hd
  ·cases e
abbrev XL:List (FuncId×(List Vl->ae->aY)) := [(12,s12)]
abbrev XX:ah:=km XL
section
variable (C:ah) (x:Nat->Vl) (x0 x1 x2 x3 x4 x5:Vl) (h:ae)
def t63 (C:ah) (x0 x1 x2:Vl) (h:ae):aY:=
 aa (some (x0,h)) fun a h=>
 aa (pu (nilCheckA a) h) fun b h=>
 aa (pu (aC b 1) h) fun c h=>
 aa (ld1 c h) fun d h=>
 aa (bQ 32 x2 h) fun f h=>
 aa (bQ 3 x1 h) fun g h=>
 aa (mapUpdateA prog 123 d f g h) fun _ h=>
 some (.tuple #[],h)
def t63_eq:aV prog C f63 [x0,x1,x2] h=t63 C x0 x1 x2 h:=
 lkT (by kernel_rfl) (by kernel_rfl)
def t162 (C:ah) (x0 x1:Vl) (h:ae):aY:=
 aa (some ((.bool false),h)) fun p h=>
 aa (some (x0,h)) fun c h=>
 aa (pu (aA prog .leq 3 (.int .i64 1) c) h) fun d h=>
 aa (some (d,h)) fun a h=>
 aa (al (bt a==some true) (some (x0,h)) h) fun f h=>
 aa (al (bt a==some true) (some (x1,h)) h) fun g h=>
 aa (al (bt a==some true) (pu (aA prog .leq 3 f g) h) h) fun j h=>
 aa (match a with | .bool t=>some (if t then j else (.bool false),h)|_=>none) fun k h=>
 aa (some (k,h)) fun b h=>
 aa (al (bt b==some true) (some (x1,h)) h) fun l h=>
 aa (al (bt b==some true) (pu (aA prog .leq 3 l (.int .i64 255)) h) h) fun m h=>
 aa (match b with | .bool t=>some (if t then m else (.bool false),h)|_=>none) fun n h=>
 aa (some (n,h)) fun o h=>
 some (o,h)
def t162_eq:aV prog C f162 [x0,x1] h=t162 C x0 x1 h:=
 lkT (by kernel_rfl) (by kernel_rfl)
def t164 (C:ah) (x0 x1:Vl) (h:ae):aY:=
 aa (box x0 h) fun a h=>
 aa (some ((.slice none 0 0),h)) fun w h=>
 aa (pu (aC a 2) h) fun b h=>
 aa (ld1 b h) fun c h=>
 aa (some (x1,h)) fun d h=>
 aa (pu (aC a 1) h) fun f h=>
 aa (ld1 f h) fun g h=>
 aa (pu (aA prog .mul 3 d g) h) fun j h=>
 aa (some (x1,h)) fun k h=>
 aa (pu (aA prog .add 3 k (.int .i64 1)) h) fun l h=>
 aa (pu (aC a 1) h) fun m h=>
 aa (ld1 m h) fun n h=>
 aa (pu (aA prog .mul 3 l n) h) fun o h=>
 aa (some (x1,h)) fun p h=>
 aa (pu (aA prog .add 3 p (.int .i64 1)) h) fun q h=>
 aa (pu (aC a 1) h) fun r h=>
 aa (ld1 r h) fun s h=>
 aa (pu (aA prog .mul 3 q s) h) fun t h=>
 aa (pu (zR 1 c (some j) (some o) (some t)) h) fun u h=>
 aa (some (u,h)) fun v h=>
 some (v,h)
def t164_eq:aV prog C f164 [x0,x1] h=t164 C x0 x1 h:=
 lkT (by kernel_rfl) (by kernel_rfl)
def t207 (C:ah) (x0 x1 x2:Vl) (h:ae):aY:=
 aa (some ((.int .u8 0),h)) fun L h=>
 aa (some (x0,h)) fun d h=>
 aa (pu (aA prog .eql 114 d (.pointer none)) h) fun f h=>
 aa (some (f,h)) fun a h=>
 aa (al (bt a==some false) (some (x1,h)) h) fun g h=>
 aa (al (bt a==some false) (pu (aA prog .eql 5 g (.int .u8 0)) h) h) fun j h=>
 aa (match a with | .bool t=>some (if t then (.bool true) else j,h)|_=>none) fun k h=>
 aa (some (k,h)) fun b h=>
 aa (al (bt b==some false) (some (x2,h)) h) fun l h=>
 aa (al (bt b==some false) (pu (aA prog .eql 5 l (.int .u8 0)) h) h) fun m h=>
 aa (match b with | .bool t=>some (if t then (.bool true) else m,h)|_=>none) fun n h=>
 (match n with
 | .bool true=>
 aa (some ((.int .u8 0),h)) fun c h=>
 some (c,h)
 | .bool false=>
 aa (some (x0,h)) fun o h=>
 aa (pu (nilCheckA o) h) fun p h=>
 aa (pu (aC p 0) h) fun q h=>
 aa (some (x0,h)) fun r h=>
 aa (some (.func (.func 232) #[r] #[],h)) fun s h=>
 aa (C 231 [q,s] h) fun M h=>
 aa (some (x0,h)) fun u h=>
 aa (some (x0,h)) fun v h=>
 aa (some (x1,h)) fun w h=>
 aa (pu (nilCheckA v) h) fun y h=>
 aa (pu (aC y 513) h) fun z h=>
 aa (pu (idxA 256 1 z w) h) fun A h=>
 aa (ld1 A h) fun B h=>
 aa (some (x0,h)) fun D h=>
 aa (some (x2,h)) fun E h=>
 aa (pu (nilCheckA D) h) fun F h=>
 aa (pu (aC F 513) h) fun G h=>
 aa (pu (idxA 256 1 G E) h) fun dU h=>
 aa (ld1 dU h) fun dI h=>
 aa (pu (aA prog .add 3 B dI) h) fun ee h=>
 aa (pu (nilCheckA u) h) fun H h=>
 aa (pu (aC H 3) h) fun I h=>
 aa (pu (idxA 510 1 I ee) h) fun J h=>
 aa (ld1 J h) fun K h=>
 aa (some (K,h)) fun c h=>
 some (c,h)
 |_=>none)
def Cy:aV prog C f207 [x0,x1,x2] h=t207 C x0 x1 x2 h:=
 lkT (by kernel_rfl) (by kernel_rfl)
def is63:bE prog 63 f63 := .of (by kernel_rfl)
def is162:bE prog 162 f162 := .of (by kernel_rfl)
def is164:bE prog 164 f164 := .of (by kernel_rfl)
def is207:bE prog 207 f207 := .of (by kernel_rfl)
end
def t17 (C:ah) (x0 x1 x2:Vl) (h:ae):aY:=
 aa (box x1 h) fun f h=>
 aa (box x2 h) fun c h=>
 aa (some ((.int .i64 0),h)) fun d7 h=>
 aa (some (x0,h)) fun w h=>
 aa (C 60 [w] h) fun y h=>
 aa (some (y,h)) fun l h=>
 aa (some (l,h)) fun z h=>
 aa (pu (aA prog .neq 25 z (.int .i64 0)) h) fun A h=>
 (match A with
 | .bool true=>
 aa (some (l,h)) fun B h=>
 aa (some (B,h)) fun a h=>
 some (a,h)
 | .bool false=>
 aa (bQ 37 f h) fun D h=>
 aa (bQ 2 c h) fun E h=>
 aa (C 25 [D,E] h) fun F h=>
 aa (some (F,h)) fun m h=>
 aa (some (m,h)) fun G h=>
 aa (pu (aA prog .neq 25 G (.int .i64 0)) h) fun H h=>
 (match H with
 | .bool true=>
 aa (some (m,h)) fun I h=>
 aa (some (I,h)) fun a h=>
 some (a,h)
 | .bool false=>
 aa (bQ 37 f h) fun J h=>
 aa (C 24 [J] h) fun K h=>
 aa (some (K,h)) fun n h=>
 aa (pu (extractA n 0) h) fun L h=>
 aa (pu (extractA n 1) h) fun M h=>
 aa (cO (List.replicate 32 (.int .u8 0)) h) fun b h=>
 aa (bI 32 b L h) fun _ h=>
 aa (some (M,h)) fun d8 h=>
 aa (some (x0,h)) fun N h=>
 aa (pu (nilCheckA N) h) fun dU h=>
 aa (pu (aC dU 2) h) fun dI h=>
 aa (pu (aC dI 2) h) fun ee h=>
 aa (ld1 ee h) fun O h=>
 aa (bQ 32 b h) fun P h=>
 aa (lookupA prog 124 O P false h) fun Q h=>
 (match Q with
 | .bool true=>
 aa (some ((.int .i64 41),h)) fun a h=>
 some (a,h)
 | .bool false=>
 aa (some (x0,h)) fun R h=>
 aa (pu (nilCheckA R) h) fun S h=>
 aa (pu (aC S 2) h) fun T h=>
 aa (pu (aC T 1) h) fun U h=>
 aa (ld1 U h) fun V h=>
 aa (bQ 32 b h) fun W h=>
 aa (lookupA prog 123 V W true h) fun X h=>
 aa (some (X,h)) fun o h=>
 aa (pu (extractA o 0) h) fun Y h=>
 aa (pu (extractA o 1) h) fun Z h=>
 aa (cO [(.int .i64 0),(.int .i64 0),(.int .i64 0)] h) fun a0 h=>
 aa (bI 3 a0 Y h) fun _ h=>
 aa (some (Z,h)) fun a1 h=>
 aa (some (a1,h)) fun gP h=>
 (match gP with
 | .bool true=>
 aa (some ((.int .i64 7),h)) fun a h=>
 some (a,h)
 | .bool false=>
 let g19_0:=h
 aa (pu (aC c 1) g19_0) fun fU g19_1=>
 aa (ld1 fU g19_1) fun fD g19_2=>
 aa (pu (cg fD) g19_2) fun p g19_3=>
 aa (some (x0,g19_3)) fun a2 g19_4=>
 aa (pu (nilCheckA a2) g19_4) fun a3 g19_5=>
 aa (pu (aC a3 1) g19_5) fun q g19_6=>
 aa (ld1 q g19_6) fun r g19_7=>
 aa (some (x0,g19_7)) fun a4 g19_8=>
 aa (C 37 [a4] g19_8) fun a5 g19_9=>
 aa (pu (aA prog .sub 3 r a5) g19_9) fun a6 g19_10=>
 aa (pu (aA prog .gtr 3 p a6) g19_10) fun a7 g19_11=>
 (match (dW true (ld1 fU g19_9) fD&&(dW true (pu (cg fD) g19_9) p&&(dW true (ld1 q g19_9) r&&true))) with
 |true=>
 let h:=g19_11
 (match a7 with
 | .bool true=>
 aa (some ((.int .i64 40),h)) fun a h=>
 some (a,h)
 | .bool false=>
 aa (bQ 37 f h) fun a8 h=>
 aa (bQ 2 c h) fun a9 h=>
 aa (C 61 [a8,a9] h) fun b0 h=>
 aa (some (b0,h)) fun s h=>
 aa (some (s,h)) fun b1 h=>
 aa (pu (cg b1) h) fun b2 h=>
 aa (pu (aC c 1) h) fun b3 h=>
 aa (ld1 b3 h) fun b4 h=>
 aa (pu (cg b4) h) fun b5 h=>
 aa (pu (cN [(.int .i64 0),(.int .i64 0),(.int .i64 0)] [(0,1,(.int .i64 (-1))),(1,1,b2),(2,1,b5)]) h) fun b6 h=>
 aa (cO [(.int .i64 0),(.int .i64 0),(.int .i64 0)] h) fun d h=>
 aa (bI 3 d b6 h) fun _ h=>
 aa (some (x0,h)) fun b7 h=>
 aa (some (s,h)) fun b8 h=>
 aa (some (.func (.func 63) #[] #[d,b],h)) fun b9 h=>
 aa (C 62 [b7,b8,b9] h) fun c0 h=>
 aa (some (c0,h)) fun u h=>
 aa (pu (extractA u 0) h) fun c1 h=>
 aa (pu (extractA u 1) h) fun c2 h=>
 aa (some (c1,h)) fun v h=>
 aa (some (c2,h)) fun g h=>
 aa (some (g,h)) fun c3 h=>
 aa (pu (aA prog .eql 25 c3 (.int .i64 0)) h) fun c4 h=>
 aa (some (c4,h)) fun j h=>
 aa (al (bt j==some true) (some (v,h)) h) fun c5 h=>
 aa (al (bt j==some true) (pu (aA prog .geq 3 c5 (.int .i64 0)) h) h) fun c6 h=>
 aa (match j with | .bool t=>some (if t then c6 else (.bool false),h)|_=>none) fun c7 h=>
 (match c7 with
 | .bool true=>
 aa (some (v,h)) fun c8 h=>
 aa (pu (aC d 0) h) fun c9 h=>
 aa (bI 1 c9 c8 h) fun _ h=>
 aa (some (x0,h)) fun d0 h=>
 aa (pu (nilCheckA d0) h) fun d1 h=>
 aa (pu (aC d1 2) h) fun d2 h=>
 aa (pu (aC d2 1) h) fun d3 h=>
 aa (ld1 d3 h) fun d4 h=>
 aa (bQ 32 b h) fun d5 h=>
 aa (bQ 3 d h) fun d6 h=>
 aa (mapUpdateA prog 123 d4 d5 d6 h) fun _ h=>
 aa (some (g,h)) fun k h=>
 aa (some (k,h)) fun a h=>
 some (a,h)
 | .bool false=>
 aa (some (g,h)) fun k h=>
 aa (some (k,h)) fun a h=>
 some (a,h)
 |_=>none)
 |_=>none)
 |false=>none)
 |_=>none)
 |_=>none)
 |_=>none)
 |_=>none)
def t17_eq (C:ah) (x0 x1 x2:Vl) (h:ae):aV prog C f17 [x0,x1,x2] h=t17 C x0 x1 x2 h:=
 lkT (by kernel_rfl) (by kernel_rfl)
def t16 (C:ah) (x0 x1:Vl) (h:ae):aY:=
 aa (box x0 h) fun b h=>
 aa (box x1 h) fun a h=>
 aa (cO dP h) fun d h=>
 aa (cO [(.int .i64 0),(.slice none 0 0)] h) fun f h=>
 aa (gK 32 (.agg (List.replicate 32 (.int .u8 0)).toArray) 0 [] h) fun g h=>
 aa (pu (aC b 36) h) fun j h=>
 aa (ld1 j h) fun k h=>
 aa (appendA 32 32 g k h) fun l h=>
 aa (pu (aC b 36) h) fun m h=>
 aa (bI 1 m l h) fun _ h=>
 aa (gK 1 (.int .u8 0) 0 [] h) fun n h=>
 aa (pu (aC a 1) h) fun o h=>
 aa (ld1 o h) fun p h=>
 aa (appendA 1 1 n p h) fun q h=>
 aa (pu (aC a 1) h) fun r h=>
 aa (bI 1 r q h) fun _ h=>
 let g4_0:=h
 aa (bQ 37 b g4_0) fun s g4_1=>
 aa (bQ 2 a g4_1) fun c g4_2=>
 aa (bI 37 d s g4_2) fun _ g4_3=>
 aa (bI 2 f c g4_3) fun _ g4_4=>
 (match (dW true (bQ 2 a g4_3) c&&true) with
 |true=>
 let h:=g4_4
 resultsA prog f16.results.toList (aS 18 (up (bs [x0,x1]) [(2,b),(3,a),(4,d),(5,f),(6,g),(7,j),(8,k),(9,l),(10,m),(11,n),(12,o),(13,p),(14,q),(15,r),(16,s),(17,c)])) h
 |false=>none)
def t16_eq (C:ah) (x0 x1:Vl) (h:ae):aV prog C f16 [x0,x1] h=t16 C x0 x1 h:=
 lkT (by kernel_rfl) (by kernel_rfl)
abbrev k0F:List Vl:=fC [.int .u32 0,.int .i32 0,.int .u32 0] (qf 0) (rq 0)
abbrev zS:List Vl:=fC [.int .u32 1,.int .i32 0,.int .u32 0] (qf 255) (rq 255)
abbrev gV (B:Nat):Vl := .tuple #[.agg #[.int .i64 2,.int .i64 1,.slice (some ⟨B,0,none⟩) 2 2],.int .i64 0]
def gB:Vl->Nat
 | .tuple ⟨[.agg ⟨[_,_,.slice (some ⟨B,_,_⟩) _ _]⟩,_]⟩=>B
 |_=>0
def getL (o:Option eh):eh:=Option.rec (motive:=fun _=>eh) [] (fun l=>l) o
def getL_eq {o:Option eh} {k:eh} (e:getL o=k) (hk:k ≠ []):o=some k:=by
 cases o with
 |none=>exact absurd e.symm hk
 |some l=>exact FP some e
def outG (r:aY):Bool:=Option.rec (motive:=fun _=>Bool) false (fun p=>Nat.blt 3 (gB p.1)&&(veq p.1 (gV (gB p.1))&&(veqL (getL (p.2.get (gB p.1))) [.int .u8 1,.int .u8 1]&&veqL (getL (p.2.get 3)) zS))) r
abbrev aG:List Vl := [ptr 3 0,.int .i64 1,.int .i64 2]
def runG:aY:=yg prog okF XC smF XT.get 100000 40 163 aG ((gH prog fun _=>none).alloc k0F)
def gen_runs:outG runG=true:=by kernel_rfl
def outG_true : ∀ {r:aY},outG r=true -> ∃ B g,3<B/\r=some (gV B,g)/\g.get 3=some zS/\g.get B=some [.int .u8 1,.int .u8 1]
 |none,e=>by cases e
 |some (v,g),e=>by have e:(Nat.blt 3 (gB v)&&(veq v (gV (gB v))&&(veqL (getL (g.get (gB v))) [.int .u8 1,.int .u8 1]&&veqL (getL (g.get 3)) zS)))=true:=e;simp only [DD] at e;obtain ⟨h1,h2,h3,h4⟩:=e;exact ⟨gB v,g,by simpa using h1,by rw [<-C0 h2],getL_eq (nU h4) (by unfold zS fC;simp),getL_eq (nU h3) (by simp)⟩
def s163 (args:List Vl) (h:ae):aY:=
 match args with
 | [.pointer (some ⟨fb,0,none⟩),.int .i64 1,.int .i64 2]=>by classical exact if h.n0<=fb/\h.get fb=some k0F then some (gV h.next,(h.set fb zS).alloc [.int .u8 1,.int .u8 1]) else none
 |_=>none
def s163_eq {h:ae} {fb:Nat} (h0:h.n0<=fb) (hg:h.get fb=some k0F):s163 [ptr fb 0,.int .i64 1,.int .i64 2] h=some (gV h.next,(h.set fb zS).alloc [.int .u8 1,.int .u8 1]):=by unfold s163;exact DH ⟨h0,hg⟩
def lt163:163<prog.funcs.size:=EH (by kernel_rfl)
def c163:bU prog 163 s163:=by
 obtain ⟨B,g,hB,e,h1,h2⟩:=outG_true gen_runs;have e:CC prog XC 163 aG ((gH prog fun _=>none).alloc k0F)=some (gV B,g):=callF_CC (by unfold az;omega) vj smF_X (fun _ _=>XT.ok) 40 _ _ _ _ e;refine bU.closedB (Bh (kY iE XC_sound)) lt163 (fun _=>none) (fun _ _ e=>by cases e) (k0:=k0F) (k1:=zS) (k2 := [.int .u8 1,.int .u8 1]) (by kernel_rfl) (by kernel_rfl) rfl (a0:=aG) (by rw [iv];rfl) (v0:=gV B) (B:=B) (by rw [iv];exact hB) ⟨_,_,e,rfl,by rw [iv];exact h1,h2⟩ s163 ?_;intro args h r e;unfold s163 at e;split at e
 ·rename_i fb;split at e
  ·rename_i hh;cases e;refine ⟨fb,gV h.next,by rw [iv];rfl,hh.1,hh.2,rfl,?_,fun n => ?_,fun b cs _ hd=>by cases hd⟩
   ·simp [gV,b9,cT]
   ·simp [gV,ft,nt]
  ·cases e
 ·cases e
def is185n:bE prog 185 f185 := .of (by kernel_rfl)
abbrev kk185:ah:=yg prog okF noC (fun _=>false) (fun _=>none) 100 10
def k185a (k:Nat) (D:Nat->Option (List Vl)) (t:Tr) (n:Nat):kk185 185 [.slice none 0 0,.func (.func 127) #[] #[]] ⟨k+3,D,t,n⟩=some (.tuple #[],⟨k+3,D,t,n⟩):=by kernel_rfl
def k185b (k:Nat) (D:Nat->Option (List Vl)) (t:Tr) (n:Nat):kk185 185 [.slice none 0 0,.func (.func 135) #[] #[]] ⟨k+3,D,t,n⟩=some (.tuple #[],⟨k+3,D,t,n⟩):=by kernel_rfl
def k185c (k:Nat) (D:Nat->Option (List Vl)) (t:Tr) (n b:Nat) (s:Option Nat):kk185 185 [.slice (some ⟨b,0,s⟩) 1 1,.func (.func 127) #[] #[]] ⟨k+3,D,t,n⟩=some (.tuple #[],⟨k+3,D,t,n⟩):=by kernel_rfl
open Classical in
def yC (args:List Vl) (h:ae):aY:=
 if 3<=h.n0/\(args = [.slice none 0 0,.func (.func 127) #[] #[]]\/args = [.slice none 0 0,.func (.func 135) #[] #[]] \/ ∃ b s,args = [.slice (some ⟨b,0,s⟩) 1 1,.func (.func 127) #[] #[]]) then some (.tuple #[],h) else none
def c185n:bU prog 185 yC:=(bU.of_CC iE (noC_sound _) is185n).weaker fun args h r e=>by
 unfold yC at e;split at e
 ·rename_i hh;cases e;obtain ⟨hG,hh⟩:=hh;obtain ⟨n0,D,t,n⟩:=h;obtain ⟨k,rfl⟩ : ∃ k,n0=k+3:=⟨n0-3,by have:3<=n0:=hG;omega⟩
  have to : ∀ {args:List Vl} {h:ae} {r:Vl×ae},kk185 185 args h=some r->CC prog noC 185 args h=some r:=fun e=>callF_CC (by have:az=18446744073709551616:=rfl;omega) vj (fun _ _ _ _=>rfl) (fun _ _ e=>by cases e) 10 _ _ _ _ e;rcases hh with rfl|rfl|⟨b,s,rfl⟩
  ·exact to (k185a k D t n)
  ·exact to (k185b k D t n)
  ·exact to (k185c k D t n b s)
 ·cases e
end
end Go.Proofs.YtdhpgacmgebjdaaGreatDoor
namespace Go.Proofs.YtdhpgacmgebjdaaGreatDoor.W
open Go Go.Abs Tryz
noncomputable section
section
variable (C:ah) (x:Nat->Vl) (x0 x1 x2 x3 x4 x5:Vl) (h:ae)
def t49 (C:ah) (x0:Vl) (h:ae):aY:=
 aa (some (x0,h)) fun c h=>
 aa (pu (aA prog .eql 24 c (.pointer none)) h) fun d h=>
 aa (some (d,h)) fun a h=>
 aa (al (bt a==some false) (some (x0,h)) h) fun f h=>
 aa (al (bt a==some false) (pu (nilCheckA f) h) h) fun g h=>
 aa (al (bt a==some false) (pu (aC g 1) h) h) fun j h=>
 aa (al (bt a==some false) (ld1 j h) h) fun k h=>
 aa (match a with | .bool t=>some (if t then (.bool true) else k,h)|_=>none) fun l h=>
 (match l with
 | .bool true=>
 some (.tuple #[],h)
 | .bool false=>
 aa (some (x0,h)) fun m h=>
 aa (some (x0,h)) fun n h=>
 aa (pu (nilCheckA m) h) fun o h=>
 aa (pu (aC o 1) h) fun p h=>
 aa (bI 1 p (.bool true) h) fun _ h=>
 aa (pu (nilCheckA n) h) fun q h=>
 aa (pu (aC q 2) h) fun r h=>
 aa (bI 1 r (.bool false) h) fun _ h=>
 aa (some (x0,h)) fun b h=>
 aa (pu (nilCheckA b) h) fun s h=>
 aa (pu (aC s 5) h) fun u h=>
 aa (ld1 u h) fun v h=>
 aa (pu (aA prog .add 3 v (.int .i64 1)) h) fun w h=>
 aa (pu (nilCheckA b) h) fun y h=>
 aa (pu (aC y 5) h) fun z h=>
 aa (bI 1 z w h) fun _ h=>
 some (.tuple #[],h)
 |_=>none)
def t49_eq:aV prog C f49 [x0] h=t49 C x0 h:=
 lkT (by kernel_rfl) (by kernel_rfl)
def k57_7 (C:ah) (e:aO) (h:ae):aY:=codeK prog C (aq f57 [1,1,1,1,1]) e h (resultsA prog f57.results.toList) (resultsA prog f57.results.toList) (fun _ _ _=>none)
def b57_9 (C:ah) (i:Nat) (e:aO) (h:ae):aY:=if i=0 then (k57_7 C) e h else (fun _ _ _=>none) i e h
def k57_11 (C:ah) (e:aO) (h:ae):aY:=codeK prog C (aq f57 [1,1,1,1,1,1,1]) e h (resultsA prog f57.results.toList) (resultsA prog f57.results.toList) (fun _ _ _=>none)
def b57_13 (C:ah) (i:Nat) (e:aO) (h:ae):aY:=if i=4 then (k57_11 C) e h else (fun _ _ _=>none) i e h
def k57_16 (C:ah) (e:aO) (h:ae):Option (Ex×aO×ae):=codeK prog C (aq f57 [1,1,1,1,0,1,0,0,1,1,1]) e h (fun e h=>some (Ex.normal,e,h)) (fun e h=>some (Ex.ret,e,h)) (fun i e h=>some (Ex.exit i,e,h))
def b57_17 (C:ah) (i:Nat) (e:aO) (h:ae):Option (Ex×aO×ae):=if i=1 then (k57_16 C) e h else (fun i e h=>some (Ex.exit i,e,h)) i e h
def u0 (C:ah) (i:Nat) (e:aO) (h:ae):Option (Ex×aO×ae):=if i=2 then (k57_16 C) e h else (b57_17 C) i e h
def t57 (C:ah) (x0:Vl) (h:ae):aY:=
 aa (some ((.pointer none),h)) fun t h=>
 aa (some ((.slice none 0 0),h)) fun u h=>
 aa (some ((.int .i64 0),h)) fun v h=>
 aa (some (x0,h)) fun c h=>
 aa (C 105 [c,(.int .i64 0)] h) fun d h=>
 aa (some (d,h)) fun a h=>
 aa (some (a,h)) fun f h=>
 aa (pu (aA prog .neq 25 f (.int .i64 0)) h) fun g h=>
 (match g with
 | .bool true=>
 aa (some (a,h)) fun w h=>
 aa (some ((.pointer none),h)) fun y h=>
 aa (some ((.slice none 0 0),h)) fun z h=>
 aa (some (w,h)) fun A h=>
 some (.tuple #[y,z,A],h)
 | .bool false=>
 aa (some (x0,h)) fun b h=>
 aa (pu (nilCheckA b) h) fun j h=>
 aa (pu (aC j 5) h) fun k h=>
 aa (ld1 k h) fun l h=>
 aa (pu (aA prog .add 3 l (.int .i64 1)) h) fun m h=>
 aa (pu (nilCheckA b) h) fun n h=>
 aa (pu (aC n 5) h) fun o h=>
 aa (bI 1 o m h) fun _ h=>
 aa (some (x0,h)) fun p h=>
 aa (some (x0,h)) fun q h=>
 aa (pu (nilCheckA q) h) fun r h=>
 aa (pu (aC r 5) h) fun s h=>
 aa (ld1 s h) fun dU h=>
 aa (pu (cN zlit3 [(0,1,p),(1,1,dU),(2,1,(.int .i64 (-1)))]) h) fun dI h=>
 aa (box dI h) fun ee h=>
 aa (some (ee,h)) fun B h=>
 aa (some ((.int .i64 0),h)) fun D h=>
 dH (iter (codeA prog C (aq f57 [1,1,1,1,0,1,0,0])) az (aS 131 (up (bs [x0]) [(2,t),(3,u),(4,v),(5,a),(6,B),(18,c),(19,d),(20,f),(21,g),(23,b),(24,j),(25,k),(26,l),(27,m),(28,n),(29,o),(30,p),(31,q),(32,r),(33,s),(34,dU),(35,dI),(36,ee),(37,D)])) h) (resultsA prog f57.results.toList) (b57_9 C)
 |_=>none)
def yH (C:ah) (x:Nat->Vl) (h:ae):aY:=
 aa (some ((.slice none 0 0),h)) fun a h=>
 aa (some ((.int .i64 0),h)) fun b h=>
 dH (iter (codeA prog C (aq f57 [1,1,1,1,1,1,0,1,0,0])) az (aS 131 (up x [(14,a),(15,b)])) h) (resultsA prog f57.results.toList) (b57_13 C)
def ff (C:ah) (x:Nat->Vl) (h:ae):Option (Ex×aO×ae):=
 aa (pu (aA prog .lss 3 (x 37) (.int .i64 2)) h) fun f h=>
 (match f with
 | .bool true=>
 aa (some ((x 37),h)) fun v h=>
 aa (some (v,h)) fun g h=>
 aa (some ((x 0),h)) fun w h=>
 aa (some (g,h)) fun y h=>
 aa (C 106 [w,y] h) fun z h=>
 aa (some (z,h)) fun d h=>
 aa (pu (extractA d 0) h) fun A h=>
 aa (pu (extractA d 1) h) fun B h=>
 aa (pu (extractA d 2) h) fun D h=>
 aa (some (A,h)) fun c h=>
 aa (some (B,h)) fun E h=>
 aa (some (D,h)) fun F h=>
 aa (some (F,h)) fun G h=>
 (match G with
 | .bool true=>
 aa (some ((x 6),h)) fun H h=>
 aa (pu (nilCheckA H) h) fun I h=>
 aa (pu (aC I 2) h) fun gP h=>
 aa (ld1 gP h) fun fU h=>
 aa (pu (aA prog .lss 3 fU (.int .i64 0)) h) fun fD h=>
 aa (some (fD,h)) fun a h=>
 aa (al (bt a==some false) (some (c,h)) h) fun J h=>
 aa (al (bt a==some false) (some ((x 6),h)) h) fun K h=>
 aa (al (bt a==some false) (pu (nilCheckA K) h) h) fun L h=>
 aa (al (bt a==some false) (pu (aC L 4) h) h) fun M h=>
 aa (al (bt a==some false) (ld1 M h) h) fun N h=>
 aa (al (bt a==some false) (pu (aA prog .gtr 52 J N) h) h) fun O h=>
 aa (match a with | .bool t=>some (if t then (.bool true) else O,h)|_=>none) fun P h=>
 (match P with
 | .bool true=>
 aa (some ((x 6),h)) fun Q h=>
 aa (some ((x 6),h)) fun R h=>
 aa (some ((x 6),h)) fun S h=>
 aa (some (g,h)) fun T h=>
 aa (some (c,h)) fun U h=>
 aa (some (E,h)) fun V h=>
 aa (pu (nilCheckA Q) h) fun W h=>
 aa (pu (aC W 2) h) fun X h=>
 aa (bI 1 X T h) fun _ h=>
 aa (pu (nilCheckA R) h) fun Y h=>
 aa (pu (aC Y 4) h) fun Z h=>
 aa (bI 1 Z U h) fun _ h=>
 aa (pu (nilCheckA S) h) fun a0 h=>
 aa (pu (aC a0 3) h) fun a1 h=>
 aa (bI 1 a1 V h) fun _ h=>
 aa (some ((x 6),h)) fun j h=>
 aa (some ((x 6),h)) fun k h=>
 aa (pu (nilCheckA k) h) fun l h=>
 aa (pu (aC l 5) h) fun m h=>
 aa (ld1 m h) fun n h=>
 aa (some (c,h)) fun o h=>
 aa (pu (minmax true n [o]) h) fun p h=>
 aa (pu (nilCheckA j) h) fun q h=>
 aa (pu (aC q 5) h) fun r h=>
 aa (bI 1 r p h) fun _ h=>
 aa (some ((x 0),h)) fun b h=>
 aa (C 107 [b] h) fun s h=>
 aa (some ((.int .i64 0),h)) fun u h=>
 dH (iter (codeA prog C (aq f57 [1,1,1,1,0,1,0,0,1,1,0,0,1,1,1,0,0])) az (aS 131 (up x [(7,g),(8,c),(9,E),(10,F),(38,f),(39,v),(40,d),(41,w),(42,y),(43,z),(44,A),(45,B),(46,D),(47,G),(48,H),(49,I),(50,gP),(51,fU),(52,fD),(53,a),(54,J),(55,K),(56,L),(57,M),(58,N),(59,O),(60,P),(61,Q),(62,R),(63,S),(64,T),(65,U),(66,V),(67,W),(68,X),(69,Y),(70,Z),(71,a0),(72,a1),(73,j),(74,k),(75,l),(76,m),(77,n),(78,o),(79,p),(80,q),(81,r),(82,b),(83,s),(84,u)])) h) (fun e h=>some (Ex.ret,e,h)) (u0 C)
 | .bool false=>
 aa (some ((x 6),h)) fun j h=>
 aa (some ((x 6),h)) fun k h=>
 aa (pu (nilCheckA k) h) fun l h=>
 aa (pu (aC l 5) h) fun m h=>
 aa (ld1 m h) fun n h=>
 aa (some (c,h)) fun o h=>
 aa (pu (minmax true n [o]) h) fun p h=>
 aa (pu (nilCheckA j) h) fun q h=>
 aa (pu (aC q 5) h) fun r h=>
 aa (bI 1 r p h) fun _ h=>
 aa (some ((x 0),h)) fun b h=>
 aa (C 107 [b] h) fun s h=>
 aa (some ((.int .i64 0),h)) fun u h=>
 dH (iter (codeA prog C (aq f57 [1,1,1,1,0,1,0,0,1,1,0,0,1,1,1,0,0])) az (aS 131 (up x [(7,g),(8,c),(9,E),(10,F),(38,f),(39,v),(40,d),(41,w),(42,y),(43,z),(44,A),(45,B),(46,D),(47,G),(48,H),(49,I),(50,gP),(51,fU),(52,fD),(53,a),(54,J),(55,K),(56,L),(57,M),(58,N),(59,O),(60,P),(73,j),(74,k),(75,l),(76,m),(77,n),(78,o),(79,p),(80,q),(81,r),(82,b),(83,s),(84,u)])) h) (fun e h=>some (Ex.ret,e,h)) (u0 C)
 |_=>none)
 | .bool false=>
 aa (some ((x 0),h)) fun b h=>
 aa (C 107 [b] h) fun s h=>
 aa (some ((.int .i64 0),h)) fun u h=>
 dH (iter (codeA prog C (aq f57 [1,1,1,1,0,1,0,0,1,1,0,0,1,1,1,0,0])) az (aS 131 (up x [(7,g),(8,c),(9,E),(10,F),(38,f),(39,v),(40,d),(41,w),(42,y),(43,z),(44,A),(45,B),(46,D),(47,G),(82,b),(83,s),(84,u)])) h) (fun e h=>some (Ex.ret,e,h)) (u0 C)
 |_=>none)
 | .bool false=>
 some (.exit 0,(aS 131 (up x [(38,f)])),h)
 |_=>none)
def uB (C:ah) (x:Nat->Vl) (h:ae):aY:=
 aa (some ((x 6),h)) fun a h=>
 aa (some ((x 14),h)) fun b h=>
 aa (some (a,h)) fun c h=>
 aa (some (b,h)) fun d h=>
 aa (some ((.int .i64 0),h)) fun f h=>
 some (.tuple #[c,d,f],h)
def hZ (C:ah) (x:Nat->Vl) (h:ae):Option (Ex×aO×ae):=
 aa (some ((x 15),h)) fun g h=>
 aa (some ((x 0),h)) fun j h=>
 aa (C 107 [j] h) fun k h=>
 aa (pu (aA prog .lss 3 g k) h) fun l h=>
 (match l with
 | .bool true=>
 aa (some ((x 6),h)) fun n h=>
 aa (some ((x 15),h)) fun o h=>
 aa (C 109 [n,o] h) fun p h=>
 aa (some (p,h)) fun m h=>
 aa (pu (extractA m 0) h) fun q h=>
 aa (pu (extractA m 1) h) fun r h=>
 aa (some (q,h)) fun s h=>
 aa (some (r,h)) fun a h=>
 aa (some (a,h)) fun t h=>
 aa (pu (aA prog .gtr 3 t (.int .i64 0)) h) fun u h=>
 (match u with
 | .bool true=>
 aa (some ((x 14),h)) fun w h=>
 aa (some ((x 15),h)) fun y h=>
 aa (some (s,h)) fun z h=>
 aa (pu (cN [(.int .i64 0),(.slice none 0 0)] [(0,1,y),(1,1,z)]) h) fun A h=>
 aa (gK 2 (.agg #[(.int .i64 0),(.slice none 0 0)]) 1 [(0,A)] h) fun B h=>
 aa (appendA 2 32 w B h) fun D h=>
 aa (some (D,h)) fun E h=>
 aa (some ((x 15),h)) fun b h=>
 aa (some (a,h)) fun c h=>
 aa (pu (minmax true c [(.int .i64 1)]) h) fun d h=>
 aa (pu (aA prog .add 3 b d) h) fun f h=>
 aa (some (f,h)) fun v h=>
 some (.normal,(aS 131 (up x [(14,E),(15,v),(16,s),(17,a),(107,g),(108,j),(109,k),(110,l),(111,m),(112,n),(113,o),(114,p),(115,q),(116,r),(117,t),(118,u),(119,w),(120,y),(121,z),(122,A),(123,B),(124,D),(125,b),(126,c),(127,d),(128,f)])),h)
 | .bool false=>
 aa (some ((x 15),h)) fun b h=>
 aa (some (a,h)) fun c h=>
 aa (pu (minmax true c [(.int .i64 1)]) h) fun d h=>
 aa (pu (aA prog .add 3 b d) h) fun f h=>
 aa (some (f,h)) fun v h=>
 some (.normal,(aS 131 (up x [(15,v),(16,s),(17,a),(107,g),(108,j),(109,k),(110,l),(111,m),(112,n),(113,o),(114,p),(115,q),(116,r),(117,t),(118,u),(125,b),(126,c),(127,d),(128,f)])),h)
 |_=>none)
 | .bool false=>
 some (.exit 4,(aS 131 (up x [(107,g),(108,j),(109,k),(110,l)])),h)
 |_=>none)
def uz (C:ah) (x:Nat->Vl) (h:ae):Option (Ex×aO×ae):=
 aa (pu (aA prog .add 3 (x 37) (.int .i64 1)) h) fun rp h=>
 aa (some (rp,h)) fun a h=>
 some (.normal,(aS 131 (up x [(37,a),(106,rp)])),h)
def dK (C:ah) (x:Nat->Vl) (h:ae):Option (Ex×aO×ae):=
 aa (pu (aA prog .lss 3 (x 84) (x 83)) h) fun a h=>
 (match a with
 | .bool true=>
 aa (some ((x 84),h)) fun d h=>
 aa (some (d,h)) fun f h=>
 aa (some ((x 0),h)) fun g h=>
 aa (some ((x 7),h)) fun j h=>
 aa (some (f,h)) fun k h=>
 aa (C 108 [g,j,k] h) fun l h=>
 aa (some (l,h)) fun b h=>
 aa (pu (extractA b 0) h) fun m h=>
 aa (pu (extractA b 1) h) fun n h=>
 aa (cO [(.int .u64 0),(.int .i64 0),(.int .i64 0),(.slice none 0 0)] h) fun c h=>
 aa (bI 4 c m h) fun _ h=>
 aa (some (n,h)) fun o h=>
 aa (some (o,h)) fun p h=>
 (match p with
 | .bool true=>
 aa (some ((x 6),h)) fun r h=>
 aa (some ((x 6),h)) fun s h=>
 aa (pu (nilCheckA s) h) fun t h=>
 aa (pu (aC t 5) h) fun u h=>
 aa (ld1 u h) fun v h=>
 aa (pu (aC c 0) h) fun w h=>
 aa (ld1 w h) fun y h=>
 aa (pu (minmax true v [y]) h) fun z h=>
 aa (pu (nilCheckA r) h) fun A h=>
 aa (pu (aC A 5) h) fun B h=>
 aa (bI 1 B z h) fun _ h=>
 aa (pu (aA prog .add 3 (x 84) (.int .i64 1)) h) fun oR h=>
 aa (some (oR,h)) fun q h=>
 some (.normal,(aS 131 (up x [(11,f),(12,c),(13,o),(84,q),(85,a),(86,d),(87,b),(88,g),(89,j),(90,k),(91,l),(92,m),(93,n),(94,p),(95,r),(96,s),(97,t),(98,u),(99,v),(100,w),(101,y),(102,z),(103,A),(104,B),(105,oR)])),h)
 | .bool false=>
 aa (pu (aA prog .add 3 (x 84) (.int .i64 1)) h) fun oR h=>
 aa (some (oR,h)) fun q h=>
 some (.normal,(aS 131 (up x [(11,f),(12,c),(13,o),(84,q),(85,a),(86,d),(87,b),(88,g),(89,j),(90,k),(91,l),(92,m),(93,n),(94,p),(105,oR)])),h)
 |_=>none)
 | .bool false=>
 some (.exit 2,(aS 131 (up x [(85,a)])),h)
 |_=>none)
def t57_eq:aV prog C f57 [x0] h=t57 C x0 h:=
 lkT (by kernel_rfl) (by kernel_rfl)
def t57k57_7_eq:k57_7 C (aS 131 x) h=yH C x h:=
 bg (T:=yH C) (fun x h=>by kernel_rfl) x h
def tN:codeA prog C (aq f57 [1,1,1,1,0,1,0,0]) (aS 131 x) h=ff C x h:=
 aW (T:=ff C) (fun x h=>by kernel_rfl) x h
def Cz:k57_11 C (aS 131 x) h=uB C x h:=
 bg (T:=uB C) (fun x h=>by kernel_rfl) x h
def rn:codeA prog C (aq f57 [1,1,1,1,1,1,0,1,0,0]) (aS 131 x) h=hZ C x h:=
 aW (T:=hZ C) (fun x h=>by kernel_rfl) x h
def Ck:k57_16 C (aS 131 x) h=uz C x h:=
 bg (T:=uz C) (fun x h=>by kernel_rfl) x h
def lG:codeA prog C (aq f57 [1,1,1,1,0,1,0,0,1,1,0,0,1,1,1,0,0]) (aS 131 x) h=dK C x h:=
 aW (T:=dK C) (fun x h=>by kernel_rfl) x h
def k109_7 (C:ah) (e:aO) (h:ae):aY:=codeK prog C (aq f109 [1,1,1,1,1,1]) e h (resultsA prog f109.results.toList) (resultsA prog f109.results.toList) (fun _ _ _=>none)
def b109_9 (C:ah) (i:Nat) (e:aO) (h:ae):aY:=if i=0 then (k109_7 C) e h else (fun _ _ _=>none) i e h
def t109 (C:ah) (x0 x1:Vl) (h:ae):aY:=
 aa (some ((.slice none 0 0),h)) fun z h=>
 aa (some ((.int .i64 0),h)) fun A h=>
 aa (some (x0,h)) fun c h=>
 aa (pu (nilCheckA c) h) fun d h=>
 aa (pu (aC d 0) h) fun f h=>
 aa (ld1 f h) fun g h=>
 aa (C 107 [g] h) fun j h=>
 aa (some (j,h)) fun k h=>
 aa (some (x0,h)) fun l h=>
 aa (pu (nilCheckA l) h) fun m h=>
 aa (pu (aC m 2) h) fun n h=>
 aa (ld1 n h) fun o h=>
 aa (pu (aA prog .lss 3 o (.int .i64 0)) h) fun p h=>
 aa (some (p,h)) fun b h=>
 aa (al (bt b==some false) (some (x1,h)) h) fun q h=>
 aa (al (bt b==some false) (pu (aA prog .lss 3 q (.int .i64 0)) h) h) fun r h=>
 aa (match b with | .bool t=>some (if t then (.bool true) else r,h)|_=>none) fun s h=>
 aa (some (s,h)) fun a h=>
 aa (al (bt a==some false) (some (x1,h)) h) fun u h=>
 aa (al (bt a==some false) (some (k,h)) h) fun v h=>
 aa (al (bt a==some false) (pu (aA prog .geq 3 u v) h) h) fun w h=>
 aa (match a with | .bool t=>some (if t then (.bool true) else w,h)|_=>none) fun y h=>
 (match y with
 | .bool true=>
 aa (some ((.slice none 0 0),h)) fun B h=>
 aa (some ((.int .i64 0),h)) fun D h=>
 some (.tuple #[B,D],h)
 | .bool false=>
 aa (some ((.slice none 0 0),h)) fun E h=>
 aa (some ((.int .i64 1),h)) fun F h=>
 aa (some ((.int .i64 0),h)) fun G h=>
 dH (iter (codeA prog C (aq f109 [1,1,1,1,1,0,1,0,0])) az (aS 89 (up (bs [x0,x1]) [(4,z),(5,A),(6,k),(7,E),(8,F),(9,G),(12,c),(13,d),(14,f),(15,g),(16,j),(17,l),(18,m),(19,n),(20,o),(21,p),(22,b),(23,q),(24,r),(25,s),(26,a),(27,u),(28,v),(29,w),(30,y)])) h) (resultsA prog f109.results.toList) (b109_9 C)
 |_=>none)
def rW (C:ah) (x:Nat->Vl) (h:ae):aY:=
 aa (some ((x 7),h)) fun a h=>
 aa (some ((x 8),h)) fun b h=>
 aa (some (a,h)) fun c h=>
 aa (some (b,h)) fun d h=>
 some (.tuple #[c,d],h)
def fS (C:ah) (x:Nat->Vl) (h:ae):Option (Ex×aO×ae):=
 aa (some ((x 9),h)) fun f h=>
 aa (some ((x 8),h)) fun g h=>
 aa (pu (aA prog .lss 3 f g) h) fun j h=>
 (match j with
 | .bool true=>
 aa (some ((x 1),h)) fun ee h=>
 aa (some ((x 9),h)) fun H h=>
 aa (pu (aA prog .add 3 ee H) h) fun I h=>
 aa (some ((x 6),h)) fun J h=>
 aa (pu (aA prog .geq 3 I J) h) fun K h=>
 (match K with
 | .bool true=>
 aa (some ((.slice none 0 0),h)) fun N h=>
 aa (some ((.int .i64 0),h)) fun O h=>
 some (.ret,(aS 89 (up x [(4,N),(5,O),(31,f),(32,g),(33,j),(36,ee),(37,H),(38,I),(39,J),(40,K)])),h)
 | .bool false=>
 aa (some ((x 0),h)) fun P h=>
 aa (pu (nilCheckA P) h) fun Q h=>
 aa (pu (aC Q 0) h) fun R h=>
 aa (ld1 R h) fun S h=>
 aa (some ((x 0),h)) fun T h=>
 aa (pu (nilCheckA T) h) fun U h=>
 aa (pu (aC U 3) h) fun V h=>
 aa (ld1 V h) fun W h=>
 aa (some ((x 1),h)) fun gP h=>
 aa (some ((x 9),h)) fun fU h=>
 aa (pu (aA prog .add 3 gP fU) h) fun fD h=>
 aa (C 108 [S,W,fD] h) fun X h=>
 aa (some (X,h)) fun L h=>
 aa (pu (extractA L 0) h) fun Y h=>
 aa (pu (extractA L 1) h) fun Z h=>
 aa (cO [(.int .u64 0),(.int .i64 0),(.int .i64 0),(.slice none 0 0)] h) fun d h=>
 aa (bI 4 d Y h) fun _ h=>
 aa (some (Z,h)) fun M h=>
 aa (some ((x 9),h)) fun a0 h=>
 aa (pu (aA prog .eql 3 a0 (.int .i64 0)) h) fun a1 h=>
 (match a1 with
 | .bool true=>
 aa (pu (aC d 2) h) fun a6 h=>
 aa (ld1 a6 h) fun a7 h=>
 aa (some (a7,h)) fun a8 h=>
 aa (some (M,h)) fun k h=>
 aa (pu (unA .not k) h) fun l h=>
 aa (some (l,h)) fun a h=>
 aa (al (bt a==some false) (pu (aC d 0) h) h) fun m h=>
 aa (al (bt a==some false) (ld1 m h) h) fun n h=>
 aa (al (bt a==some false) (some ((x 0),h)) h) fun o h=>
 aa (al (bt a==some false) (pu (nilCheckA o) h) h) fun p h=>
 aa (al (bt a==some false) (pu (aC p 4) h) h) fun q h=>
 aa (al (bt a==some false) (ld1 q h) h) fun r h=>
 aa (al (bt a==some false) (pu (aA prog .neq 52 n r) h) h) fun s h=>
 aa (match a with | .bool t=>some (if t then (.bool true) else s,h)|_=>none) fun u h=>
 aa (some (u,h)) fun b h=>
 aa (al (bt b==some false) (pu (aC d 1) h) h) fun v h=>
 aa (al (bt b==some false) (ld1 v h) h) fun w h=>
 aa (al (bt b==some false) (some ((x 9),h)) h) fun y h=>
 aa (al (bt b==some false) (pu (aA prog .neq 3 w y) h) h) fun z h=>
 aa (match b with | .bool t=>some (if t then (.bool true) else z,h)|_=>none) fun A h=>
 aa (some (A,h)) fun c h=>
 aa (al (bt c==some false) (pu (aC d 2) h) h) fun B h=>
 aa (al (bt c==some false) (ld1 B h) h) fun D h=>
 aa (al (bt c==some false) (some (a8,h)) h) fun E h=>
 aa (al (bt c==some false) (pu (aA prog .neq 3 D E) h) h) fun F h=>
 aa (match c with | .bool t=>some (if t then (.bool true) else F,h)|_=>none) fun G h=>
 (match G with
 | .bool true=>
 aa (some ((.slice none 0 0),h)) fun N h=>
 aa (some ((.int .i64 0),h)) fun O h=>
 some (.ret,(aS 89 (up x [(4,N),(5,O),(8,a8),(10,d),(11,M),(31,f),(32,g),(33,j),(36,ee),(37,H),(38,I),(39,J),(40,K),(41,L),(42,P),(43,Q),(44,R),(45,S),(46,T),(47,U),(48,V),(49,W),(50,gP),(51,fU),(52,fD),(53,X),(54,Y),(55,Z),(56,a0),(57,a1),(58,a6),(59,a7),(60,k),(61,l),(62,a),(63,m),(64,n),(65,o),(66,p),(67,q),(68,r),(69,s),(70,u),(71,b),(72,v),(73,w),(74,y),(75,z),(76,A),(77,c),(78,B),(79,D),(80,E),(81,F),(82,G)])),h)
 | .bool false=>
 aa (some ((x 7),h)) fun a2 h=>
 aa (pu (aC d 3) h) fun a3 h=>
 aa (ld1 a3 h) fun a4 h=>
 aa (appendA 1 1 a2 a4 h) fun a5 h=>
 aa (some (a5,h)) fun a9 h=>
 aa (some ((x 9),h)) fun dU h=>
 aa (pu (aA prog .add 3 dU (.int .i64 1)) h) fun dI h=>
 aa (some (dI,h)) fun b0 h=>
 some (.normal,(aS 89 (up x [(7,a9),(8,a8),(9,b0),(10,d),(11,M),(31,f),(32,g),(33,j),(34,dU),(35,dI),(36,ee),(37,H),(38,I),(39,J),(40,K),(41,L),(42,P),(43,Q),(44,R),(45,S),(46,T),(47,U),(48,V),(49,W),(50,gP),(51,fU),(52,fD),(53,X),(54,Y),(55,Z),(56,a0),(57,a1),(58,a6),(59,a7),(60,k),(61,l),(62,a),(63,m),(64,n),(65,o),(66,p),(67,q),(68,r),(69,s),(70,u),(71,b),(72,v),(73,w),(74,y),(75,z),(76,A),(77,c),(78,B),(79,D),(80,E),(81,F),(82,G),(83,a2),(84,a3),(85,a4),(86,a5)])),h)
 |_=>none)
 | .bool false=>
 aa (some (M,h)) fun k h=>
 aa (pu (unA .not k) h) fun l h=>
 aa (some (l,h)) fun a h=>
 aa (al (bt a==some false) (pu (aC d 0) h) h) fun m h=>
 aa (al (bt a==some false) (ld1 m h) h) fun n h=>
 aa (al (bt a==some false) (some ((x 0),h)) h) fun o h=>
 aa (al (bt a==some false) (pu (nilCheckA o) h) h) fun p h=>
 aa (al (bt a==some false) (pu (aC p 4) h) h) fun q h=>
 aa (al (bt a==some false) (ld1 q h) h) fun r h=>
 aa (al (bt a==some false) (pu (aA prog .neq 52 n r) h) h) fun s h=>
 aa (match a with | .bool t=>some (if t then (.bool true) else s,h)|_=>none) fun u h=>
 aa (some (u,h)) fun b h=>
 aa (al (bt b==some false) (pu (aC d 1) h) h) fun v h=>
 aa (al (bt b==some false) (ld1 v h) h) fun w h=>
 aa (al (bt b==some false) (some ((x 9),h)) h) fun y h=>
 aa (al (bt b==some false) (pu (aA prog .neq 3 w y) h) h) fun z h=>
 aa (match b with | .bool t=>some (if t then (.bool true) else z,h)|_=>none) fun A h=>
 aa (some (A,h)) fun c h=>
 aa (al (bt c==some false) (pu (aC d 2) h) h) fun B h=>
 aa (al (bt c==some false) (ld1 B h) h) fun D h=>
 aa (al (bt c==some false) (some ((x 8),h)) h) fun E h=>
 aa (al (bt c==some false) (pu (aA prog .neq 3 D E) h) h) fun F h=>
 aa (match c with | .bool t=>some (if t then (.bool true) else F,h)|_=>none) fun G h=>
 (match G with
 | .bool true=>
 aa (some ((.slice none 0 0),h)) fun N h=>
 aa (some ((.int .i64 0),h)) fun O h=>
 some (.ret,(aS 89 (up x [(4,N),(5,O),(10,d),(11,M),(31,f),(32,g),(33,j),(36,ee),(37,H),(38,I),(39,J),(40,K),(41,L),(42,P),(43,Q),(44,R),(45,S),(46,T),(47,U),(48,V),(49,W),(50,gP),(51,fU),(52,fD),(53,X),(54,Y),(55,Z),(56,a0),(57,a1),(60,k),(61,l),(62,a),(63,m),(64,n),(65,o),(66,p),(67,q),(68,r),(69,s),(70,u),(71,b),(72,v),(73,w),(74,y),(75,z),(76,A),(77,c),(78,B),(79,D),(80,E),(81,F),(82,G)])),h)
 | .bool false=>
 aa (some ((x 7),h)) fun a2 h=>
 aa (pu (aC d 3) h) fun a3 h=>
 aa (ld1 a3 h) fun a4 h=>
 aa (appendA 1 1 a2 a4 h) fun a5 h=>
 aa (some (a5,h)) fun a9 h=>
 aa (some ((x 9),h)) fun dU h=>
 aa (pu (aA prog .add 3 dU (.int .i64 1)) h) fun dI h=>
 aa (some (dI,h)) fun b0 h=>
 some (.normal,(aS 89 (up x [(7,a9),(9,b0),(10,d),(11,M),(31,f),(32,g),(33,j),(34,dU),(35,dI),(36,ee),(37,H),(38,I),(39,J),(40,K),(41,L),(42,P),(43,Q),(44,R),(45,S),(46,T),(47,U),(48,V),(49,W),(50,gP),(51,fU),(52,fD),(53,X),(54,Y),(55,Z),(56,a0),(57,a1),(60,k),(61,l),(62,a),(63,m),(64,n),(65,o),(66,p),(67,q),(68,r),(69,s),(70,u),(71,b),(72,v),(73,w),(74,y),(75,z),(76,A),(77,c),(78,B),(79,D),(80,E),(81,F),(82,G),(83,a2),(84,a3),(85,a4),(86,a5)])),h)
 |_=>none)
 |_=>none)
 |_=>none)
 | .bool false=>
 some (.exit 0,(aS 89 (up x [(31,f),(32,g),(33,j)])),h)
 |_=>none)
def t109_eq:aV prog C f109 [x0,x1] h=t109 C x0 x1 h:=
 lkT (by kernel_rfl) (by kernel_rfl)
def zH:k109_7 C (aS 89 x) h=rW C x h:=
 bg (T:=rW C) (fun x h=>by kernel_rfl) x h
def oW:codeA prog C (aq f109 [1,1,1,1,1,0,1,0,0]) (aS 89 x) h=fS C x h:=
 aW (T:=fS C) (fun x h=>by kernel_rfl) x h
def k114_6 (C:ah) (e:aO) (h:ae):aY:=codeK prog C (aq f114 [1,1,1,1]) e h (resultsA prog f114.results.toList) (resultsA prog f114.results.toList) (fun _ _ _=>none)
def b114_8 (C:ah) (i:Nat) (e:aO) (h:ae):aY:=if i=0 then (k114_6 C) e h else (fun _ _ _=>none) i e h
def k114_16 (C:ah) (e:aO) (h:ae):aY:=codeK prog C (aq f114 [1,1,1,1,1,1,1,1,1]) e h (resultsA prog f114.results.toList) (resultsA prog f114.results.toList) (fun _ _ _=>none)
def wZ (C:ah) (i:Nat) (e:aO) (h:ae):aY:=if i=2 then (k114_16 C) e h else (fun _ _ _=>none) i e h
def t114 (C:ah) (x0 x1:Vl) (h:ae):aY:=
 aa (some ((.slice none 0 0),h)) fun j h=>
 aa (some ((.int .i64 0),h)) fun k h=>
 aa (some (x0,h)) fun b h=>
 aa (C 132 [b] h) fun c h=>
 aa (some (c,h)) fun a h=>
 aa (some (a,h)) fun d h=>
 aa (pu (aA prog .neq 25 d (.int .i64 0)) h) fun f h=>
 (match f with
 | .bool true=>
 aa (some (a,h)) fun l h=>
 aa (some ((.slice none 0 0),h)) fun m h=>
 aa (some (l,h)) fun n h=>
 some (.tuple #[m,n],h)
 | .bool false=>
 aa (some ((.int .i64 0),h)) fun o h=>
 aa (some ((.bool false),h)) fun p h=>
 aa (some (x1,h)) fun g h=>
 aa (pu (cg g) h) fun q h=>
 aa (some ((.int .i64 0),h)) fun r h=>
 dH (iter (codeA prog C (aq f114 [1,1,1,0,1,0,0])) az (aS 151 (up (bs [x0,x1]) [(4,j),(5,k),(6,a),(7,o),(8,p),(21,b),(22,c),(23,d),(24,f),(26,g),(27,q),(28,r)])) h) (resultsA prog f114.results.toList) (b114_8 C)
 |_=>none)
def sV (C:ah) (x:Nat->Vl) (h:ae):aY:=
 aa (some ((x 8),h)) fun fD h=>
 aa (some (fD,h)) fun a h=>
 aa (al (bt a==some false) (some ((x 0),h)) h) fun d h=>
 aa (al (bt a==some false) (pu (nilCheckA d) h) h) fun f h=>
 aa (al (bt a==some false) (pu (aC f 5) h) h) fun g h=>
 aa (al (bt a==some false) (ld1 g h) h) fun j h=>
 aa (al (bt a==some false) (pu (aA prog .eql 52 j (.int .u64 18446744073709551615)) h) h) fun k h=>
 aa (match a with | .bool t=>some (if t then (.bool true) else k,h)|_=>none) fun l h=>
 (match l with
 | .bool true=>
 aa (some ((.slice none 0 0),h)) fun O h=>
 aa (some ((.int .i64 8),h)) fun P h=>
 some (.tuple #[O,P],h)
 | .bool false=>
 aa (some ((x 0),h)) fun m h=>
 aa (pu (nilCheckA m) h) fun n h=>
 aa (pu (aC n 5) h) fun o h=>
 aa (ld1 o h) fun p h=>
 aa (pu (aA prog .add 52 p (.int .u64 1)) h) fun q h=>
 aa (some ((.int .i64 0),h)) fun Q h=>
 aa (some ((.int .i64 0),h)) fun R h=>
 aa (some (q,h)) fun D h=>
 aa (some ((x 0),h)) fun r h=>
 aa (pu (nilCheckA r) h) fun s h=>
 aa (pu (aC s 2) h) fun u h=>
 aa (ld1 u h) fun v h=>
 aa (pu (aA prog .geq 3 v (.int .i64 0)) h) fun w h=>
 (match w with
 | .bool true=>
 aa (some ((x 0),h)) fun E h=>
 aa (pu (nilCheckA E) h) fun F h=>
 aa (pu (aC F 3) h) fun G h=>
 aa (ld1 G h) fun H h=>
 aa (pu (aA prog .sub 3 (.int .i64 1) H) h) fun I h=>
 aa (some ((x 0),h)) fun J h=>
 aa (pu (nilCheckA J) h) fun K h=>
 aa (pu (aC K 2) h) fun L h=>
 aa (ld1 L h) fun M h=>
 aa (pu (aA prog .sub 3 (.int .i64 1) M) h) fun N h=>
 aa (some (I,h)) fun S h=>
 aa (some (N,h)) fun T h=>
 aa (gK 1 (.int .i64 0) 0 [] h) fun b h=>
 aa (some ((.int .i64 0),h)) fun y h=>
 aa (some (b,h)) fun z h=>
 aa (some ((x 1),h)) fun c h=>
 aa (pu (cg c) h) fun A h=>
 aa (some ((.int .i64 0),h)) fun B h=>
 dH (iter (codeA prog C (aq f114 [1,1,1,1,1,1,1,1,0,1,0,0])) az (aS 151 (up x [(11,S),(12,T),(13,D),(14,y),(15,z),(52,fD),(53,a),(54,d),(55,f),(56,g),(57,j),(58,k),(59,l),(60,m),(61,n),(62,o),(63,p),(64,q),(65,r),(66,s),(67,u),(68,v),(69,w),(70,E),(71,F),(72,G),(73,H),(74,I),(75,J),(76,K),(77,L),(78,M),(79,N),(80,b),(81,c),(82,A),(83,B)])) h) (resultsA prog f114.results.toList) (wZ C)
 | .bool false=>
 aa (gK 1 (.int .i64 0) 0 [] h) fun b h=>
 aa (some ((.int .i64 0),h)) fun y h=>
 aa (some (b,h)) fun z h=>
 aa (some ((x 1),h)) fun c h=>
 aa (pu (cg c) h) fun A h=>
 aa (some ((.int .i64 0),h)) fun B h=>
 dH (iter (codeA prog C (aq f114 [1,1,1,1,1,1,1,1,0,1,0,0])) az (aS 151 (up x [(11,Q),(12,R),(13,D),(14,y),(15,z),(52,fD),(53,a),(54,d),(55,f),(56,g),(57,j),(58,k),(59,l),(60,m),(61,n),(62,o),(63,p),(64,q),(65,r),(66,s),(67,u),(68,v),(69,w),(80,b),(81,c),(82,A),(83,B)])) h) (resultsA prog f114.results.toList) (wZ C)
 |_=>none)
 |_=>none)
def iB (C:ah) (x:Nat->Vl) (h:ae):Option (Ex×aO×ae):=
 aa (pu (aA prog .lss 3 (x 28) (x 27)) h) fun b h=>
 (match b with
 | .bool true=>
 aa (pu (idxS 1 (x 26) (x 28)) h) fun d h=>
 aa (ld1 d h) fun f h=>
 aa (some (f,h)) fun c h=>
 aa (some (c,h)) fun g h=>
 aa (pu (cg g) h) fun j h=>
 aa (pu (aA prog .gtr 3 j (.int .i64 20000)) h) fun dU h=>
 (match dU with
 | .bool true=>
 aa (some ((.slice none 0 0),h)) fun z h=>
 aa (some ((.int .i64 3),h)) fun A h=>
 some (.ret,(aS 151 (up x [(4,z),(5,A),(10,c),(29,b),(30,d),(31,f),(32,g),(33,j),(34,dU)])),h)
 | .bool false=>
 aa (some ((x 7),h)) fun dI h=>
 aa (some (c,h)) fun ee h=>
 aa (pu (cg ee) h) fun k h=>
 aa (C 73 [k] h) fun l h=>
 aa (pu (aA prog .add 3 dI l) h) fun m h=>
 aa (pu (minmax false m [(.int .i64 4096)]) h) fun n h=>
 aa (some (n,h)) fun o h=>
 aa (some ((x 8),h)) fun p h=>
 aa (some (p,h)) fun a h=>
 aa (al (bt a==some false) (some (o,h)) h) fun q h=>
 aa (al (bt a==some false) (some ((x 0),h)) h) fun r h=>
 aa (al (bt a==some false) (pu (nilCheckA r) h) h) fun s h=>
 aa (al (bt a==some false) (pu (aC s 0) h) h) fun u h=>
 aa (al (bt a==some false) (ld1 u h) h) fun v h=>
 aa (al (bt a==some false) (C 107 [v] h) h) fun w h=>
 aa (al (bt a==some false) (pu (aA prog .gtr 3 q w) h) h) fun y h=>
 aa (match a with | .bool t=>some (if t then (.bool true) else y,h)|_=>none) fun gP h=>
 aa (some (gP,h)) fun B h=>
 aa (pu (aA prog .add 3 (x 28) (.int .i64 1)) h) fun fU h=>
 aa (some (fU,h)) fun D h=>
 some (.normal,(aS 151 (up x [(7,o),(8,B),(10,c),(28,D),(29,b),(30,d),(31,f),(32,g),(33,j),(34,dU),(35,dI),(36,ee),(37,k),(38,l),(39,m),(40,n),(41,p),(42,a),(43,q),(44,r),(45,s),(46,u),(47,v),(48,w),(49,y),(50,gP),(51,fU)])),h)
 |_=>none)
 | .bool false=>
 some (.exit 0,(aS 151 (up x [(29,b)])),h)
 |_=>none)
def mh (C:ah) (x:Nat->Vl) (h:ae):aY:=
 aa (C 116 [(.int .i64 124)] h) fun rp h=>
 aa (some (rp,h)) fun a h=>
 aa (some (a,h)) fun j h=>
 aa (C 177 [j,(.int .u32 1398034252)] h) fun Y h=>
 aa (some (a,h)) fun k h=>
 aa (some ((x 13),h)) fun l h=>
 aa (C 133 [k,l] h) fun Z h=>
 aa (some (a,h)) fun m h=>
 aa (some ((x 11),h)) fun n h=>
 aa (iQ .u8 n h) fun o h=>
 aa (C 117 [m,o] h) fun a0 h=>
 let g34_0:=h
 aa (some ((x 0),g34_0)) fun p g34_1=>
 aa (pu (nilCheckA p) g34_1) fun q g34_2=>
 aa (pu (aC q 0) g34_2) fun d g34_3=>
 aa (ld1 d g34_3) fun f g34_4=>
 aa (some ((x 12),g34_4)) fun r g34_5=>
 aa (some (a,g34_5)) fun s g34_6=>
 aa (C 179 [s] g34_6) fun t g34_7=>
 aa (C 178 [f,r,t] g34_7) fun u g34_8=>
 aa (some (u,g34_8)) fun g g34_9=>
 (match (dW true (ld1 d g34_7) f&&true) with
 |true=>
 let h:=g34_9
 aa (some (g,h)) fun v h=>
 aa (pu (aA prog .neq 25 v (.int .i64 0)) h) fun w h=>
 (match w with
 | .bool true=>
 aa (some (g,h)) fun y h=>
 aa (some ((.slice none 0 0),h)) fun b h=>
 aa (some (y,h)) fun c h=>
 some (.tuple #[b,c],h)
 | .bool false=>
 aa (some ((x 0),h)) fun z h=>
 aa (some ((x 0),h)) fun A h=>
 aa (some ((x 0),h)) fun B h=>
 aa (some ((x 0),h)) fun D h=>
 aa (some ((x 0),h)) fun E h=>
 aa (some ((x 0),h)) fun F h=>
 aa (some ((x 12),h)) fun G h=>
 aa (some ((x 11),h)) fun H h=>
 aa (some ((x 13),h)) fun I h=>
 aa (some ((x 13),h)) fun J h=>
 aa (some ((x 14),h)) fun K h=>
 aa (pu (nilCheckA z) h) fun L h=>
 aa (pu (aC L 2) h) fun M h=>
 aa (bI 1 M G h) fun _ h=>
 aa (pu (nilCheckA A) h) fun N h=>
 aa (pu (aC N 3) h) fun O h=>
 aa (bI 1 O H h) fun _ h=>
 aa (pu (nilCheckA B) h) fun P h=>
 aa (pu (aC P 4) h) fun Q h=>
 aa (bI 1 Q I h) fun _ h=>
 aa (pu (nilCheckA D) h) fun R h=>
 aa (pu (aC R 5) h) fun S h=>
 aa (bI 1 S J h) fun _ h=>
 aa (pu (nilCheckA E) h) fun T h=>
 aa (pu (aC T 6) h) fun U h=>
 aa (bI 1 U (.bool true) h) fun _ h=>
 aa (pu (nilCheckA F) h) fun V h=>
 aa (pu (aC V 7) h) fun W h=>
 aa (bI 1 W K h) fun _ h=>
 aa (some ((x 15),h)) fun X h=>
 aa (some (X,h)) fun b h=>
 aa (some ((.int .i64 0),h)) fun c h=>
 some (.tuple #[b,c],h)
 |_=>none)
 |false=>none)
def eu (C:ah) (x:Nat->Vl) (h:ae):Option (Ex×aO×ae):=
 aa (pu (aA prog .lss 3 (x 83) (x 82)) h) fun a h=>
 (match a with
 | .bool true=>
 aa (pu (idxS 1 (x 81) (x 83)) h) fun d h=>
 aa (ld1 d h) fun f h=>
 aa (some (f,h)) fun b h=>
 aa (some ((x 0),h)) fun g h=>
 aa (some ((x 11),h)) fun j h=>
 aa (some ((x 13),h)) fun k h=>
 aa (some ((x 14),h)) fun l h=>
 aa (some (b,h)) fun m h=>
 aa (C 176 [g,j,k,l,m] h) fun n h=>
 aa (some (n,h)) fun c h=>
 aa (some (c,h)) fun o h=>
 aa (pu (aA prog .neq 25 o (.int .i64 0)) h) fun p h=>
 (match p with
 | .bool true=>
 aa (some (c,h)) fun q h=>
 aa (some ((.slice none 0 0),h)) fun B h=>
 aa (some (q,h)) fun D h=>
 some (.ret,(aS 151 (up x [(4,B),(5,D),(17,b),(18,c),(84,a),(85,d),(86,f),(87,g),(88,j),(89,k),(90,l),(91,m),(92,n),(93,o),(94,p),(95,q)])),h)
 | .bool false=>
 aa (some ((x 15),h)) fun r h=>
 aa (some ((x 14),h)) fun s h=>
 aa (gK 1 (.int .i64 0) 1 [(0,s)] h) fun t h=>
 aa (appendA 1 8 r t h) fun u h=>
 aa (some (u,h)) fun E h=>
 aa (some ((x 14),h)) fun v h=>
 aa (some (b,h)) fun w h=>
 aa (pu (cg w) h) fun y h=>
 aa (C 73 [y] h) fun z h=>
 aa (pu (aA prog .add 3 v z) h) fun A h=>
 aa (some (A,h)) fun F h=>
 aa (pu (aA prog .add 3 (x 83) (.int .i64 1)) h) fun oR h=>
 aa (some (oR,h)) fun G h=>
 some (.normal,(aS 151 (up x [(14,F),(15,E),(17,b),(18,c),(83,G),(84,a),(85,d),(86,f),(87,g),(88,j),(89,k),(90,l),(91,m),(92,n),(93,o),(94,p),(96,r),(97,s),(98,t),(99,u),(100,v),(101,w),(102,y),(103,z),(104,A),(105,oR)])),h)
 |_=>none)
 | .bool false=>
 some (.exit 2,(aS 151 (up x [(84,a)])),h)
 |_=>none)
def t114_eq:aV prog C f114 [x0,x1] h=t114 C x0 x1 h:=
 lkT (by kernel_rfl) (by kernel_rfl)
def zN:k114_6 C (aS 151 x) h=sV C x h:=
 bg (T:=sV C) (fun x h=>by kernel_rfl) x h
def sP:codeA prog C (aq f114 [1,1,1,0,1,0,0]) (aS 151 x) h=iB C x h:=
 aW (T:=iB C) (fun x h=>by kernel_rfl) x h
def yZ:k114_16 C (aS 151 x) h=mh C x h:=
 bg (T:=mh C) (fun x h=>by kernel_rfl) x h
def mU:codeA prog C (aq f114 [1,1,1,1,1,1,1,1,0,1,0,0]) (aS 151 x) h=eu C x h:=
 aW (T:=eu C) (fun x h=>by kernel_rfl) x h
def t117 (C:ah) (x0 x1:Vl) (h:ae):aY:=
 aa (some (x0,h)) fun a h=>
 aa (some (x1,h)) fun b h=>
 aa (iQ .u64 b h) fun c h=>
 aa (C 180 [a,c,(.int .i64 1)] h) fun d h=>
 some (.tuple #[],h)
def t117_eq:aV prog C f117 [x0,x1] h=t117 C x0 x1 h:=
 lkT (by kernel_rfl) (by kernel_rfl)
def t118 (C:ah) (x0 x1:Vl) (h:ae):aY:=
 aa (some (x0,h)) fun a h=>
 aa (some (x1,h)) fun b h=>
 aa (iQ .u64 b h) fun c h=>
 aa (C 180 [a,c,(.int .i64 2)] h) fun d h=>
 some (.tuple #[],h)
def t118_eq:aV prog C f118 [x0,x1] h=t118 C x0 x1 h:=
 lkT (by kernel_rfl) (by kernel_rfl)
def t122 (C:ah) (x0 x1:Vl) (h:ae):aY:=
 aa (some ((.int .i64 0),h)) fun a4 h=>
 aa (some ((.int .i64 0),h)) fun a5 h=>
 aa (some (x0,h)) fun j h=>
 aa (C 132 [j] h) fun k h=>
 aa (some (k,h)) fun c h=>
 aa (some (c,h)) fun l h=>
 aa (pu (aA prog .neq 25 l (.int .i64 0)) h) fun m h=>
 (match m with
 | .bool true=>
 aa (some (c,h)) fun n h=>
 aa (some ((.int .i64 0),h)) fun a h=>
 aa (some (n,h)) fun b h=>
 some (.tuple #[a,b],h)
 | .bool false=>
 aa (some (x0,h)) fun o h=>
 aa (pu (nilCheckA o) h) fun p h=>
 aa (pu (aC p 6) h) fun q h=>
 aa (ld1 q h) fun r h=>
 aa (pu (unA .not r) h) fun s h=>
 aa (some (s,h)) fun t h=>
 (match t with
 | .bool true=>
 aa (some ((.int .i64 0),h)) fun a h=>
 aa (some ((.int .i64 30),h)) fun b h=>
 some (.tuple #[a,b],h)
 | .bool false=>
 aa (some (x1,h)) fun u h=>
 aa (pu (cg u) h) fun v h=>
 aa (pu (aA prog .gtr 3 v (.int .i64 20000)) h) fun w h=>
 aa (some (w,h)) fun y h=>
 (match y with
 | .bool true=>
 aa (some ((.int .i64 0),h)) fun a h=>
 aa (some ((.int .i64 3),h)) fun b h=>
 some (.tuple #[a,b],h)
 | .bool false=>
 aa (some (x1,h)) fun z h=>
 aa (pu (cg z) h) fun A h=>
 aa (C 73 [A] h) fun B h=>
 aa (some (x0,h)) fun D h=>
 aa (C 79 [D] h) fun E h=>
 aa (pu (aA prog .gtr 3 B E) h) fun F h=>
 aa (some (F,h)) fun G h=>
 (match G with
 | .bool true=>
 aa (some ((.int .i64 0),h)) fun a h=>
 aa (some ((.int .i64 8),h)) fun b h=>
 some (.tuple #[a,b],h)
 | .bool false=>
 aa (some (x0,h)) fun H h=>
 aa (pu (nilCheckA H) h) fun I h=>
 aa (pu (aC I 7) h) fun J h=>
 aa (ld1 J h) fun dU h=>
 aa (some (dU,h)) fun d h=>
 aa (some (x0,h)) fun dI h=>
 aa (some (x0,h)) fun ee h=>
 aa (pu (nilCheckA ee) h) fun K h=>
 aa (pu (aC K 3) h) fun L h=>
 aa (ld1 L h) fun M h=>
 aa (some (x0,h)) fun N h=>
 aa (pu (nilCheckA N) h) fun O h=>
 aa (pu (aC O 4) h) fun P h=>
 aa (ld1 P h) fun Q h=>
 aa (some (d,h)) fun R h=>
 aa (some (x1,h)) fun S h=>
 aa (C 176 [dI,M,Q,R,S] h) fun T h=>
 aa (some (T,h)) fun f h=>
 aa (some (f,h)) fun U h=>
 aa (pu (aA prog .neq 25 U (.int .i64 0)) h) fun V h=>
 (match V with
 | .bool true=>
 aa (some (f,h)) fun W h=>
 aa (some ((.int .i64 0),h)) fun a h=>
 aa (some (W,h)) fun b h=>
 some (.tuple #[a,b],h)
 | .bool false=>
 let g19_0:=h
 aa (some (x0,g19_0)) fun gP g19_1=>
 aa (pu (nilCheckA gP) g19_1) fun fU g19_2=>
 aa (pu (aC fU 7) g19_2) fun fD g19_3=>
 aa (ld1 fD g19_3) fun g g19_4=>
 aa (some (x1,g19_4)) fun X g19_5=>
 aa (pu (cg X) g19_5) fun Y g19_6=>
 aa (C 73 [Y] g19_6) fun Z g19_7=>
 aa (pu (aA prog .add 3 g Z) g19_7) fun a0 g19_8=>
 aa (pu (nilCheckA gP) g19_8) fun a1 g19_9=>
 aa (pu (aC a1 7) g19_9) fun a2 g19_10=>
 aa (bI 1 a2 a0 g19_10) fun _ g19_11=>
 (match (dW true (ld1 fD g19_7) g&&true) with
 |true=>
 let h:=g19_11
 aa (some (d,h)) fun a3 h=>
 aa (some (a3,h)) fun a h=>
 aa (some ((.int .i64 0),h)) fun b h=>
 some (.tuple #[a,b],h)
 |false=>none)
 |_=>none)
 |_=>none)
 |_=>none)
 |_=>none)
 |_=>none)
def t122_eq:aV prog C f122 [x0,x1] h=t122 C x0 x1 h:=
 lkT (by kernel_rfl) (by kernel_rfl)
def t128 (C:ah) (x0 x1:Vl) (h:ae):aY:=
 aa (some ((.slice none 0 0),h)) fun w h=>
 aa (some ((.int .i64 0),h)) fun y h=>
 aa (some (x0,h)) fun f h=>
 aa (C 132 [f] h) fun g h=>
 aa (some (g,h)) fun c h=>
 aa (some (c,h)) fun j h=>
 aa (pu (aA prog .neq 25 j (.int .i64 0)) h) fun k h=>
 (match k with
 | .bool true=>
 aa (some (c,h)) fun l h=>
 aa (some ((.slice none 0 0),h)) fun a h=>
 aa (some (l,h)) fun b h=>
 some (.tuple #[a,b],h)
 | .bool false=>
 aa (some (x0,h)) fun m h=>
 aa (some (x1,h)) fun n h=>
 aa (C 109 [m,n] h) fun o h=>
 aa (some (o,h)) fun d h=>
 aa (pu (extractA d 0) h) fun p h=>
 aa (pu (extractA d 1) h) fun q h=>
 aa (some (p,h)) fun r h=>
 aa (some (q,h)) fun s h=>
 aa (some (s,h)) fun t h=>
 aa (pu (aA prog .eql 3 t (.int .i64 0)) h) fun u h=>
 (match u with
 | .bool true=>
 aa (some ((.slice none 0 0),h)) fun a h=>
 aa (some ((.int .i64 6),h)) fun b h=>
 some (.tuple #[a,b],h)
 | .bool false=>
 aa (some (r,h)) fun v h=>
 aa (some (v,h)) fun a h=>
 aa (some ((.int .i64 0),h)) fun b h=>
 some (.tuple #[a,b],h)
 |_=>none)
 |_=>none)
def BK:aV prog C f128 [x0,x1] h=t128 C x0 x1 h:=
 lkT (by kernel_rfl) (by kernel_rfl)
def t133 (C:ah) (x0 x1:Vl) (h:ae):aY:=
 aa (some (x0,h)) fun a h=>
 aa (some (x1,h)) fun b h=>
 aa (C 180 [a,b,(.int .i64 8)] h) fun c h=>
 some (.tuple #[],h)
def t133_eq:aV prog C f133 [x0,x1] h=t133 C x0 x1 h:=
 lkT (by kernel_rfl) (by kernel_rfl)
def k176_2 (C:ah) (e:aO) (h:ae):aY:=codeK prog C (aq f176 [1,1,1]) e h (resultsA prog f176.results.toList) (resultsA prog f176.results.toList) (fun _ _ _=>none)
def b176_4 (C:ah) (i:Nat) (e:aO) (h:ae):aY:=if i=0 then (k176_2 C) e h else (fun _ _ _=>none) i e h
def t176 (C:ah) (x0 x1 x2 x3 x4:Vl) (h:ae):aY:=
 aa (some ((.int .i64 0),h)) fun f h=>
 aa (some (x4,h)) fun a h=>
 aa (pu (cg a) h) fun b h=>
 aa (C 73 [b] h) fun c h=>
 aa (some (c,h)) fun d h=>
 aa (some (d,h)) fun g h=>
 aa (some ((.int .i64 0),h)) fun j h=>
 dH (iter (codeA prog C (aq f176 [1,1,0,1,0,0])) az (aS 77 (up (bs [x0,x1,x2,x3,x4]) [(10,f),(11,d),(16,a),(17,b),(18,c),(19,g),(20,j)])) h) (resultsA prog f176.results.toList) (b176_4 C)
def rZ (C:ah) (x:Nat->Vl) (h:ae):aY:=
 aa (some ((.int .i64 0),h)) fun a h=>
 some (a,h)
def iY (C:ah) (x:Nat->Vl) (h:ae):Option (Ex×aO×ae):=
 aa (pu (aA prog .lss 3 (x 20) (x 19)) h) fun f h=>
 (match f with
 | .bool true=>
 aa (some ((x 20),h)) fun j h=>
 aa (some (j,h)) fun b h=>
 aa (some ((x 4),h)) fun k h=>
 aa (some (b,h)) fun l h=>
 aa (pu (aA prog .mul 3 l (.int .i64 106)) h) fun m h=>
 aa (some ((x 4),h)) fun n h=>
 aa (pu (cg n) h) fun o h=>
 aa (some (b,h)) fun p h=>
 aa (pu (aA prog .add 3 p (.int .i64 1)) h) fun q h=>
 aa (pu (aA prog .mul 3 q (.int .i64 106)) h) fun r h=>
 aa (pu (minmax false o [r]) h) fun s h=>
 aa (pu (zR 1 k (some m) (some s) none) h) fun t h=>
 aa (some (t,h)) fun u h=>
 aa (C 116 [(.int .i64 124)] h) fun v h=>
 aa (some (v,h)) fun a h=>
 aa (some (a,h)) fun dU h=>
 aa (some ((x 2),h)) fun dI h=>
 aa (C 133 [dU,dI] h) fun ee h=>
 aa (some (a,h)) fun w h=>
 aa (some ((x 3),h)) fun y h=>
 aa (some (b,h)) fun z h=>
 aa (pu (aA prog .add 3 y z) h) fun A h=>
 aa (iQ .u32 A h) fun B h=>
 aa (C 177 [w,B] h) fun a2 h=>
 aa (some (a,h)) fun D h=>
 aa (some (b,h)) fun E h=>
 aa (iQ .u16 E h) fun F h=>
 aa (C 118 [D,F] h) fun a3 h=>
 aa (some (a,h)) fun G h=>
 aa (some ((x 11),h)) fun H h=>
 aa (iQ .u16 H h) fun I h=>
 aa (C 118 [G,I] h) fun gP h=>
 aa (some (a,h)) fun fU h=>
 aa (some (u,h)) fun fD h=>
 aa (C 119 [fU,fD] h) fun a4 h=>
 let g19_0:=h
 aa (some ((x 0),g19_0)) fun J g19_1=>
 aa (pu (nilCheckA J) g19_1) fun K g19_2=>
 aa (pu (aC K 0) g19_2) fun c g19_3=>
 aa (ld1 c g19_3) fun d g19_4=>
 aa (some ((x 1),g19_4)) fun L g19_5=>
 aa (some ((x 0),g19_5)) fun M g19_6=>
 aa (pu (nilCheckA M) g19_6) fun N g19_7=>
 aa (pu (aC N 0) g19_7) fun O g19_8=>
 aa (ld1 O g19_8) fun P g19_9=>
 aa (C 107 [P] g19_9) fun Q g19_10=>
 aa (pu (aA prog .mul 3 L Q) g19_10) fun R g19_11=>
 aa (pu (aA prog .add 3 (.int .i64 2) R) g19_11) fun S g19_12=>
 aa (some ((x 3),g19_12)) fun T g19_13=>
 aa (pu (aA prog .add 3 S T) g19_13) fun U g19_14=>
 aa (some (b,g19_14)) fun V g19_15=>
 aa (pu (aA prog .add 3 U V) g19_15) fun W g19_16=>
 aa (some (a,g19_16)) fun X g19_17=>
 aa (C 179 [X] g19_17) fun Y g19_18=>
 aa (C 178 [d,W,Y] g19_18) fun Z g19_19=>
 aa (some (Z,g19_19)) fun g g19_20=>
 (match (dW true (ld1 c g19_10) d&&(dW true (ld1 c g19_18) d&&true)) with
 |true=>
 let h:=g19_20
 aa (some (g,h)) fun a0 h=>
 aa (pu (aA prog .neq 25 a0 (.int .i64 0)) h) fun a1 h=>
 (match a1 with
 | .bool true=>
 aa (some (g,h)) fun a5 h=>
 aa (some (a5,h)) fun a7 h=>
 some (.ret,(aS 77 (up x [(10,a7),(12,b),(13,u),(14,a),(15,g),(21,f),(22,j),(23,k),(24,l),(25,m),(26,n),(27,o),(28,p),(29,q),(30,r),(31,s),(32,t),(33,v),(34,dU),(35,dI),(36,ee),(37,w),(38,y),(39,z),(40,A),(41,B),(42,a2),(43,D),(44,E),(45,F),(46,a3),(47,G),(48,H),(49,I),(50,gP),(51,fU),(52,fD),(53,a4),(54,J),(55,K),(56,c),(57,d),(58,L),(59,M),(60,N),(61,O),(62,P),(63,Q),(64,R),(65,S),(66,T),(67,U),(68,V),(69,W),(70,X),(71,Y),(72,Z),(73,a0),(74,a1),(75,a5)])),h)
 | .bool false=>
 aa (pu (aA prog .add 3 (x 20) (.int .i64 1)) h) fun a6 h=>
 aa (some (a6,h)) fun a8 h=>
 some (.normal,(aS 77 (up x [(12,b),(13,u),(14,a),(15,g),(20,a8),(21,f),(22,j),(23,k),(24,l),(25,m),(26,n),(27,o),(28,p),(29,q),(30,r),(31,s),(32,t),(33,v),(34,dU),(35,dI),(36,ee),(37,w),(38,y),(39,z),(40,A),(41,B),(42,a2),(43,D),(44,E),(45,F),(46,a3),(47,G),(48,H),(49,I),(50,gP),(51,fU),(52,fD),(53,a4),(54,J),(55,K),(56,c),(57,d),(58,L),(59,M),(60,N),(61,O),(62,P),(63,Q),(64,R),(65,S),(66,T),(67,U),(68,V),(69,W),(70,X),(71,Y),(72,Z),(73,a0),(74,a1),(76,a6)])),h)
 |_=>none)
 |false=>none)
 | .bool false=>
 some (.exit 0,(aS 77 (up x [(21,f)])),h)
 |_=>none)
def t176_eq:aV prog C f176 [x0,x1,x2,x3,x4] h=t176 C x0 x1 x2 x3 x4 h:=
 lkT (by kernel_rfl) (by kernel_rfl)
def zX:k176_2 C (aS 77 x) h=rZ C x h:=
 bg (T:=rZ C) (fun x h=>by kernel_rfl) x h
def tj:codeA prog C (aq f176 [1,1,0,1,0,0]) (aS 77 x) h=iY C x h:=
 aW (T:=iY C) (fun x h=>by kernel_rfl) x h
def t177 (C:ah) (x0 x1:Vl) (h:ae):aY:=
 aa (some (x0,h)) fun a h=>
 aa (some (x1,h)) fun b h=>
 aa (iQ .u64 b h) fun c h=>
 aa (C 180 [a,c,(.int .i64 4)] h) fun d h=>
 some (.tuple #[],h)
def t177_eq:aV prog C f177 [x0,x1] h=t177 C x0 x1 h:=
 lkT (by kernel_rfl) (by kernel_rfl)
def t178 (C:ah) (x0 x1 x2:Vl) (h:ae):aY:=
 aa (some ((.int .i64 0),h)) fun a6 h=>
 aa (some (x0,h)) fun c h=>
 aa (some (x1,h)) fun d h=>
 aa (C 105 [c,d] h) fun f h=>
 aa (some (f,h)) fun b h=>
 aa (some (b,h)) fun g h=>
 aa (pu (aA prog .neq 25 g (.int .i64 0)) h) fun j h=>
 (match j with
 | .bool true=>
 aa (some (b,h)) fun k h=>
 aa (some (k,h)) fun a h=>
 some (a,h)
 | .bool false=>
 aa (some (x2,h)) fun l h=>
 aa (pu (cg l) h) fun m h=>
 aa (pu (aA prog .neq 3 m (.int .i64 128)) h) fun n h=>
 (match n with
 | .bool true=>
 aa (some ((.int .i64 10),h)) fun a h=>
 some (a,h)
 | .bool false=>
 aa (some (x0,h)) fun o h=>
 aa (pu (nilCheckA o) h) fun p h=>
 aa (pu (aC p 2) h) fun q h=>
 aa (ld1 q h) fun r h=>
 aa (pu (unA .not r) h) fun s h=>
 (match s with
 | .bool true=>
 aa (some (x0,h)) fun t h=>
 aa (pu (nilCheckA t) h) fun u h=>
 aa (pu (aC u 0) h) fun v h=>
 aa (ld1 v h) fun w h=>
 aa (some (x1,h)) fun y h=>
 aa (pu (idxS 128 w y) h) fun z h=>
 aa (pu (sliceArr 128 1 z none none none) h) fun A h=>
 aa (some (x2,h)) fun B h=>
 aa (js 1 A B h) fun a7 h=>
 aa (some ((.int .i64 0),h)) fun a h=>
 some (a,h)
 | .bool false=>
 aa (some (x0,h)) fun D h=>
 aa (pu (nilCheckA D) h) fun E h=>
 aa (pu (aC E 3) h) fun F h=>
 aa (ld1 F h) fun dU h=>
 aa (pu (aA prog .eql 3 dU (.int .i64 0)) h) fun dI h=>
 (match dI with
 | .bool true=>
 aa (some (x0,h)) fun ee h=>
 aa (pu (nilCheckA ee) h) fun G h=>
 aa (pu (aC G 0) h) fun H h=>
 aa (ld1 H h) fun I h=>
 aa (some (x1,h)) fun J h=>
 aa (pu (idxS 128 I J) h) fun K h=>
 aa (pu (sliceArr 128 1 K none none none) h) fun L h=>
 aa (some (x2,h)) fun M h=>
 aa (some (x0,h)) fun N h=>
 aa (pu (nilCheckA N) h) fun O h=>
 aa (pu (aC O 4) h) fun P h=>
 aa (ld1 P h) fun Q h=>
 aa (pu (zR 1 M none (some Q) none) h) fun R h=>
 aa (js 1 L R h) fun a8 h=>
 aa (some (x0,h)) fun gP h=>
 aa (C 49 [gP] h) fun fU h=>
 aa (some ((.int .i64 9),h)) fun a h=>
 some (a,h)
 | .bool false=>
 aa (some (x0,h)) fun fD h=>
 aa (pu (nilCheckA fD) h) fun S h=>
 aa (pu (aC S 3) h) fun T h=>
 aa (ld1 T h) fun U h=>
 aa (pu (aA prog .sub 3 U (.int .i64 1)) h) fun V h=>
 aa (pu (nilCheckA fD) h) fun W h=>
 aa (pu (aC W 3) h) fun X h=>
 aa (bI 1 X V h) fun _ h=>
 aa (some (x0,h)) fun Y h=>
 aa (pu (nilCheckA Y) h) fun Z h=>
 aa (pu (aC Z 0) h) fun a0 h=>
 aa (ld1 a0 h) fun a1 h=>
 aa (some (x1,h)) fun a2 h=>
 aa (pu (idxS 128 a1 a2) h) fun a3 h=>
 aa (pu (sliceArr 128 1 a3 none none none) h) fun a4 h=>
 aa (some (x2,h)) fun a5 h=>
 aa (js 1 a4 a5 h) fun a9 h=>
 aa (some ((.int .i64 0),h)) fun a h=>
 some (a,h)
 |_=>none)
 |_=>none)
 |_=>none)
 |_=>none)
def t178_eq:aV prog C f178 [x0,x1,x2] h=t178 C x0 x1 x2 h:=
 lkT (by kernel_rfl) (by kernel_rfl)
def b180_2 (C:ah) (i:Nat) (e:aO) (h:ae):aY:=if i=0 then (resultsA prog f180.results.toList) e h else (fun _ _ _=>none) i e h
def t180 (C:ah) (x0 x1 x2:Vl) (h:ae):aY:=
 aa (some (x0,h)) fun a h=>
 aa (some (x2,h)) fun b h=>
 aa (C 181 [a,b] h) fun c h=>
 (match c with
 | .bool true=>
 aa (some (x2,h)) fun d h=>
 aa (pu (aA prog .sub 3 d (.int .i64 1)) h) fun f h=>
 aa (some (f,h)) fun g h=>
 dH (iter (codeA prog C (aq f180 [1,0,1,0,0])) az (aS 30 (up (bs [x0,x1,x2]) [(6,g),(7,a),(8,b),(9,c),(10,d),(11,f)])) h) (resultsA prog f180.results.toList) (b180_2 C)
 | .bool false=>
 some (.tuple #[],h)
 |_=>none)
def mJ (C:ah) (x:Nat->Vl) (h:ae):Option (Ex×aO×ae):=
 aa (some ((x 6),h)) fun a h=>
 aa (pu (aA prog .geq 3 a (.int .i64 0)) h) fun b h=>
 (match b with
 | .bool true=>
 aa (some ((x 0),h)) fun c h=>
 aa (some ((x 0),h)) fun d h=>
 aa (pu (nilCheckA d) h) fun f h=>
 aa (pu (aC f 2) h) fun g h=>
 aa (ld1 g h) fun j h=>
 aa (some ((x 1),h)) fun k h=>
 aa (some ((x 6),h)) fun l h=>
 aa (pu (aA prog .mul 3 (.int .i64 8) l) h) fun m h=>
 aa (pu (aA prog .shr 52 k m) h) fun n h=>
 aa (iQ .u8 n h) fun o h=>
 aa (gK 1 (.int .u8 0) 1 [(0,o)] h) fun p h=>
 aa (appendA 1 1 j p h) fun q h=>
 aa (pu (nilCheckA c) h) fun r h=>
 aa (pu (aC r 2) h) fun s h=>
 aa (bI 1 s q h) fun _ h=>
 aa (some ((x 6),h)) fun t h=>
 aa (pu (aA prog .sub 3 t (.int .i64 1)) h) fun u h=>
 aa (some (u,h)) fun v h=>
 some (.normal,(aS 30 (up x [(6,v),(12,a),(13,b),(14,t),(15,u),(16,c),(17,d),(18,f),(19,g),(20,j),(21,k),(22,l),(23,m),(24,n),(25,o),(26,p),(27,q),(28,r),(29,s)])),h)
 | .bool false=>
 some (.exit 0,(aS 30 (up x [(12,a),(13,b)])),h)
 |_=>none)
def t180_eq:aV prog C f180 [x0,x1,x2] h=t180 C x0 x1 x2 h:=
 lkT (by kernel_rfl) (by kernel_rfl)
def uO:codeA prog C (aq f180 [1,0,1,0,0]) (aS 30 x) h=mJ C x h:=
 aW (T:=mJ C) (fun x h=>by kernel_rfl) x h
end
abbrev XL:List (FuncId×(List Vl->ae->aY)) := [(12,s12),(208,s208),(187,s187)]
abbrev XX:ah:=km XL
def XX_sound:bk prog XX:=fx _ (by
 intro p hp;simp only [ER,ET,GX] at hp;rcases hp with rfl|rfl|rfl
 ·exact c12
 ·exact c208
 ·exact c187)
def CD:ah:=CU prog XX
def aI {f:FuncId} {fn:Func} (i:bE prog f fn) {args:List Vl} {h:ae} {r:Vl×ae} (hX:XX f args h=none) (e:aV prog CD fn args h=some r):CD f args h=some r:=Cp i hX e
def ui {f:FuncId} {args:List Vl} {h:ae} {r:Vl×ae} (e:XX f args h=some r):CD f args h=some r:=yw e
def X208:XX 208=s208:=rfl
def X12:XX 12=s12:=rfl
def r12 {h:ae} (g:h.get 1=some cP):CD 12 [] h=some (.bool true,h):=ui (show XX 12 [] h=some (.bool true,h) from s12_eq g)
def CD_to {f:FuncId} {args:List Vl} {h:ae} {r:Vl×ae} (hG:3<=h.n0) (e:CD f args h=some r):CC prog XX f args h=some r:=CU_to iE XX_sound (by rw [iv];exact hG) e
section
variable (C:ah) (x:Nat->Vl) (x0 x1 x2 x3 x4 x5:Vl) (h:ae)
def b130_2 (C:ah) (i:Nat) (e:aO) (h:ae):aY:=if i=0 then (resultsA prog f130.results.toList) e h else (fun _ _ _=>none) i e h
def t130 (C:ah) (x0 x1:Vl) (h:ae):aY:=
 aa (some (x0,h)) fun a h=>
 aa (pu (aA prog .eql 234 a (.pointer none)) h) fun b h=>
 (match b with
 | .bool true=>
 some (.tuple #[],h)
 | .bool false=>
 dH (iter (codeA prog C (aq f130 [1,0,0])) az (aS 40 (up (bs [x0,x1]) [(6,a),(7,b)])) h) (resultsA prog f130.results.toList) (b130_2 C)
 |_=>none)
def pf (C:ah) (x:Nat->Vl) (h:ae):Option (Ex×aO×ae):=
 aa (some ((x 1),h)) fun b h=>
 aa (pu (cg b) h) fun c h=>
 aa (pu (aA prog .gtr 3 c (.int .i64 0)) h) fun d h=>
 (match d with
 | .bool true=>
 aa (some ((x 0),h)) fun j h=>
 aa (pu (nilCheckA j) h) fun k h=>
 aa (pu (aC k 72) h) fun l h=>
 aa (ld1 l h) fun m h=>
 aa (pu (aA prog .rem 3 m (.int .i64 64)) h) fun n h=>
 aa (some (n,h)) fun f h=>
 aa (some ((x 0),h)) fun o h=>
 aa (pu (nilCheckA o) h) fun p h=>
 aa (pu (aC p 8) h) fun q h=>
 aa (some (f,h)) fun r h=>
 aa (pu (sliceArr 64 1 q (some r) none none) h) fun s h=>
 aa (some ((x 1),h)) fun t h=>
 aa (js 1 s t h) fun u h=>
 aa (some (u,h)) fun a h=>
 aa (some ((x 0),h)) fun g h=>
 aa (pu (nilCheckA g) h) fun v h=>
 aa (pu (aC v 72) h) fun w h=>
 aa (ld1 w h) fun y h=>
 aa (some (a,h)) fun z h=>
 aa (pu (aA prog .add 3 y z) h) fun A h=>
 aa (pu (nilCheckA g) h) fun B h=>
 aa (pu (aC B 72) h) fun D h=>
 aa (bI 1 D A h) fun _ h=>
 aa (some ((x 1),h)) fun E h=>
 aa (some (a,h)) fun F h=>
 aa (pu (zR 1 E (some F) none none) h) fun G h=>
 aa (some (G,h)) fun I h=>
 aa (some (f,h)) fun dU h=>
 aa (some (a,h)) fun dI h=>
 aa (pu (aA prog .add 3 dU dI) h) fun ee h=>
 aa (pu (aA prog .eql 3 ee (.int .i64 64)) h) fun H h=>
 (match H with
 | .bool true=>
 aa (some ((x 0),h)) fun J h=>
 aa (C 187 [J] h) fun K h=>
 some (.normal,(aS 40 (up x [(1,I),(4,f),(5,a),(8,b),(9,c),(10,d),(11,j),(12,k),(13,l),(14,m),(15,n),(16,o),(17,p),(18,q),(19,r),(20,s),(21,t),(22,u),(23,g),(24,v),(25,w),(26,y),(27,z),(28,A),(29,B),(30,D),(31,E),(32,F),(33,G),(34,dU),(35,dI),(36,ee),(37,H),(38,J),(39,K)])),h)
 | .bool false=>
 some (.normal,(aS 40 (up x [(1,I),(4,f),(5,a),(8,b),(9,c),(10,d),(11,j),(12,k),(13,l),(14,m),(15,n),(16,o),(17,p),(18,q),(19,r),(20,s),(21,t),(22,u),(23,g),(24,v),(25,w),(26,y),(27,z),(28,A),(29,B),(30,D),(31,E),(32,F),(33,G),(34,dU),(35,dI),(36,ee),(37,H)])),h)
 |_=>none)
 | .bool false=>
 some (.exit 0,(aS 40 (up x [(8,b),(9,c),(10,d)])),h)
 |_=>none)
def t130_eq:aV prog C f130 [x0,x1] h=t130 C x0 x1 h:=
 lkT (by kernel_rfl) (by kernel_rfl)
def zj:codeA prog C (aq f130 [1,0,0]) (aS 40 x) h=pf C x h:=
 aW (T:=pf C) (fun x h=>by kernel_rfl) x h
def k131_9 (C:ah) (e:aO) (h:ae):aY:=codeK prog C (aq f131 [1,1,1,1,1,1,1,1]) e h (resultsA prog f131.results.toList) (resultsA prog f131.results.toList) (fun _ _ _=>none)
def b131_11 (C:ah) (i:Nat) (e:aO) (h:ae):aY:=if i=0 then (k131_9 C) e h else (fun _ _ _=>none) i e h
def k131_14 (C:ah) (e:aO) (h:ae):aY:=codeK prog C (aq f131 [1,1,1,1,1,1,1,1,1,1,1]) e h (resultsA prog f131.results.toList) (resultsA prog f131.results.toList) (fun _ _ _=>none)
def b131_16 (C:ah) (i:Nat) (e:aO) (h:ae):aY:=if i=2 then (k131_14 C) e h else (fun _ _ _=>none) i e h
def t131 (C:ah) (x0:Vl) (h:ae):aY:=
 aa (cO (List.replicate 32 (.int .u8 0)) h) fun a h=>
 aa (some (x0,h)) fun b h=>
 aa (pu (aA prog .eql 234 b (.pointer none)) h) fun c h=>
 (match c with
 | .bool true=>
 aa (pu (cN (List.replicate 32 (.int .u8 0)) []) h) fun d h=>
 aa (bI 32 a d h) fun _ h=>
 resultsA prog f131.results.toList (aS 66 (up (bs [x0]) [(2,a),(10,b),(11,c),(12,d)])) h
 | .bool false=>
 aa (some (x0,h)) fun f h=>
 aa (pu (nilCheckA f) h) fun g h=>
 aa (bQ 73 g h) fun j h=>
 aa (cO zlit2 h) fun k h=>
 aa (bI 73 k j h) fun _ h=>
 aa (cO (List.replicate 72 (.int .u8 0)) h) fun l h=>
 aa (pu (idxA 72 1 l (.int .i64 0)) h) fun m h=>
 aa (bI 1 m (.int .u8 128) h) fun _ h=>
 aa (some (x0,h)) fun n h=>
 aa (pu (nilCheckA n) h) fun o h=>
 aa (pu (aC o 72) h) fun p h=>
 aa (ld1 p h) fun q h=>
 aa (pu (aA prog .add 3 q (.int .i64 8)) h) fun r h=>
 aa (pu (aA prog .rem 3 r (.int .i64 64)) h) fun s h=>
 aa (pu (aA prog .sub 3 (.int .i64 64) s) h) fun t h=>
 aa (some (t,h)) fun B h=>
 aa (some (x0,h)) fun u h=>
 aa (pu (nilCheckA u) h) fun v h=>
 aa (pu (aC v 72) h) fun w h=>
 aa (ld1 w h) fun y h=>
 aa (iQ .u64 y h) fun z h=>
 aa (pu (aA prog .mul 52 z (.int .u64 8)) h) fun A h=>
 aa (some (A,h)) fun D h=>
 aa (some ((.int .i64 0),h)) fun E h=>
 dH (iter (codeA prog C (aq f131 [1,1,1,1,1,1,1,0,1,0,0])) az (aS 66 (up (bs [x0]) [(2,a),(3,k),(4,l),(5,B),(6,D),(10,b),(11,c),(13,f),(14,g),(15,j),(16,m),(17,n),(18,o),(19,p),(20,q),(21,r),(22,s),(23,t),(24,u),(25,v),(26,w),(27,y),(28,z),(29,A),(30,E)])) h) (resultsA prog f131.results.toList) (b131_11 C)
 |_=>none)
def rY (C:ah) (x:Nat->Vl) (h:ae):aY:=
 aa (some ((x 5),h)) fun a h=>
 aa (pu (aA prog .add 3 a (.int .i64 8)) h) fun b h=>
 aa (pu (sliceArr 72 1 (x 4) none (some b) none) h) fun c h=>
 aa (C 130 [(x 3),c] h) fun d h=>
 aa (cO (List.replicate 32 (.int .u8 0)) h) fun f h=>
 aa (some ((.int .i64 0),h)) fun g h=>
 dH (iter (codeA prog C (aq f131 [1,1,1,1,1,1,1,1,1,1,0,1,0,0])) az (aS 66 (up x [(8,f),(44,a),(45,b),(46,c),(47,d),(48,g)])) h) (resultsA prog f131.results.toList) (b131_16 C)
def iu (C:ah) (x:Nat->Vl) (h:ae):Option (Ex×aO×ae):=
 aa (pu (aA prog .lss 3 (x 30) (.int .i64 8)) h) fun a h=>
 (match a with
 | .bool true=>
 aa (some ((x 30),h)) fun c h=>
 aa (some (c,h)) fun b h=>
 aa (some ((x 5),h)) fun d h=>
 aa (some (b,h)) fun dU h=>
 aa (pu (aA prog .add 3 d dU) h) fun dI h=>
 aa (some ((x 6),h)) fun ee h=>
 aa (some (b,h)) fun f h=>
 aa (pu (aA prog .mul 3 (.int .i64 8) f) h) fun g h=>
 aa (pu (aA prog .sub 3 (.int .i64 56) g) h) fun j h=>
 aa (pu (aA prog .shr 52 ee j) h) fun k h=>
 aa (iQ .u8 k h) fun l h=>
 aa (pu (idxA 72 1 (x 4) dI) h) fun m h=>
 aa (bI 1 m l h) fun _ h=>
 aa (pu (aA prog .add 3 (x 30) (.int .i64 1)) h) fun n h=>
 aa (some (n,h)) fun o h=>
 some (.normal,(aS 66 (up x [(7,b),(30,o),(31,a),(32,c),(33,d),(34,dU),(35,dI),(36,ee),(37,f),(38,g),(39,j),(40,k),(41,l),(42,m),(43,n)])),h)
 | .bool false=>
 some (.exit 0,(aS 66 (up x [(31,a)])),h)
 |_=>none)
def qy (C:ah) (x:Nat->Vl) (h:ae):aY:=
 aa (bQ 32 (x 8) h) fun a h=>
 aa (bI 32 (x 2) a h) fun _ h=>
 resultsA prog f131.results.toList (aS 66 (up x [(65,a)])) h
def fB (C:ah) (x:Nat->Vl) (h:ae):Option (Ex×aO×ae):=
 aa (pu (aA prog .lss 3 (x 48) (.int .i64 32)) h) fun b h=>
 (match b with
 | .bool true=>
 aa (some ((x 48),h)) fun gP h=>
 aa (some (gP,h)) fun a h=>
 aa (some (a,h)) fun fU h=>
 aa (some (a,h)) fun fD h=>
 aa (pu (aA prog .quo 3 fD (.int .i64 4)) h) fun c h=>
 aa (pu (aC (x 3) 0) h) fun d h=>
 aa (pu (idxA 8 1 d c) h) fun f h=>
 aa (ld1 f h) fun g h=>
 aa (some (a,h)) fun j h=>
 aa (pu (aA prog .rem 3 j (.int .i64 4)) h) fun k h=>
 aa (pu (aA prog .mul 3 (.int .i64 8) k) h) fun l h=>
 aa (pu (aA prog .sub 3 (.int .i64 24) l) h) fun m h=>
 aa (pu (aA prog .shr 186 g m) h) fun n h=>
 aa (iQ .u8 n h) fun o h=>
 aa (pu (idxA 32 1 (x 8) fU) h) fun p h=>
 aa (bI 1 p o h) fun _ h=>
 aa (pu (aA prog .add 3 (x 48) (.int .i64 1)) h) fun q h=>
 aa (some (q,h)) fun r h=>
 some (.normal,(aS 66 (up x [(9,a),(48,r),(49,b),(50,gP),(51,fU),(52,fD),(53,c),(54,d),(55,f),(56,g),(57,j),(58,k),(59,l),(60,m),(61,n),(62,o),(63,p),(64,q)])),h)
 | .bool false=>
 some (.exit 2,(aS 66 (up x [(49,b)])),h)
 |_=>none)
def t131_eq:aV prog C f131 [x0] h=t131 C x0 h:=
 lkT (by kernel_rfl) (by kernel_rfl)
def Ak:k131_9 C (aS 66 x) h=rY C x h:=
 bg (T:=rY C) (fun x h=>by kernel_rfl) x h
def nP:codeA prog C (aq f131 [1,1,1,1,1,1,1,0,1,0,0]) (aS 66 x) h=iu C x h:=
 aW (T:=iu C) (fun x h=>by kernel_rfl) x h
def yS:k131_14 C (aS 66 x) h=qy C x h:=
 bg (T:=qy C) (fun x h=>by kernel_rfl) x h
def ma:codeA prog C (aq f131 [1,1,1,1,1,1,1,1,1,1,0,1,0,0]) (aS 66 x) h=fB C x h:=
 aW (T:=fB C) (fun x h=>by kernel_rfl) x h
def t67 (C:ah) (x0:Vl) (h:ae):aY:=
 aa (cO (List.replicate 32 (.int .u8 0)) h) fun b h=>
 aa (C 129 [] h) fun c h=>
 aa (some (c,h)) fun a h=>
 aa (some (a,h)) fun d h=>
 aa (some (x0,h)) fun f h=>
 aa (C 130 [d,f] h) fun k h=>
 aa (some (a,h)) fun g h=>
 aa (C 131 [g] h) fun j h=>
 aa (bI 32 b j h) fun _ h=>
 resultsA prog f67.results.toList (aS 10 (up (bs [x0]) [(2,b),(3,a),(4,c),(5,d),(6,f),(7,k),(8,g),(9,j)])) h
def t67_eq:aV prog C f67 [x0] h=t67 C x0 h:=
 lkT (by kernel_rfl) (by kernel_rfl)
def t70 (C:ah) (x0 x1:Vl) (h:ae):aY:=
 aa (cO (List.replicate 32 (.int .u8 0)) h) fun b h=>
 aa (C 129 [] h) fun c h=>
 aa (some (c,h)) fun a h=>
 aa (some (a,h)) fun d h=>
 aa (some (x0,h)) fun f h=>
 aa (pu (aA prog .shr 3 f (.int .u64 8)) h) fun g h=>
 aa (iQ .u8 g h) fun j h=>
 aa (some (x0,h)) fun k h=>
 aa (iQ .u8 k h) fun l h=>
 aa (gK 1 (.int .u8 0) 2 [(0,j),(1,l)] h) fun m h=>
 aa (C 130 [d,m] h) fun r h=>
 aa (some (a,h)) fun n h=>
 aa (some (x1,h)) fun o h=>
 aa (C 130 [n,o] h) fun s h=>
 aa (some (a,h)) fun p h=>
 aa (C 131 [p] h) fun q h=>
 aa (bI 32 b q h) fun _ h=>
 resultsA prog f70.results.toList (aS 20 (up (bs [x0,x1]) [(4,b),(5,a),(6,c),(7,d),(8,f),(9,g),(10,j),(11,k),(12,l),(13,m),(14,r),(15,n),(16,o),(17,s),(18,p),(19,q)])) h
def t70_eq:aV prog C f70 [x0,x1] h=t70 C x0 x1 h:=
 lkT (by kernel_rfl) (by kernel_rfl)
def t24 (C:ah) (x0:Vl) (h:ae):aY:=
 aa (box x0 h) fun d h=>
 aa (cO (List.replicate 32 (.int .u8 0)) h) fun a h=>
 aa (some ((.int .i64 0),h)) fun t h=>
 aa (bQ 37 d h) fun f h=>
 aa (C 66 [f] h) fun g h=>
 aa (some (g,h)) fun b h=>
 aa (pu (extractA b 0) h) fun j h=>
 aa (pu (extractA b 1) h) fun k h=>
 aa (some (j,h)) fun l h=>
 aa (some (k,h)) fun c h=>
 aa (some (c,h)) fun m h=>
 aa (pu (aA prog .neq 25 m (.int .i64 0)) h) fun n h=>
 (match n with
 | .bool true=>
 aa (pu (cN (List.replicate 32 (.int .u8 0)) []) h) fun p h=>
 aa (some (c,h)) fun q h=>
 aa (bI 32 a p h) fun _ h=>
 aa (some (q,h)) fun o h=>
 resultsA prog f24.results.toList (aS 17 (up (bs [x0]) [(1,d),(2,a),(3,o),(4,l),(5,c),(6,b),(7,f),(8,g),(9,j),(10,k),(11,m),(12,n),(13,p),(14,q)])) h
 | .bool false=>
 aa (some (l,h)) fun r h=>
 aa (C 67 [r] h) fun s h=>
 aa (bI 32 a s h) fun _ h=>
 aa (some ((.int .i64 0),h)) fun o h=>
 resultsA prog f24.results.toList (aS 17 (up (bs [x0]) [(1,d),(2,a),(3,o),(4,l),(5,c),(6,b),(7,f),(8,g),(9,j),(10,k),(11,m),(12,n),(15,r),(16,s)])) h
 |_=>none)
def t24_eq:aV prog C f24 [x0] h=t24 C x0 h:=
 lkT (by kernel_rfl) (by kernel_rfl)
def t25 (C:ah) (x0 x1:Vl) (h:ae):aY:=
 aa (box x0 h) fun d h=>
 aa (box x1 h) fun b h=>
 aa (some ((.int .i64 0),h)) fun W h=>
 aa (bQ 37 d h) fun p h=>
 aa (C 68 [p] h) fun q h=>
 aa (some (q,h)) fun f h=>
 aa (some (f,h)) fun r h=>
 aa (pu (aA prog .neq 25 r (.int .i64 0)) h) fun s h=>
 (match s with
 | .bool true=>
 aa (some (f,h)) fun u h=>
 aa (some (u,h)) fun a h=>
 some (a,h)
 | .bool false=>
 aa (pu (aC b 0) h) fun v h=>
 aa (ld1 v h) fun w h=>
 aa (pu (aA prog .lss 3 w (.int .i64 0)) h) fun y h=>
 aa (some (y,h)) fun c h=>
 aa (al (bt c==some false) (pu (aC b 0) h) h) fun z h=>
 aa (al (bt c==some false) (ld1 z h) h) fun A h=>
 aa (al (bt c==some false) (pu (aC d 2) h) h) fun B h=>
 aa (al (bt c==some false) (ld1 B h) h) fun D h=>
 aa (al (bt c==some false) (pu (aA prog .geq 3 A D) h) h) fun E h=>
 aa (match c with | .bool t=>some (if t then (.bool true) else E,h)|_=>none) fun F h=>
 (match F with
 | .bool true=>
 aa (some ((.int .i64 2),h)) fun a h=>
 some (a,h)
 | .bool false=>
 aa (pu (aC d 0) h) fun G h=>
 aa (ld1 G h) fun H h=>
 aa (pu (aC d 3) h) fun I h=>
 aa (ld1 I h) fun J h=>
 aa (C 69 [H,J] h) fun K h=>
 aa (some (K,h)) fun g h=>
 aa (pu (extractA g 0) h) fun L h=>
 aa (pu (extractA g 1) h) fun M h=>
 aa (some (L,h)) fun N h=>
 aa (some (M,h)) fun X h=>
 aa (pu (aC b 1) h) fun O h=>
 aa (ld1 O h) fun P h=>
 aa (pu (cg P) h) fun Q h=>
 aa (some (N,h)) fun dU h=>
 aa (pu (aA prog .neq 3 Q dU) h) fun dI h=>
 (match dI with
 | .bool true=>
 aa (some ((.int .i64 10),h)) fun a h=>
 some (a,h)
 | .bool false=>
 let g14_0:=h
 aa (pu (aC b 0) g14_0) fun ee g14_1=>
 aa (ld1 ee g14_1) fun R g14_2=>
 aa (pu (aC b 1) g14_2) fun S g14_3=>
 aa (ld1 S g14_3) fun T g14_4=>
 aa (C 70 [R,T] g14_4) fun U g14_5=>
 aa (pu (aC d 36) g14_5) fun j g14_6=>
 aa (ld1 j g14_6) fun k g14_7=>
 aa (pu (aC b 0) g14_7) fun l g14_8=>
 aa (ld1 l g14_8) fun m g14_9=>
 aa (pu (idxS 32 k m) g14_9) fun n g14_10=>
 aa (bQ 32 n g14_10) fun o g14_11=>
 aa (pu (aA prog .neq 32 U o) g14_11) fun V g14_12=>
 (match (dW true (ld1 j g14_4) k&&(dW true (ld1 l g14_4) m&&(dW true (bQ 32 n g14_4) o&&true))) with
 |true=>
 let h:=g14_12
 (match V with
 | .bool true=>
 aa (some ((.int .i64 20),h)) fun a h=>
 some (a,h)
 | .bool false=>
 aa (some ((.int .i64 0),h)) fun a h=>
 some (a,h)
 |_=>none)
 |false=>none)
 |_=>none)
 |_=>none)
 |_=>none)
def xG:aV prog C f25 [x0,x1] h=t25 C x0 x1 h:=
 lkT (by kernel_rfl) (by kernel_rfl)
def k66_12 (C:ah) (e:aO) (h:ae):aY:=codeK prog C (aq f66 [1,1,1,1,1,1,1,1,1,1]) e h (resultsA prog f66.results.toList) (resultsA prog f66.results.toList) (fun _ _ _=>none)
def b66_14 (C:ah) (i:Nat) (e:aO) (h:ae):aY:=if i=0 then (k66_12 C) e h else (fun _ _ _=>none) i e h
def t66 (C:ah) (x0:Vl) (h:ae):aY:=
 aa (box x0 h) fun a h=>
 aa (some ((.slice none 0 0),h)) fun L h=>
 aa (some ((.int .i64 0),h)) fun M h=>
 aa (bQ 37 a h) fun d h=>
 aa (C 68 [d] h) fun f h=>
 aa (some (f,h)) fun c h=>
 aa (some (c,h)) fun g h=>
 aa (pu (aA prog .neq 25 g (.int .i64 0)) h) fun j h=>
 (match j with
 | .bool true=>
 aa (some (c,h)) fun N h=>
 aa (some ((.slice none 0 0),h)) fun O h=>
 aa (some (N,h)) fun P h=>
 some (.tuple #[O,P],h)
 | .bool false=>
 aa (pu (aC a 2) h) fun k h=>
 aa (ld1 k h) fun l h=>
 aa (pu (aA prog .mul 3 (.int .i64 32) l) h) fun m h=>
 aa (pu (aA prog .add 3 (.int .i64 39) m) h) fun n h=>
 aa (C 116 [n] h) fun o h=>
 aa (some (o,h)) fun b h=>
 aa (some (b,h)) fun p h=>
 aa (C 118 [p,(.int .u16 19713)] h) fun Q h=>
 aa (some (b,h)) fun q h=>
 aa (pu (aC a 0) h) fun r h=>
 aa (ld1 r h) fun s h=>
 aa (iQ .u8 s h) fun t h=>
 aa (C 117 [q,t] h) fun R h=>
 aa (some (b,h)) fun u h=>
 aa (pu (aC a 1) h) fun v h=>
 aa (ld1 v h) fun w h=>
 aa (iQ .u8 w h) fun y h=>
 aa (C 117 [u,y] h) fun S h=>
 aa (some (b,h)) fun z h=>
 aa (pu (aC a 2) h) fun A h=>
 aa (ld1 A h) fun B h=>
 aa (iQ .u8 B h) fun D h=>
 aa (C 117 [z,D] h) fun dU h=>
 aa (some (b,h)) fun dI h=>
 aa (pu (aC a 3) h) fun ee h=>
 aa (ld1 ee h) fun E h=>
 aa (iQ .u16 E h) fun F h=>
 aa (C 118 [dI,F] h) fun T h=>
 aa (some (b,h)) fun G h=>
 aa (pu (aC a 4) h) fun H h=>
 aa (pu (sliceArr 32 1 H none none none) h) fun I h=>
 aa (C 120 [G,I] h) fun U h=>
 aa (pu (aC a 36) h) fun J h=>
 aa (ld1 J h) fun K h=>
 aa (pu (cg K) h) fun V h=>
 aa (some ((.int .i64 0),h)) fun W h=>
 dH (iter (codeA prog C (aq f66 [1,1,1,1,1,1,1,1,1,0,1,0,0])) az (aS 59 (up (bs [x0]) [(1,a),(2,L),(3,M),(4,c),(5,b),(8,d),(9,f),(10,g),(11,j),(13,k),(14,l),(15,m),(16,n),(17,o),(18,p),(19,Q),(20,q),(21,r),(22,s),(23,t),(24,R),(25,u),(26,v),(27,w),(28,y),(29,S),(30,z),(31,A),(32,B),(33,D),(34,dU),(35,dI),(36,ee),(37,E),(38,F),(39,T),(40,G),(41,H),(42,I),(43,U),(44,J),(45,K),(46,V),(47,W)])) h) (resultsA prog f66.results.toList) (b66_14 C)
 |_=>none)
def uQ (C:ah) (x:Nat->Vl) (h:ae):aY:=
 aa (some ((x 5),h)) fun b h=>
 aa (C 121 [b] h) fun a h=>
 aa (pu (extractA a 0) h) fun c h=>
 aa (pu (extractA a 1) h) fun d h=>
 aa (some (c,h)) fun f h=>
 aa (some (d,h)) fun g h=>
 some (.tuple #[f,g],h)
def fa (C:ah) (x:Nat->Vl) (h:ae):Option (Ex×aO×ae):=
 aa (pu (aA prog .lss 3 (x 47) (x 46)) h) fun a h=>
 (match a with
 | .bool true=>
 aa (pu (idxS 32 (x 45) (x 47)) h) fun c h=>
 aa (bQ 32 c h) fun gP h=>
 aa (cO (List.replicate 32 (.int .u8 0)) h) fun b h=>
 aa (bI 32 b gP h) fun _ h=>
 aa (some ((x 5),h)) fun fU h=>
 aa (pu (sliceArr 32 1 b none none none) h) fun fD h=>
 aa (C 120 [fU,fD] h) fun f h=>
 aa (pu (aA prog .add 3 (x 47) (.int .i64 1)) h) fun d h=>
 aa (some (d,h)) fun g h=>
 some (.normal,(aS 59 (up x [(7,b),(47,g),(48,a),(49,c),(50,gP),(51,fU),(52,fD),(53,f),(54,d)])),h)
 | .bool false=>
 some (.exit 0,(aS 59 (up x [(48,a)])),h)
 |_=>none)
def t66_eq:aV prog C f66 [x0] h=t66 C x0 h:=
 lkT (by kernel_rfl) (by kernel_rfl)
def BM:k66_12 C (aS 59 x) h=uQ C x h:=
 bg (T:=uQ C) (fun x h=>by kernel_rfl) x h
def nM:codeA prog C (aq f66 [1,1,1,1,1,1,1,1,1,0,1,0,0]) (aS 59 x) h=fa C x h:=
 aW (T:=fa C) (fun x h=>by kernel_rfl) x h
def Bl (C:ah) (e:aO) (h:ae):aY:=codeK prog C (aq f173 [1,1,1,1,1,1,1,1,1]) e h (resultsA prog f173.results.toList) (resultsA prog f173.results.toList) (fun _ _ _=>none)
def CK (C:ah) (i:Nat) (e:aO) (h:ae):aY:=if i=0 then (Bl C) e h else (fun _ _ _=>none) i e h
def t173 (C:ah) (x0:Vl) (h:ae):aY:=
 aa (cO dP h) fun c h=>
 aa (some ((.int .i64 0),h)) fun Y h=>
 aa (some (x0,h)) fun g h=>
 aa (C 110 [g] h) fun j h=>
 aa (some (j,h)) fun a h=>
 aa (some (a,h)) fun k h=>
 aa (C 168 [k] h) fun l h=>
 aa (some (l,h)) fun m h=>
 aa (some (a,h)) fun n h=>
 aa (C 111 [n] h) fun o h=>
 aa (iQ .i64 o h) fun p h=>
 aa (some (a,h)) fun q h=>
 aa (C 111 [q] h) fun r h=>
 aa (iQ .i64 r h) fun s h=>
 aa (some (a,h)) fun u h=>
 aa (C 111 [u] h) fun v h=>
 aa (iQ .i64 v h) fun w h=>
 aa (some (a,h)) fun y h=>
 aa (C 168 [y] h) fun z h=>
 aa (iQ .i64 z h) fun A h=>
 aa (pu (cN dP [(0,1,p),(1,1,s),(2,1,w),(3,1,A)]) h) fun B h=>
 aa (cO dP h) fun b h=>
 aa (bI 37 b B h) fun _ h=>
 aa (some (a,h)) fun D h=>
 aa (C 170 [D] h) fun E h=>
 aa (some (E,h)) fun d h=>
 aa (some (d,h)) fun F h=>
 aa (pu (aA prog .neq 25 F (.int .i64 0)) h) fun G h=>
 (match G with
 | .bool true=>
 aa (pu (cN dP []) h) fun U h=>
 aa (some (d,h)) fun V h=>
 aa (bI 37 c U h) fun _ h=>
 aa (some (V,h)) fun H h=>
 resultsA prog f173.results.toList (aS 71 (up (bs [x0]) [(2,c),(3,H),(4,a),(5,m),(6,b),(7,d),(9,g),(10,j),(11,k),(12,l),(13,n),(14,o),(15,p),(16,q),(17,r),(18,s),(19,u),(20,v),(21,w),(22,y),(23,z),(24,A),(25,B),(26,D),(27,E),(28,F),(29,G),(30,U),(31,V)])) h
 | .bool false=>
 aa (some (m,h)) fun I h=>
 aa (pu (aA prog .neq 222 I (.int .u16 19713)) h) fun J h=>
 (match J with
 | .bool true=>
 aa (pu (cN dP []) h) fun dU h=>
 aa (bI 37 c dU h) fun _ h=>
 aa (some ((.int .i64 5),h)) fun H h=>
 resultsA prog f173.results.toList (aS 71 (up (bs [x0]) [(2,c),(3,H),(4,a),(5,m),(6,b),(7,d),(9,g),(10,j),(11,k),(12,l),(13,n),(14,o),(15,p),(16,q),(17,r),(18,s),(19,u),(20,v),(21,w),(22,y),(23,z),(24,A),(25,B),(26,D),(27,E),(28,F),(29,G),(32,I),(33,J),(34,dU)])) h
 | .bool false=>
 aa (pu (aC b 0) h) fun dI h=>
 aa (ld1 dI h) fun ee h=>
 aa (pu (aC b 1) h) fun K h=>
 aa (ld1 K h) fun L h=>
 aa (pu (aC b 2) h) fun M h=>
 aa (ld1 M h) fun N h=>
 aa (C 103 [ee,L,N] h) fun O h=>
 aa (pu (unA .not O) h) fun P h=>
 aa (some (P,h)) fun f h=>
 aa (al (bt f==some false) (pu (aC b 3) h) h) fun Q h=>
 aa (al (bt f==some false) (ld1 Q h) h) fun R h=>
 aa (al (bt f==some false) (pu (aA prog .gtr 3 R (.int .i64 8192)) h) h) fun S h=>
 aa (match f with | .bool t=>some (if t then (.bool true) else S,h)|_=>none) fun T h=>
 (match T with
 | .bool true=>
 aa (pu (cN dP []) h) fun W h=>
 aa (bI 37 c W h) fun _ h=>
 aa (some ((.int .i64 2),h)) fun H h=>
 resultsA prog f173.results.toList (aS 71 (up (bs [x0]) [(2,c),(3,H),(4,a),(5,m),(6,b),(7,d),(9,g),(10,j),(11,k),(12,l),(13,n),(14,o),(15,p),(16,q),(17,r),(18,s),(19,u),(20,v),(21,w),(22,y),(23,z),(24,A),(25,B),(26,D),(27,E),(28,F),(29,G),(32,I),(33,J),(35,dI),(36,ee),(37,K),(38,L),(39,M),(40,N),(41,O),(42,P),(43,f),(44,Q),(45,R),(46,S),(47,T),(48,W)])) h
 | .bool false=>
 aa (some (a,h)) fun X h=>
 aa (C 210 [X] h) fun gP h=>
 aa (pu (aC b 4) h) fun fU h=>
 aa (bI 32 fU gP h) fun _ h=>
 aa (pu (aC b 2) h) fun fD h=>
 aa (ld1 fD h) fun Z h=>
 aa (some ((.int .i64 0),h)) fun a0 h=>
 dH (iter (codeA prog C (aq f173 [1,1,1,1,1,1,1,1,0,1,0,0])) az (aS 71 (up (bs [x0]) [(2,c),(3,Y),(4,a),(5,m),(6,b),(7,d),(9,g),(10,j),(11,k),(12,l),(13,n),(14,o),(15,p),(16,q),(17,r),(18,s),(19,u),(20,v),(21,w),(22,y),(23,z),(24,A),(25,B),(26,D),(27,E),(28,F),(29,G),(32,I),(33,J),(35,dI),(36,ee),(37,K),(38,L),(39,M),(40,N),(41,O),(42,P),(43,f),(44,Q),(45,R),(46,S),(47,T),(49,X),(50,gP),(51,fU),(52,fD),(53,Z),(54,a0)])) h) (resultsA prog f173.results.toList) (CK C)
 |_=>none)
 |_=>none)
 |_=>none)
def po (C:ah) (x:Nat->Vl) (h:ae):aY:=
 aa (some ((x 4),h)) fun b h=>
 aa (C 211 [b] h) fun c h=>
 aa (some (c,h)) fun a h=>
 aa (some (a,h)) fun d h=>
 aa (pu (aA prog .neq 25 d (.int .i64 0)) h) fun f h=>
 (match f with
 | .bool true=>
 aa (pu (cN dP []) h) fun j h=>
 aa (some (a,h)) fun k h=>
 aa (bI 37 (x 2) j h) fun _ h=>
 aa (some (k,h)) fun g h=>
 resultsA prog f173.results.toList (aS 71 (up x [(3,g),(8,a),(64,b),(65,c),(66,d),(67,f),(68,j),(69,k)])) h
 | .bool false=>
 aa (bQ 37 (x 6) h) fun l h=>
 aa (bI 37 (x 2) l h) fun _ h=>
 aa (some ((.int .i64 0),h)) fun g h=>
 resultsA prog f173.results.toList (aS 71 (up x [(3,g),(8,a),(64,b),(65,c),(66,d),(67,f),(70,l)])) h
 |_=>none)
def ez (C:ah) (x:Nat->Vl) (h:ae):Option (Ex×aO×ae):=
 aa (pu (aA prog .lss 3 (x 54) (x 53)) h) fun a h=>
 (match a with
 | .bool true=>
 let g27_0:=h
 aa (pu (aC (x 6) 36) g27_0) fun b g27_1=>
 aa (ld1 b g27_1) fun c g27_2=>
 aa (some ((x 4),g27_2)) fun d g27_3=>
 aa (C 210 [d] g27_3) fun f g27_4=>
 aa (gK 32 (.agg (List.replicate 32 (.int .u8 0)).toArray) 1 [(0,f)] g27_4) fun g g27_5=>
 aa (appendA 32 32 c g g27_5) fun j g27_6=>
 aa (pu (aC (x 6) 36) g27_6) fun k g27_7=>
 aa (bI 1 k j g27_7) fun _ g27_8=>
 (match (dW true (ld1 b g27_4) c&&true) with
 |true=>
 let h:=g27_8
 aa (pu (aA prog .add 3 (x 54) (.int .i64 1)) h) fun l h=>
 aa (some (l,h)) fun m h=>
 some (.normal,(aS 71 (up x [(54,m),(55,a),(56,b),(57,c),(58,d),(59,f),(60,g),(61,j),(62,k),(63,l)])),h)
 |false=>none)
 | .bool false=>
 some (.exit 0,(aS 71 (up x [(55,a)])),h)
 |_=>none)
def wQ:aV prog C f173 [x0] h=t173 C x0 h:=
 lkT (by kernel_rfl) (by kernel_rfl)
def ym:Bl C (aS 71 x) h=po C x h:=
 bg (T:=po C) (fun x h=>by kernel_rfl) x h
def nu:codeA prog C (aq f173 [1,1,1,1,1,1,1,1,0,1,0,0]) (aS 71 x) h=ez C x h:=
 aW (T:=ez C) (fun x h=>by kernel_rfl) x h
def t113 (C:ah) (x0:Vl) (h:ae):aY:=
 aa (cO dP h) fun c h=>
 aa (cO [(.int .i64 0),(.slice none 0 0)] h) fun b h=>
 aa (cO (List.replicate 32 (.int .u8 0)) h) fun a h=>
 aa (some ((.bool false),h)) fun a2 h=>
 aa (some (x0,h)) fun m h=>
 aa (C 110 [m] h) fun n h=>
 aa (some (n,h)) fun d h=>
 aa (some (d,h)) fun o h=>
 aa (C 111 [o] h) fun p h=>
 aa (some (p,h)) fun q h=>
 aa (some (d,h)) fun r h=>
 aa (C 168 [r] h) fun s h=>
 aa (iQ .i64 s h) fun u h=>
 aa (pu (aC b 0) h) fun v h=>
 aa (bI 1 v u h) fun _ h=>
 aa (some (d,h)) fun w h=>
 aa (C 174 [w] h) fun y h=>
 aa (C 173 [y] h) fun z h=>
 aa (some (z,h)) fun j h=>
 aa (pu (extractA j 0) h) fun A h=>
 aa (pu (extractA j 1) h) fun B h=>
 aa (bI 37 c A h) fun _ h=>
 aa (some (B,h)) fun D h=>
 aa (some (d,h)) fun E h=>
 aa (some (d,h)) fun F h=>
 aa (C 175 [F] h) fun G h=>
 aa (C 169 [E,G] h) fun H h=>
 aa (pu (aC b 1) h) fun I h=>
 aa (bI 1 I H h) fun _ h=>
 aa (some (q,h)) fun J h=>
 aa (pu (aA prog .neq 155 J (.int .u8 2)) h) fun K h=>
 aa (some (K,h)) fun g h=>
 aa (al (bt g==some false) (some (d,h)) h) fun L h=>
 aa (al (bt g==some false) (C 170 [L] h) h) fun M h=>
 aa (al (bt g==some false) (pu (aA prog .neq 25 M (.int .i64 0)) h) h) fun N h=>
 aa (match g with | .bool t=>some (if t then (.bool true) else N,h)|_=>none) fun dU h=>
 aa (some (dU,h)) fun dI h=>
 aa (al (bt dI==some false) (some (D,h)) h) fun ee h=>
 aa (al (bt dI==some false) (pu (aA prog .neq 25 ee (.int .i64 0)) h) h) fun O h=>
 aa (match dI with | .bool t=>some (if t then (.bool true) else O,h)|_=>none) fun P h=>
 aa (some (P,h)) fun f h=>
 aa (al (bt f==some false) (bQ 37 c h) h) fun Q h=>
 aa (al (bt f==some false) (bQ 2 b h) h) fun R h=>
 aa (al (bt f==some false) (C 25 [Q,R] h) h) fun S h=>
 aa (al (bt f==some false) (pu (aA prog .neq 25 S (.int .i64 0)) h) h) fun T h=>
 aa (match f with | .bool t=>some (if t then (.bool true) else T,h)|_=>none) fun U h=>
 (match U with
 | .bool true=>
 let g9_0:=h
 aa (pu (cN dP []) g9_0) fun Y g9_1=>
 aa (pu (cN [(.int .i64 0),(.slice none 0 0)] []) g9_1) fun Z g9_2=>
 aa (bQ 32 a g9_2) fun k g9_3=>
 aa (bI 37 c Y g9_3) fun _ g9_4=>
 aa (bI 2 b Z g9_4) fun _ g9_5=>
 aa (bI 32 a k g9_5) fun _ g9_6=>
 aa (some ((.bool false),g9_6)) fun V g9_7=>
 (match (dW true (bQ 32 a g9_4) k&&(dW true (bQ 32 a g9_5) k&&true)) with
 |true=>
 let h:=g9_7
 resultsA prog f113.results.toList (aS 56 (up (bs [x0]) [(2,c),(3,b),(4,a),(5,V),(6,d),(7,q),(8,D),(9,m),(10,n),(11,o),(12,p),(13,r),(14,s),(15,u),(16,v),(17,j),(18,w),(19,y),(20,z),(21,A),(22,B),(23,E),(24,F),(25,G),(26,H),(27,I),(28,J),(29,K),(30,g),(31,L),(32,M),(33,N),(34,dU),(35,dI),(36,ee),(37,O),(38,P),(39,f),(40,Q),(41,R),(42,S),(43,T),(44,U),(45,Y),(46,Z),(47,k)])) h
 |false=>none)
 | .bool false=>
 aa (bQ 37 c h) fun a0 h=>
 aa (C 24 [a0] h) fun gP h=>
 aa (some (gP,h)) fun W h=>
 aa (pu (extractA W 0) h) fun fU h=>
 aa (pu (extractA W 1) h) fun fD h=>
 aa (bI 32 a fU h) fun _ h=>
 let g12_0:=h
 aa (bQ 37 c g12_0) fun a1 g12_1=>
 aa (bQ 2 b g12_1) fun X g12_2=>
 aa (bQ 32 a g12_2) fun l g12_3=>
 aa (bI 37 c a1 g12_3) fun _ g12_4=>
 aa (bI 2 b X g12_4) fun _ g12_5=>
 aa (bI 32 a l g12_5) fun _ g12_6=>
 aa (some ((.bool true),g12_6)) fun V g12_7=>
 (match (dW true (bQ 2 b g12_4) X&&(dW true (bQ 32 a g12_4) l&&(dW true (bQ 32 a g12_5) l&&true))) with
 |true=>
 let h:=g12_7
 resultsA prog f113.results.toList (aS 56 (up (bs [x0]) [(2,c),(3,b),(4,a),(5,V),(6,d),(7,q),(8,D),(9,m),(10,n),(11,o),(12,p),(13,r),(14,s),(15,u),(16,v),(17,j),(18,w),(19,y),(20,z),(21,A),(22,B),(23,E),(24,F),(25,G),(26,H),(27,I),(28,J),(29,K),(30,g),(31,L),(32,M),(33,N),(34,dU),(35,dI),(36,ee),(37,O),(38,P),(39,f),(40,Q),(41,R),(42,S),(43,T),(44,U),(48,W),(49,a0),(50,gP),(51,fU),(52,fD),(53,a1),(54,X),(55,l)])) h
 |false=>none)
 |_=>none)
def t113_eq:aV prog C f113 [x0] h=t113 C x0 h:=
 lkT (by kernel_rfl) (by kernel_rfl)
def t61 (C:ah) (x0 x1:Vl) (h:ae):aY:=
 aa (box x0 h) fun f h=>
 aa (box x1 h) fun b h=>
 aa (some ((.slice none 0 0),h)) fun F h=>
 aa (bQ 37 f h) fun g h=>
 aa (C 66 [g] h) fun j h=>
 aa (some (j,h)) fun c h=>
 aa (pu (extractA c 0) h) fun k h=>
 aa (pu (extractA c 1) h) fun l h=>
 aa (some (k,h)) fun m h=>
 aa (some (l,h)) fun G h=>
 aa (C 116 [(.int .i64 20000)] h) fun n h=>
 aa (some (n,h)) fun a h=>
 aa (some (a,h)) fun o h=>
 aa (C 117 [o,(.int .u8 2)] h) fun H h=>
 aa (some (a,h)) fun p h=>
 aa (pu (aC b 0) h) fun q h=>
 aa (ld1 q h) fun r h=>
 aa (iQ .u16 r h) fun s h=>
 aa (C 118 [p,s] h) fun I h=>
 aa (some (a,h)) fun t h=>
 aa (some (m,h)) fun u h=>
 aa (C 119 [t,u] h) fun J h=>
 aa (some (a,h)) fun v h=>
 aa (pu (aC b 1) h) fun w h=>
 aa (ld1 w h) fun y h=>
 aa (C 120 [v,y] h) fun K h=>
 aa (some (a,h)) fun z h=>
 aa (C 121 [z] h) fun A h=>
 aa (some (A,h)) fun d h=>
 aa (pu (extractA d 0) h) fun B h=>
 aa (pu (extractA d 1) h) fun dU h=>
 aa (some (B,h)) fun D h=>
 aa (some (dU,h)) fun L h=>
 aa (some (D,h)) fun dI h=>
 aa (some (dI,h)) fun E h=>
 some (E,h)
def t61_eq:aV prog C f61 [x0,x1] h=t61 C x0 x1 h:=
 lkT (by kernel_rfl) (by kernel_rfl)
def t74 (C:ah) (x0:Vl) (h:ae):aY:=
 aa (some ((.slice none 0 0),h)) fun q h=>
 aa (C 116 [(.int .i64 9)] h) fun c h=>
 aa (some (c,h)) fun a h=>
 aa (some (a,h)) fun d h=>
 aa (C 117 [d,(.int .u8 1)] h) fun r h=>
 aa (some (a,h)) fun f h=>
 aa (some (x0,h)) fun g h=>
 aa (C 133 [f,g] h) fun s h=>
 aa (some (a,h)) fun j h=>
 aa (C 121 [j] h) fun k h=>
 aa (some (k,h)) fun b h=>
 aa (pu (extractA b 0) h) fun l h=>
 aa (pu (extractA b 1) h) fun m h=>
 aa (some (l,h)) fun n h=>
 aa (some (m,h)) fun t h=>
 aa (some (n,h)) fun o h=>
 aa (some (o,h)) fun p h=>
 some (p,h)
def t74_eq:aV prog C f74 [x0] h=t74 C x0 h:=
 lkT (by kernel_rfl) (by kernel_rfl)
end
end
end Go.Proofs.YtdhpgacmgebjdaaGreatDoor.W
namespace Go.Proofs.YtdhpgacmgebjdaaGreatDoor.W
open Go Go.Abs
noncomputable section
def inI64 (n:Int):Bool:=decide (-9223372036854775808<=n)&&decide (n<=9223372036854775807)
def cost (n:Int):Int:=if n<=106 then 1 else (n-1)/106+1
def s3:List Vl->ae->aY
 | [.int .i64 n],h=>if inI64 n then some (.bool true,h) else none
 |_,_=>none
end
end Go.Proofs.YtdhpgacmgebjdaaGreatDoor.W
namespace Go.Proofs.YtdhpgacmgebjdaaGreatDoor.W
open Go Go.Abs Tryz
noncomputable section
structure Dk where
 bb:Nat
 n:Nat
 img:List Nat
 down:Bool
 armed:Bool
 after:Int
 keep:Int
 turn:Int
def Dk.hdr (D:Dk):eh := [.slice (some ⟨D.bb,0,none⟩) D.n D.n,.bool D.down,.bool D.armed,.int .i64 D.after,.int .i64 D.keep,.int .i64 D.turn]
structure bC (h:ae) (d:Nat) (D:Dk):Prop where
 hdr:h.get d=some D.hdr
 img:h.get D.bb=some (D.img.map u8)
 len:D.img.length=128*D.n
 byte : ∀ x∈D.img,x<256
 dn:h.n0<=d
 bn:h.n0<=D.bb
 ne:d≠D.bb
 small:D.n<=4096
 after:0<=D.after/\D.after<=9223372036854775807
 keep:0<=D.keep/\D.keep<=128
def u8_inj : ∀ {l m:List Nat},l.map u8=m.map u8->l=m
 | [],[],_=>rfl
 | [],_::_,h=>by simp at h
 |_::_,[],h=>by simp at h
 |a::l,b::m,h=>by simp only [FD,List.cons.injEq,Value.int.injEq,true_and,Int.natCast_inj] at h;rw [h.1,u8_inj h.2]
def bC.mono {h h':ae} {d:Nat} {D:Dk} (a:bC h d D) (hn:h'.n0=h.n0) (hg:h'.get d=h.get d) (hb:h'.get D.bb=h.get D.bb):bC h' d D:=
 ⟨hg.trans a.hdr,hb.trans a.img,a.len,a.byte,hn▸a.dn,hn▸a.bn,a.ne,a.small,a.after,a.keep⟩
section
variable {h:ae} {d:Nat} {D:Dk}
def bC.lt (a:bC h d D):d<h.next:=h.aL a.hdr
def bC.blt (a:bC h d D):D.bb<h.next:=h.aL a.img
def bC.l0 (a:bC h d D):ld1 (ptr d 0) h=some (.slice (some ⟨D.bb,0,none⟩) D.n D.n,h):=aH a.hdr rfl
def bC.l1 (a:bC h d D):ld1 (ptr d 1) h=some (.bool D.down,h):=aH a.hdr rfl
def bC.l2 (a:bC h d D):ld1 (ptr d 2) h=some (.bool D.armed,h):=aH a.hdr rfl
def bC.l3 (a:bC h d D):ld1 (ptr d 3) h=some (.int .i64 D.after,h):=aH a.hdr rfl
def bC.l4 (a:bC h d D):ld1 (ptr d 4) h=some (.int .i64 D.keep,h):=aH a.hdr rfl
def bC.l5 (a:bC h d D):ld1 (ptr d 5) h=some (.int .i64 D.turn,h):=aH a.hdr rfl
def bC.s1 (a:bC h d D) (b:Bool):bI 1 (ptr d 1) (.bool b) h=some (undef,h.set d { D with down:=b }.hdr):=dO a.hdr (by simp [Dk.hdr]) a.dn rfl rfl
def bC.s2 (a:bC h d D) (b:Bool):bI 1 (ptr d 2) (.bool b) h=some (undef,h.set d { D with armed:=b }.hdr):=dO a.hdr (by simp [Dk.hdr]) a.dn rfl rfl
def bC.s3 (a:bC h d D) (n:Int):bI 1 (ptr d 3) (.int .i64 n) h=some (undef,h.set d { D with after:=n }.hdr):=dO a.hdr (by simp [Dk.hdr]) a.dn rfl rfl
def bC.s5 (a:bC h d D) (n:Int):bI 1 (ptr d 5) (.int .i64 n) h=some (undef,h.set d { D with turn:=n }.hdr):=dO a.hdr (by simp [Dk.hdr]) a.dn rfl rfl
end
structure Like (D E:Dk):Prop where
 bb:E.bb=D.bb
 n:E.n=D.n
 img:E.img=D.img
def bC.setHdr {h:ae} {d:Nat} {D E:Dk} (a:bC h d D) (l:Like D E) (ha:0<=E.after/\E.after<=9223372036854775807) (hk:0<=E.keep/\E.keep<=128):bC (h.set d E.hdr) d E:=by
 have hb:(h.set d E.hdr).get E.bb=some (E.img.map u8):=by rw [ae.mH a.dn a.lt _ (by rw [l.bb];exact a.ne.symm),l.bb,l.img];exact a.img
 exact ⟨ae.bO a.dn a.hdr _,hb,by rw [l.img,l.n];exact a.len,by rw [l.img];exact a.byte,a.dn,by rw [l.bb];exact a.bn,by rw [l.bb];exact a.ne,by rw [l.n];exact a.small,ha,hk⟩
structure Okd (D E:Dk):Prop where
 bb:E.bb=D.bb
 n:E.n=D.n
 len:E.img.length=D.img.length
 byte : ∀ x∈E.img,x<256
 after:0<=E.after/\E.after<=9223372036854775807
 keep:0<=E.keep/\E.keep<=128
@[simp] theorem nil27e (b o : Nat) : aA prog .eql 24 (ptr b o) (.pointer none) = some (.bool false) := by kernel_rfl
@[simp] theorem nil27n (b o : Nat) : aA prog .neq 24 (ptr b o) (.pointer none) = some (.bool true) := by kernel_rfl
def sf:(some true==some false)=false:=rfl
def fs:(some false==some true)=false:=rfl
def Dk.fault (D:Dk) (i:Int):Int:=if D.down then 9 else if i<0\/(D.n:Int)<=i then 2 else 0
def t105_is (C:ah) {d:Nat} {D:Dk} (i:Int) {h:ae} (a:bC h d D):t105 C (ptr d 0) (.int .i64 i) h=some (.int .i64 (D.fault i),h):=by
 unfold t105 Dk.fault;simp -implicitDefEqProofs only [af,nil27e,ak,av,aw,DC,a.l1];cases D.down with
 |true=>rfl
 |false=>
  simp -implicitDefEqProofs only [af,ak,cx,aR,DB,DS];by_cases h1:i<0
  ·simp -implicitDefEqProofs only [h1,GQ,sf,aX,af,DV,true_or]
  ·simp -implicitDefEqProofs only [h1,FA,DP,aD,af,ak,av,aw,DC,a.l0,cM,eO,false_or,DB,DS];by_cases h2:(D.n:Int)<=i
   ·simp -implicitDefEqProofs only [h2,ge_iff_le,GQ,DV]
   ·simp -implicitDefEqProofs only [h2,ge_iff_le,FA,DS]
structure Upd (h:ae) (d:Nat) (D E:Dk) (g:ae):Prop where
 n0:g.n0=h.n0
 next:g.next=h.next
 CS:bC h d D
 is:bC g d E
 like:Like D E
 getB : ∀ c,c≠d->g.getB c=h.getB c
def Upd.refl {h:ae} {d:Nat} {D:Dk} (a:bC h d D):Upd h d D D h:=⟨rfl,rfl,a,a,⟨rfl,rfl,rfl⟩,fun _ _=>rfl⟩
def Upd.step {h g:ae} {d:Nat} {D E F:Dk} (u:Upd h d D E g) (l:Like E F) (ha:0<=F.after/\F.after<=9223372036854775807) (hk:0<=F.keep/\F.keep<=128):Upd h d D F (g.set d F.hdr) where
 n0:=u.n0
 next:=u.next
 CS:=u.CS
 is:=u.is.setHdr l ha hk
 like:=⟨l.bb.trans u.like.bb,l.n.trans u.like.n,l.img.trans u.like.img⟩
 getB c hc:=(ae.cj u.is.dn u.is.lt _ hc).trans (u.getB c hc)
def get_of {g h:ae} {c:Nat} (e:g.getB c=h.getB c):g.get c=h.get c:=by unfold ae.get;rw [e]
section bytes
def dx (l:List Nat) (off:Nat) (xs:List Nat):List Nat:=l.take off++xs++l.drop (off+xs.length)
def spliceN_map (l:List Nat) (off:Nat) (xs:List Nat):splice (l.map u8) off (xs.map u8)=(dx l off xs).map u8:=by simp [splice,dx]
def py {l:List Nat} {off:Nat} {xs:List Nat} (h:off+xs.length<=l.length):(dx l off xs).length=l.length:=by simp [dx];omega
def Bn {l:List Nat} {off:Nat} {xs:List Nat} (hl : ∀ x∈l,x<256) (hx : ∀ x∈xs,x<256) : ∀ x∈dx l off xs,x<256:=by
 intro x h;simp only [dx,D8] at h;rcases h with (h|h)|h
 ·exact hl x (D6 h)
 ·exact hx x h
 ·exact hl x (EO h)
def xp : ∀ l:List Nat,aM (l.map u8)=true
 | []=>rfl
 |x::l=>by have:=xp l;simp only [aM,FD,List.all_cons] at this |-;rw [this];rfl
def mR {a:Option Addr} {n c:Nat} {h:ae} {l:List Nat} (e:ao a n h=some l) {m:Nat} (hm:m<=n):firstA 1 m (.slice a n c) h=some ((l.take m).map u8):=by
 unfold ao at e;rw [DU] at e;obtain ⟨cs,h1,h2⟩:=e;obtain ⟨rfl,h3⟩:=oE h2;cases a with
 |none=>
  simp only [firstA] at h1 |-;split at h1
  ·cases l with
   |nil=>simp;omega
   |cons=>simp at h1
  ·cases h1
 |some x=>
  obtain ⟨b,off,s⟩:=x;simp only [firstA,FG] at h1 |-;by_cases hm0:m=0
  ·subst hm0;simp
  ·rw [DL hm0];rw [DL (by omega)] at h1;cases hk:h.get b with
   |none=>rw [hk] at h1;cases h1
   |some k=>
    rw [hk] at h1;simp only at h1 |-;split at h1
    ·rename_i hl0;have hl1:=hl0.1;simp only [DA] at h1;have hk2:List.take m (List.drop off k)=(l.take m).map u8:=by rw [List.map_take,<-h1,IB,GN hm]
     rw [DH ⟨by omega,by rw [hk2];exact iL _⟩,hk2]
    ·cases h1
def jz {h:ae} {b off dl dc n c:Nat} {s:Option Nat} {a:Option Addr} {img l:List Nat} (hb:h.get b=some (img.map u8)) (h0:h.n0<=b) (hs:ao a n h=some l) (hlen:off+min n dl<=img.length) :
  ∃ g,js 1 (.slice (some ⟨b,off,s⟩) dl dc) (.slice a n c) h=some (aj (min n dl),g)/\g.n0=h.n0/\g.next=h.next/\g.get b=some ((dx img off (l.take (min n dl))).map u8)/\(∀ e,e≠b->g.getB e=h.getB e):=by
 have hl:=(ay hs).1;unfold js;simp only [uq];rw [mR hs (Nat.min_le_left n dl)];simp only;by_cases h1:min n dl=0
 ·rw [DH h1];refine ⟨h,rfl,rfl,rfl,?_,fun _ _=>rfl⟩;rw [h1,hb];simp [dx]
 ·rw [DL h1];refine ⟨h.set b ((dx img off (l.take (min n dl))).map u8),?_,rfl,rfl,ae.bO h0 hb _,fun e he=>ae.cj h0 (h.aL hb) _ he⟩;unfold stL;simp only [hb];rw [DH (by simp only [xp,EB,E8,EJ,DD,DR];exact ⟨h0,by omega⟩),spliceN_map];rfl
end bytes
def Dk.off (D:Dk):Dk:=if D.down then D else { D with down:=true,armed:=false,turn:=IntKind.wrap .i64 (D.turn+1) }
def Dk.off_like (D:Dk):Like D D.off:=by unfold Dk.off;split<;>exact ⟨rfl,rfl,rfl⟩
def t49_is (C:ah) {d:Nat} {D:Dk} {h:ae} (a:bC h d D) : ∃ g,t49 C (ptr d 0) h=some (.tuple #[],g)/\Upd h d D D.off g:=by
 unfold t49 Dk.off;simp -implicitDefEqProofs only [af,nil27e,ak,aR,DP,aD,av,aw,DC,a.l1,DB,DS];cases hd:D.down with
 |true=>exact ⟨h,rfl,by rw [DH rfl];exact .refl a⟩
 |false=>
  have u1:Upd h d D { D with down:=true } _:=(Upd.refl a).step ⟨rfl,rfl,rfl⟩ a.after a.keep;have u2:Upd h d D { D with down:=true,armed:=false } _:=u1.step ⟨rfl,rfl,rfl⟩ a.after a.keep;have u3:Upd h d D { D with down:=true,armed:=false,turn:=IntKind.wrap .i64 (D.turn+1) } _:=u2.step ⟨rfl,rfl,rfl⟩ a.after a.keep;simp -implicitDefEqProofs only [a.s1,u1.is.s2,u2.is.l5,u2.is.s5,af,eR,ak,DB,DS];exact ⟨_,rfl,u3⟩
def is49:bE prog 49 f49 := .of (by kernel_rfl)
def r105 {h:ae} {d:Nat} {D:Dk} (i:Int) (a:bC h d D):CD 105 [ptr d 0,.int .i64 i] h=some (.int .i64 (D.fault i),h):=aI is105 rfl ((t105_eq _ _ _ _).trans (t105_is _ i a))
abbrev eV (d bb:Nat) (h h':ae):Prop:=au h h' (fun c=>c=d\/c=bb)
def r49 {h:ae} {d:Nat} {D:Dk} (a:bC h d D) : ∃ g,CD 49 [ptr d 0] h=some (.tuple #[],g)/\Upd h d D D.off g:=by obtain ⟨g,e,u⟩:=t49_is CD a;exact ⟨g,aI is49 rfl ((t49_eq _ _ _).trans e),u⟩
def Dk.lay (D:Dk) (i:Int) (l:List Nat):Dk:={ D with img:=dx D.img (i.toNat*128) l }
def Dk.write (D:Dk) (i:Int) (l:List Nat):Int×Dk:=
 if D.fault i=0 then
  if l.length=128 then
   if D.armed then
    if D.after=0 then (9,(D.lay i (l.take D.keep.toNat)).off)
    else (0,{ D.lay i l with after:=D.after-1 })
   else (0,D.lay i l)
  else (10,D)
 else (D.fault i,D)
def Dk.zu {D:Dk} {i:Int} (h:D.fault i=0):D.down=false/\0<=i/\i<D.n:=by
 unfold Dk.fault at h;split at h
 ·cases h
 ·split at h
  ·cases h
  ·rename_i h1 h2;refine ⟨by simpa using h1,by omega,by omega⟩
def Dk.CT {h:ae} {d:Nat} {D:Dk} (a:bC h d D) {i:Int} {l:List Nat} (hi:D.fault i=0) (hl:l.length<=128) (hb : ∀ x∈l,x<256):Okd D (D.lay i l):=by
 obtain ⟨_,h1,h2⟩:=Dk.zu hi;refine ⟨rfl,rfl,?_,?_,a.after,a.keep⟩
 ·exact py (by have:=a.len;omega)
 ·exact Bn a.byte hb
def Dk.write_okd {h:ae} {d:Nat} {D:Dk} (a:bC h d D) (i:Int) {l:List Nat} (hb : ∀ x∈l,x<256):Okd D (D.write i l).2:=by
 have r:Okd D D:=⟨rfl,rfl,rfl,a.byte,a.after,a.keep⟩
 unfold Dk.write;split
 ·rename_i hf;split
  ·rename_i hl;have o1:=Dk.CT a hf (by omega) hb;split
   ·split
    ·have o:=Dk.CT a (l:=l.take D.keep.toNat) hf (by simp;omega) (fun x hx=>hb x (D6 hx));have lk:=(D.lay i (l.take D.keep.toNat)).off_like;refine ⟨lk.bb.trans o.bb,lk.n.trans o.n,by rw [lk.img];exact o.len,by rw [lk.img];exact o.byte,?_,?_⟩
     ·unfold Dk.off;split<;>exact a.after
     ·unfold Dk.off;split<;>exact a.keep
    ·rename_i h1;refine ⟨o1.bb,o1.n,o1.len,o1.byte,?_,a.keep⟩;have:=a.after;show 0<=D.after-1/\D.after-1<=_;omega
   ·exact o1
  ·exact r
 ·exact r
def cw (a:Option Addr) (n c:Nat):Bool:=Nat.ble n c&&(match a with|some ⟨_,_,some s⟩=>s==1|_=>true)
def mX {a:Option Addr} {n c:Nat} (h:cw a n c=true):n<=c:=by unfold cw at h;rw [DD] at h;exact EH h.1
def fX {b off n lo hi:Nat} {s s':Option Nat} {h:ae} {l:List Nat} (e:ao (some ⟨b,off,s⟩) n h=some l) (h1:lo<=hi) (h2:hi<=n) :
  ao (some ⟨b,off+lo,s'⟩) (hi-lo) h=some ((l.drop lo).take (hi-lo)):=by
 obtain ⟨hl,hb,hat⟩:=ay e;unfold ao;rw [DU];refine ⟨((l.drop lo).take (hi-lo)).map u8,?_,gC (fun x hx=>hb x (EO (D6 hx)))⟩;simp only [firstA,FG];by_cases h0:hi-lo=0
 ·rw [DH h0,h0];rfl
 ·rw [DL h0];obtain ⟨b',off',s'',k,hx,hk,hkl,hk2⟩:=hat (by omega);cases hx;simp only [hk];have hcells:(k.drop (off+lo)).take (hi-lo)=((l.drop lo).take (hi-lo)).map u8:=by
   apply FC;intro i;rw [E7,D4,E7,EY,EY];by_cases hi2:i<hi-lo
   ·rw [DH hi2,DH hi2,F0,hk2 (lo+i) (by omega),DK,DE (by omega)];rfl
   ·rw [DL hi2,DL hi2];rfl
  rw [hcells,DH ⟨by omega,iL _⟩]
def qP {a:Option Addr} {n c lo hi:Nat} {vl vh:Option Vl} {h:ae} {l:List Nat} (g:cw a n c=true) (e:ao a n h=some l) (h1:lo<=hi) (h2:hi<=n) (hh:boundA n c vh=some hi) (hl:boundA 0 hi vl=some lo) :
  ∃ a' c',zR 1 (.slice a n c) vl vh none=some (.slice a' (hi-lo) c')/\ao a' (hi-lo) h=some ((l.drop lo).take (hi-lo))/\cw a' (hi-lo) c'=true:=by
 have hn:=mX g;have hb:boundsA n c vl vh none=some (lo,hi,c):=by unfold boundsA;have:boundA c c none=some c:=rfl;rw [this];simp only [hh,hl]
 have hble:Nat.ble (hi-lo) (c-lo)=true:=FM (by omega);cases a with
 |none=>
  have hl0:l = []:=by
   unfold ao firstA at e;by_cases hz:n=0
   ·subst hz;obtain ⟨h3,_⟩:=ay (a:=none) (n:=0) (h:=h) (l:=l) (by unfold ao firstA;exact e);exact EC.1 h3
   ·simp only [hz,DS,Option.bind_none] at e;cases e
  have hn0:n=0:=by have:=(ay e).1;rw [hl0] at this;exact this.symm
  subst hn0;have:hi=0:=by omega
  subst this;have:lo=0:=by omega
  subst this;refine ⟨none,c-0,?_,?_,?_⟩
  ·unfold zR sliceSl;simp only [hb]
  ·subst hl0;rfl
  ·unfold cw;simp
 |some x=>
  obtain ⟨b,off,s⟩:=x;cases s with
  |none=>
   refine ⟨some ⟨b,if c=lo then off else off+lo*1,none⟩,c-lo,?_,?_,?_⟩
   ·unfold zR sliceSl;simp only [hb]
   ·by_cases hc:c=lo
    ·have h3:hi-lo=0:=by omega
     rw [DH hc,h3];have:(l.drop lo).take 0 = []:=rfl;rw [this];unfold ao firstA;simp;rfl
    ·rw [DL hc,FG];exact fX e h1 h2
   ·unfold cw;rw [hble];rfl
  |some s=>
   have hs:s=1:=by unfold cw at g;rw [DD] at g;exact eq_of_beq g.2
   subst hs;refine ⟨some ⟨b,off+lo*1,some 1⟩,c-lo,?_,?_,?_⟩
   ·unfold zR sliceSl;simp [hb]
   ·rw [FG];exact fX e h1 h2
   ·unfold cw;rw [hble];rfl
def nq {a:Option Addr} {n:Nat} {h h':ae} (e : ∀ x,a=some x->h'.get x.block=h.get x.block):ao a n h'=ao a n h:=by
 unfold ao firstA;cases a with
 |none=>rfl
 |some x=>simp only [e x rfl]
def bC.bytes_off {h:ae} {d:Nat} {D:Dk} (x:bC h d D) {a:Option Addr} {n:Nat} {l:List Nat} (e:ao a n h=some l) (hn:6<n) : ∀ y,a=some y->y.block≠d:=by rintro y rfl rfl;obtain ⟨_,_,hat⟩:=ay e;obtain ⟨b,off,s,k,hx,hk,hkl,_⟩:=hat (by omega);cases hx;have h1:h.get b=some D.hdr:=x.hdr;rw [hk] at h1;cases h1;simp [Dk.hdr] at hkl;omega
def Cd (b off:Nat):sliceArr 128 1 (ptr b off) none none none=some (.slice (some ⟨b,off,none⟩) 128 128):=by unfold sliceArr ptr;have:boundsA 128 128 none none none=some (0,128,128):=rfl;simp only [this,HM,Nat.add_zero,ite_self,Nat.sub_zero]
def bin28n (a b:Int):aA prog .neq 25 (.int .i64 a) (.int .i64 b)=some (.bool (a != b)):=dj ..
def bin28e (a b:Int):aA prog .eql 25 (.int .i64 a) (.int .i64 b)=some (.bool (a==b)):=eQ ..
def yB {h g:ae} {d:Nat} {D E:Dk} {i:Int} {l:List Nat} (u:Upd h d D E g) (hi:E.fault i=0) (hl:l.length<=128) (hb : ∀ x∈l,x<256) {g':ae} (h0:g'.n0=g.n0) (hn:g'.next=g.next)
  (hg:g'.get E.bb=some ((dx E.img (i.toNat*128) l).map u8)) (ho : ∀ e,e≠E.bb->g'.getB e=g.getB e) :
  bC g' d (E.lay i l)/\(∀ c,c≠d->c≠D.bb->g'.getB c=h.getB c):=by
 have o:=Dk.CT u.is hi hl hb;refine ⟨⟨?_,hg,by rw [o.len];exact u.is.len,o.byte,by rw [h0];exact u.is.dn,by rw [h0];exact u.is.bn,u.is.ne,u.is.small,u.is.after,u.is.keep⟩,?_⟩
 ·rw [get_of (ho d u.is.ne)];exact u.is.hdr
 ·intro c h1 h2;rw [ho c (by rw [u.like.bb];exact h2)];exact u.getB c h1
def is178:bE prog 178 f178 := .of (by kernel_rfl)
structure Wrt (h:ae) (d:Nat) (D E:Dk) (g:ae):Prop where
 is:bC g d E
 n0:g.n0=h.n0
 next:g.next=h.next
 getB : ∀ c,c≠d->c≠D.bb->g.getB c=h.getB c
def r178' {d:Nat} {D:Dk} {h:ae} (x:bC h d D) (i:Int) {a:Option Addr} {n c:Nat} {l:List Nat} (hl:ao a n h=some l) (hgd:cw a n c=true) :
  ∃ g,CD 178 [ptr d 0,.int .i64 i,.slice a n c] h=some (.int .i64 (D.write i l).1,g)/\Wrt h d D (D.write i l).2 g:=by
 have H105:=r105 i x
 suffices q : ∃ g,t178 CD (ptr d 0) (.int .i64 i) (.slice a n c) h=some (.int .i64 (D.write i l).1,g)/\Wrt h d D (D.write i l).2 g by obtain ⟨g,e,w⟩:=q;exact ⟨g,aI is178 rfl ((t178_eq _ _ _ _ _).trans e),w⟩
 obtain ⟨hlen,hbyte,_⟩:=ay hl;unfold t178 Dk.write;simp -implicitDefEqProofs only [af,H105,bin28n,ak];by_cases hf:D.fault i=0
 ·obtain ⟨hdn,hi1,hi2⟩:=Dk.zu hf;have hix:idxS 128 (.slice (some ⟨D.bb,0,none⟩) D.n D.n) (.int .i64 i)=some (ptr D.bb (i.toNat*128)):=by unfold idxS;simp only [hi1,hi2,and_self,DV,DC]
  have hroom:i.toNat*128+128<=D.img.length:=by have:=x.len;omega
  simp -implicitDefEqProofs only [hf,ED,af,cM,ak,dj,DV,hlen];by_cases hn:n=128
  ·subst hn;simp -implicitDefEqProofs only [Int.cast_ofNat_Int,ED,af,av,ak,aw,DC,x.l2,dt,DV];cases har:D.armed with
   |false=>
    obtain ⟨g,hc,g0,gn,gb,go⟩:=jz (dl:=128) (dc:=128) (s:=none) (c:=c) x.img x.bn hl (off:=i.toNat*128) (by simpa using hroom);simp -implicitDefEqProofs only [EG,af,av,ak,aw,DC,x.l0,hix,Cd,hc,DB,DS];rw [Nat.min_self,D3 (by omega)] at gb;obtain ⟨y,yo⟩:=yB (.refl x) hf (by omega) hbyte g0 gn gb go;exact ⟨g,rfl,y,g0,gn,yo⟩
   |true=>
    simp -implicitDefEqProofs only [EK,af,av,ak,aw,DC,x.l3,eQ,DV];by_cases hz:D.after=0
    ·obtain ⟨kn,hk⟩ : ∃ kn:Nat,D.keep=(kn:Int):=⟨D.keep.toNat,by have:=x.keep;omega⟩
     have hk128:kn<=128:=by have:=x.keep;omega
     have hcl:=mX hgd;obtain ⟨a',c',e1,e2,e3⟩:=qP (vl:=none) (vh:=some (.int .i64 D.keep)) (lo:=0) (hi:=kn) hgd hl (by omega) hk128 (by simp only [boundA];rw [DH (by omega),hk];rfl) rfl
     obtain ⟨g,hc,g0,gn,gb,go⟩:=jz (dl:=128) (dc:=128) (s:=none) (c:=c') x.img x.bn e2 (off:=i.toNat*128) (by omega);have hkt:D.keep.toNat=kn:=by omega
     rw [Nat.sub_zero,GN hk128] at gb hc;rw [FO,IB,Nat.min_self] at gb;obtain ⟨y,yo⟩:=yB (.refl x) hf (l:=l.take kn) (by simp;omega) (fun q hq=>hbyte q (D6 hq)) g0 gn gb go;simp -implicitDefEqProofs only [hz,DP,af,av,ak,aw,DC,x.l0,hix,Cd,x.l4,e1,Nat.sub_zero,hc,DV];have hd2:ld1 (ptr d 4) h=some (.int .i64 D.keep,h):=x.l4;obtain ⟨g2,e49,u2⟩:=r49 y;simp -implicitDefEqProofs only [e49,af,hkt];exact ⟨_,rfl,u2.is,u2.n0.trans g0,u2.next.trans gn,fun c h1 h2=>(u2.getB c h1).trans (yo c h1 h2)⟩
    ·have hz2:(D.after==0)=false:=by simpa using hz
     have hw:IntKind.wrap .i64 (D.after-1)=D.after-1:=bf (by have:=x.after;omega) (by have:=x.after;omega);have u1:Upd h d D { D with after:=D.after-1 } _:=(Upd.refl x).step ⟨rfl,rfl,rfl⟩ ⟨by have:=x.after;show 0<=D.after-1;omega,by have:=x.after;show D.after-1<=_;omega⟩ x.keep;have hl2:ao a 128 (h.set d { D with after:=D.after-1 }.hdr)=some l:=by rw [nq (h:=h) (fun y hy=>ae.mH x.dn x.lt _ (x.bytes_off hl (by omega) y hy))];exact hl
     obtain ⟨g,hc,g0,gn,gb,go⟩:=jz (dl:=128) (dc:=128) (s:=none) (c:=c) u1.is.img u1.is.bn hl2 (off:=i.toNat*128) (by simpa using hroom);rw [Nat.min_self,D3 (by omega)] at gb;obtain ⟨y,yo⟩:=yB u1 hf (by omega) hbyte g0 gn gb go;have hc:js 1 (.slice (some ⟨D.bb,i.toNat*128,none⟩) 128 128) (.slice a 128 c) (h.set d { D with after:=D.after-1 }.hdr)=some (aj (min 128 128),g):=hc;have l0:ld1 (ptr d 0) (h.set d { D with after:=D.after-1 }.hdr)=some (.slice (some ⟨D.bb,0,none⟩) D.n D.n,h.set d { D with after:=D.after-1 }.hdr):=u1.is.l0;simp -implicitDefEqProofs only [hz2,af,av,ak,aw,DC,x.l3,gR,hw,x.s3,l0,hix,Cd,hz,DS,hc];exact ⟨g,rfl,y,g0.trans u1.n0,gn.trans u1.next,yo⟩
  ·have hn2:((n:Int) != 128)=true:=by
    have:(n:Int)≠128:=by omega
    simpa using this
   simp -implicitDefEqProofs only [hn2,af,hn,DS];exact ⟨h,rfl,x,rfl,rfl,fun _ _ _=>rfl⟩
 ·have hf2:(D.fault i != 0)=true:=by simpa using hf
  simp -implicitDefEqProofs only [hf2,af,hf,DS];exact ⟨h,rfl,x,rfl,rfl,fun _ _ _=>rfl⟩
end
end Go.Proofs.YtdhpgacmgebjdaaGreatDoor.W
namespace Go.Proofs.YtdhpgacmgebjdaaGreatDoor.W
open Go Go.Abs
noncomputable section
def newSlice (h:ae) (n:Nat):Vl := .slice (some ⟨h.next,0,none⟩) n n
def Dk.new (h:ae) (n:Nat):Dk:={ bb:=h.next,n:=n,img:=List.replicate (128*n) 0,down:=false,armed:=false,after:=0,keep:=0,turn:=0 }
def zeros1 (n:Nat):dJ [.int .u8 0] n=(List.replicate n 0).map u8:=by
 unfold dJ;rw [List.map_replicate];induction n with
 |zero=>rfl
 |succ n ih=>rw [H2,GR,ih,List.replicate_succ'];rfl
def mk1 {h:ae} {n c:Nat} (hn:n<=c) (hc:c<=281474976710656) :
  mkR 1 1 (.int .u8 0) (aj n) (aj c) h=some (.slice (some ⟨h.next,0,none⟩) n c,h.alloc ((List.replicate c 0).map u8)):=by
 have e:(Value.int .u8 0).cells = #[.int .u8 0]:=rfl;unfold mkR;simp only [e];rw [DH (by simp only [DD,DR,beq_iff_eq];refine ⟨⟨⟨⟨⟨⟨by omega,by omega⟩,by omega⟩,by omega⟩,rfl⟩,rfl⟩,by decide⟩)]
 rw [Int.toNat_natCast,Int.toNat_natCast,zeros1]
def yk {h:ae} {d:Nat} {D:Dk} (x:bC h d D) {i:Nat} (hi:i<D.n):ao (some ⟨D.bb,i*128,none⟩) 128 h=some ((D.img.drop (i*128)).take 128):=by unfold ao;rw [DU];refine ⟨((D.img.drop (i*128)).take 128).map u8,?_,gC (fun y hy=>x.byte y (EO (D6 hy)))⟩;simp only [firstA,x.img];rw [DL (by decide),DH ⟨by have:=x.len;simp;omega,tm _ _ _⟩];simp
def xa {h:ae} {b o:Nat} {l:List Nat} {v:Nat} (hg:h.get b=some (l.map u8)) (ho:o<l.length) (hn:h.n0<=b):bI 1 (ptr b o) (u8 v) h=some (undef,h.set b ((l.set o v).map u8)):=by rw [dO hg (by simpa using ho) hn rfl rfl,HF]
def eT {h:ae} {b off n:Nat} {s:Option Nat} {l:List Nat} (hg:h.get b=some (l.map u8)) (hl:off+n<=l.length) (hb : ∀ x∈l,x<256):ao (some ⟨b,off,s⟩) n h=some ((l.drop off).take n):=by
 unfold ao;rw [DU];refine ⟨((l.drop off).take n).map u8,?_,gC (fun y hy=>hb y (EO (D6 hy)))⟩;simp only [firstA,hg,FG];by_cases h0:n=0
 ·rw [DH h0,h0];rfl
 ·rw [DL h0,DH ⟨by simpa using hl,tm _ _ _⟩];simp
def tf {g:ae} {E:Nat} {a:Option Addr} {n c:Nat} {l:List Nat} (hE:g.n0<=E) (hl:ao a n g=some l) (hn:n<=21000) :
  ∃ b s c' g',appendA 1 1 (.slice (some ⟨E,0,none⟩) 0 0) (.slice a n c) g=some (.slice (some ⟨b,0,s⟩) n c',g')/\ao (some ⟨b,0,s⟩) n g'=some l/\cw (some ⟨b,0,s⟩) n c'=true/\(b=E\/(b=g.next/\g.next<g'.next)) /\
    g'.n0=g.n0/\g.next<=g'.next/\(∀ e,e<g.next->g'.getB e=g.getB e):=by
 obtain ⟨hlen,hb,_⟩:=ay hl;have hf:=mR hl (DG n) (c:=c);rw [D3 (by omega)] at hf;have hcond:(!(aM (l.map u8)) || !(decide ((0+n)*1<=140737488355328)) || !(decide (0+n<=4611686018427387904))||decide ((l.map u8).length≠n*1))=false:=by rw [xp,DN (by omega:(0+n)*1<=140737488355328),DN (by omega:0+n<=4611686018427387904),DW (by simp;omega)];rfl
 unfold appendA;simp only [uq,hf];rw [DL (by rw [hcond];decide)];by_cases h0:n=0
 ·subst h0;have:l = []:=EC.1 hlen;subst this;rw [DH (by omega),DH rfl];exact ⟨E,none,0,g,rfl,rfl,rfl,.inl rfl,rfl,DG _,fun _ _=>rfl⟩
 ·rw [DL (by omega)];have f0:firstA 1 0 (.slice (some ⟨E,0,none⟩) 0 0) g=some []:=rfl;simp only [f0];rw [DL (by simp)];refine ⟨g.next,some 1,0+n,g.alloc ([]++l.map u8),by rw [DC],?_,?_,.inr ⟨rfl,by simp⟩,rfl,by simp,?_⟩
  ·rw [List.nil_append,eT (l:=l) (by rw [ae.aZ,DH rfl]) (by omega) hb,FO,D3 (by omega)]
  ·unfold cw;rw [DC];simp
  ·intro e he;rw [ae.dg,DL (by omega)]
def jF {a:Option Addr} {n:Nat} {h:ae} {l:List Nat} (e:ao a n h=some l) (hn:0<n) : ∃ b off s,a=some ⟨b,off,s⟩/\b<h.next:=by obtain ⟨_,_,hat⟩:=ay e;obtain ⟨b,off,s,k,rfl,hk,_⟩:=hat hn;exact ⟨b,off,s,rfl,h.aL hk⟩
def AN (h:ae):gK 1 (.int .u8 0) 0 [] h=some (.slice (some ⟨h.next,0,none⟩) 0 0,h.alloc []):=rfl
end
end Go.Proofs.YtdhpgacmgebjdaaGreatDoor.W
