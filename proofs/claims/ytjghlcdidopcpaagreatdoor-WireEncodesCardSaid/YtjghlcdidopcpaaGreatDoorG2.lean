/-
  A part of the proof, spaces and names shortened by a program (a claim may hold 1,500,000 bytes).
  Conditions: as each theorem states.
-/
import Derived.Test.YtjghlcdidopcpaaGreatDoorG1
namespace Go.Abs
section ops
variable {P:Program} {μ:Mu} {h:ak} {w:World}
theorem firstA_any {size n:Nat} {x x':Value} {cs:List Value} (s:de μ h w) (hx:aQ μ x x') (e:cj size n x h=some cs) (hn : ∀ m,lenA x=some m→n≤m) (P:Program) :
  ∃ cs',(∀ w',w'.heap=w.heap→(Builtin.firstCells size n x').run P w' = .ok cs'.toArray w')∧bp μ cs cs':=by
 cases x with
 |slice a len cap=>
  obtain ⟨cs',h1,h2,_⟩:=firstA_slice s hx e (hn len rfl) P
  exact ⟨cs',h1,h2⟩
 |string sb=>
  rw [hx.cI rfl]
  simp only [cj,Option.some.injEq] at e
  subst e
  refine ⟨(sb.extract 0 n).data.toList.map fun b => .int .u8 b.toNat,?_,bp.of_flat (by rw [bO,List.all_eq_true];intro x hx;obtain ⟨b,_,rfl⟩:=List.mem_map.1 hx;rfl)⟩
  intro w' _
  simp only [Builtin.firstCells,Sem.run_pure]
  congr 1
  apply Array.ext'
  simp
 |_=>simp [cj] at e
theorem run_lenOf {x x':Value} {m:Nat} (hx:aQ μ x x') (e:lenA x=some m):(Builtin.lenOf x').run P w = .ok m w:=by
 cases x with
 |slice a len cap=>
  obtain ⟨a',c',rfl,_⟩:=hx.nilslice
  simp only [lenA,Option.some.injEq] at e
  subst e
  simp [Builtin.lenOf]
 |string sb=>
  rw [hx.cI rfl]
  simp only [lenA,Option.some.injEq] at e
  subst e
  simp [Builtin.lenOf]
 |_=>simp [lenA] at e
theorem run_append_in {t tx ty el:TypeId} {i:TypeInfo} {d:TypeDesc} (hu:P.underlying t=some (.slice el)) (hx:P.underlying tx=some d) (hd:isIntT d=false)
  (hi:P.info? el=some i) {base:Option Addr} {len cap m:Nat} {x:Value} (hm:(Builtin.lenOf x).run P w = .ok m w) (hc:len+m≤cap)
  {new:List Value} {w':World} (hf:(Builtin.firstCells i.size m x).run P w = .ok new.toArray w)
  (hs : ∀ a,base=some a→(storeCells (a.add (len*i.size)) new).run P w = .ok () w') (hn:base=none→w'=w) :
  (Builtin.append_ #[t,tx] ty #[.slice base len cap,x]).run P w = .ok (.slice base (len+m) cap) w':=by
 have hz':(match (generalizing:=false) d with | .int _=>true|_=>false)=false:=by cases d<;>first|rfl|(simp [isIntT] at hd;done)
 have e0:(#[t,tx]:Array TypeId)[0]? = some t:=rfl
 have e1:(#[t,tx]:Array TypeId)[1]? = some tx:=rfl
 have e2:(#[.slice base len cap,x]:Array Value)[0]? = some (.slice base len cap):=rfl
 have e3:(#[.slice base len cap,x]:Array Value)[1]? = some x:=rfl
 unfold Builtin.append_
 simp only [e0,e1,e2,e3,Sem.run_bind,run_underlying hu,run_underlying hx,Result.andThen_ok,sizeOf,dj w hi,Sem.run_pure,hz',Bool.false_eq_true,if_false,hm,Bool.not_false,if_true]
 split
 ·exact absurd hd (by simp [isIntT])
 ·simp only [Bool.false_eq_true,if_false,Sem.run_bind,hm,Result.andThen_ok,Bool.not_false,if_true,false_or,Sem.run_pure,hc,hf]
  cases base with
  |none=>simp [hn rfl]
  |some a=>simp [hs a rfl]
theorem run_append_out {t tx ty el:TypeId} {i:TypeInfo} {d:TypeDesc} (hu:P.underlying t=some (.slice el)) (hx:P.underlying tx=some d) (hd:isIntT d=false)
  (hi:P.info? el=some i) {base:Option Addr} {len cap m:Nat} {x:Value} (hm:(Builtin.lenOf x).run P w = .ok m w) (hc : ¬len+m≤cap)
  {z:Value} {olds news:List Value} (hz:zeroT P el=some z)
  (hfo:(Builtin.firstCells i.size len (.slice base len cap)).run P w.drew = .ok olds.toArray w.drew)
  (hfn:(Builtin.firstCells i.size m x).run P w.drew = .ok news.toArray w.drew)
  (h63:len+m≤4611686018427387904) (hfit:Builtin.nextslicecap (len+m) cap*i.bytes≤281474976710656) :
  (Builtin.append_ #[t,tx] ty #[.slice base len cap,x]).run P w =
   .ok (.slice (some ⟨w.heap.size,0,none⟩) (len+m) (grownCap w (len+m) cap el))
    { w.drew with heap:=w.heap.push (.cells ((olds++news++(Builtin.zeroCells z.cells (grownCap w (len+m) cap el-(len+m))).toList).toArray) el (0,0)) }:=by
 have hmax:IntKind.i64.max=9223372036854775807:=by decide
 have h1 : ¬(((len+m:Nat):Int)>IntKind.i64.max∧i.bytes=0):=by rw [hmax];omega
 have h2 : ¬(Builtin.nextslicecap (len+m) cap*i.bytes>2^48):=by
  have:(2:Nat)^48=281474976710656:=by decide
  omega
 have hz':(match (generalizing:=false) d with | .int _=>true|_=>false)=false:=by cases d<;>first|rfl|(simp [isIntT] at hd;done)
 have e0:(#[t,tx]:Array TypeId)[0]? = some t:=rfl
 have e1:(#[t,tx]:Array TypeId)[1]? = some tx:=rfl
 have e2:(#[.slice base len cap,x]:Array Value)[0]? = some (.slice base len cap):=rfl
 have e3:(#[.slice base len cap,x]:Array Value)[1]? = some x:=rfl
 unfold Builtin.append_
 simp only [e0,e1,e2,e3,Sem.run_bind,run_underlying hu,run_underlying hx,Result.andThen_ok,sizeOf,dj w hi,Sem.run_pure,hz',Bool.false_eq_true,if_false,hm,Bool.not_false,if_true]
 split
 ·exact absurd hd (by simp [isIntT])
 ·simp only [Bool.false_eq_true,if_false,Sem.run_bind,hm,Result.andThen_ok,Bool.not_false,if_true,false_or,Sem.run_pure,hc,dj w hi]
  rw [if_neg h1]
  simp only [Sem.run_bind,dj w hi,Result.andThen_ok]
  rw [if_neg h2]
  simp only [Sem.run_bind,Sem.run_pure,Result.andThen_ok,run_choose,Question.forced,Bool.false_eq_true,if_false,run_askRoom]
  have hdr:({ w with drawn:=w.drawn+1 }:World)=w.drew:=rfl
  rw [hdr]
  simp only [dj w.drew hi,Result.andThen_ok,run_askRoom]
  rw [hfo]
  simp only [Result.andThen_ok]
  rw [hfn]
  simp only [Result.andThen_ok,run_zeroT w.drew hz,Go.newRow,Sem.run_bind,run_newObj,Sem.run_pure,grownCap]
  have:olds.toArray++news.toArray++Builtin.zeroCells z.cells ((Question.appendCap (len+m) cap el).cut (w.tape w.drawn (Question.appendCap (len+m) cap el))-(len+m)) =
    (olds++news++(Builtin.zeroCells z.cells ((Question.appendCap (len+m) cap el).cut (w.tape w.drawn (Question.appendCap (len+m) cap el))-(len+m))).toList).toArray:=by
   apply Array.ext';simp
  rw [this]
  rfl
theorem grow_sound {z:Value} {size c:Nat} {el:TypeId} {olds news olds' news':List Value} {n:Nat} (s:de μ h w) (hf:ft μ h (h.alloc (olds++news))) (ho:bp μ olds olds') (hn:bp μ news news')
  (hzs:z.cells.size=size) (hpos:0<size) (hlen:olds.length+news.length=n*size) (hc:n≤c) (hcm:c≤maxLen) :
  ∃ μ' w',w'={ w.drew with heap:=w.heap.push (.cells ((olds'++news'++(Builtin.zeroCells z.cells (c-n)).toList).toArray) el (0,0)) } ∧
    de μ' (h.alloc (olds++news)) w'∧Step μ h w μ' (h.alloc (olds++news)) w'∧aQ μ' (.slice (some ⟨h.next,0,some size⟩) n n) (.slice (some ⟨w.heap.size,0,none⟩) n c):=by
 have hl:=ho.1
 have hl':=hn.1
 have hzc:(Builtin.zeroCells z.cells (c-n)).size=(c-n)*size:=by rw [size_zeroCells,hzs]
 have hsz:((olds'++news'++(Builtin.zeroCells z.cells (c-n)).toList).toArray).size=c*size:=by
  simp only [List.size_toArray,List.length_append,Array.length_toList,hzc,←hl,←hl',hlen,←Nat.add_mul]
  congr 1;omega
 have hnc:n*size≤c*size:=Nat.mul_le_mul_right _ hc
 obtain ⟨hS,hSt⟩:=s.alloc (k:=olds++news) hf (arr:=(olds'++news'++(Builtin.zeroCells z.cells (c-n)).toList).toArray) (T:=el) (fr:=(0,0)) (.inl rfl)
  (by rw [hsz,List.length_append,hlen];exact hnc)
  (by
   have:(olds++news).length=(olds'++news').length:=by simp [hl,hl']
   rw [this,List.take_left];exact ho.append hn)
  (w1:={ w.drew with heap:=w.heap.push (.cells ((olds'++news'++(Builtin.zeroCells z.cells (c-n)).toList).toArray) el (0,0)) }) rfl rfl rfl rfl
 refine ⟨_,_,rfl,hS,hSt,?_⟩
 have:=aQ.hid (b:=h.next) (off:=0) (len:=n) (cap:=n) (cap':=c) (s:=size) (Mu.dW μ h.next ⟨w.heap.size,0,((olds'++news'++(Builtin.zeroCells z.cells (c-n)).toList).toArray).size,(olds++news).length⟩) (Nat.le_refl _) hc hcm
  (by simp only [List.length_append,hlen,Nat.zero_add]) (by simp only [hsz];omega)
 simpa using this
theorem de.regrow {b off n1:Nat} {k:dA} {L:Loc} {news news':List Value} (s:de μ h w) (hb:h.n0≤b) (hg:h.get b=some k) (hL:μ b=some L) (h1:off+n1≤k.length)
  (hx:bp μ news news') (hone:aS news=true) (hext:L.off+off+n1+news.length≤L.ext) (hf:ft μ h ((h.kill b).alloc ((k.drop off).take n1++news))) :
  ∃ μ' w',(Go.storeCells ⟨L.blk,L.off+off+n1,none⟩ news').run P w = .ok () w'∧de μ' ((h.kill b).alloc ((k.drop off).take n1++news)) w'∧Step μ h w μ' ((h.kill b).alloc ((k.drop off).take n1++news)) w' ∧
    μ' h.next=some ⟨L.blk,L.off+off,L.ext,n1+news.length⟩:=by
 obtain ⟨L',arr,T,fr,e1,e2,e4,e5,e6,e7,e8,e9⟩:=s.new b k hb hg
 rw [hL] at e1;cases e1
 have hal:arr.toList.length=arr.size:=Array.length_toList
 have hlt:=h.bT hg
 have hnl:news'.length=news.length:=hx.1.symm
 have hnone:μ h.next=none:=hf _ (Nat.le_refl _) (by simp)
 have hm:=Mu.put_mono (L:=⟨L.blk,L.off+off,L.ext,n1+news.length⟩) hnone
 have hget : ∀ c kc,((h.kill b).alloc ((k.drop off).take n1++news)).get c=some kc→(c=h.next∧kc=(k.drop off).take n1++news)∨(c≠h.next∧c≠b∧h.get c=some kc):=by
  intro c kc hc
  rw [ak.aM,ak.next_kill] at hc
  by_cases ec:c=h.next
  ·rw [if_pos ec] at hc;cases hc;exact .inl ⟨ec,rfl⟩
  ·rw [if_neg ec] at hc
   unfold ak.kill at hc
   rw [h.get_put hb hlt] at hc
   by_cases eb:c=b
   ·rw [if_pos eb] at hc;cases hc
   ·rw [if_neg eb] at hc;exact .inr ⟨ec,eb,hc⟩
 have hB:(w.setRow L.blk (bw arr.toList (L.off+off+n1) news').toArray).heap[L.blk]? = some (.cells (bw arr.toList (L.off+off+n1) news').toArray T fr):=setRow_heap w L.blk arr _ T fr e4
 have hsz:((bw arr.toList (L.off+off+n1) news').toArray).size=arr.size:=by
  rw [List.size_toArray,length_splice (by omega),hal]
 refine ⟨μ.put h.next ⟨L.blk,L.off+off,L.ext,n1+news.length⟩,w.setRow L.blk (bw arr.toList (L.off+off+n1) news').toArray,?_,⟨?_,?_,?_,?_,fun b hb=>let ⟨L,h1,h2⟩:=s.low b hb;⟨L,hm _ _ h1,h2⟩⟩,⟨?_,rfl,rfl,by simp,rfl,rfl,rfl,by simp [World.setRow],?_,?_⟩,Mu.dW _ _ _⟩
 ·have:=fh P L.blk (L.off+off+n1) T fr news' 0 arr w e4 e7 (by omega) (hx.aS hone)
  simpa using this
 ·intro c cs hc hcs
  obtain ⟨L2,a2,T2,f2,g1,g2,g3,g4,g5⟩:=s.bm c cs (by simpa using hc) hcs
  refine ⟨L2,a2,T2,f2,hm _ _ g1,g2,g3,?_,g5.mono hm⟩
  rw [setRow_other _ _ _ _ (by simp at hc;omega)];exact g4
 ·intro c kc hc hgc
  rcases hget c kc hgc with ⟨rfl,rfl⟩|⟨n1',n2',hgc'⟩
  ·refine ⟨_,_,T,fr,Mu.dW _ _ _,?_,hB,hsz.trans e5,?_,by rw [hsz];exact e7,by simpa using e8,?_⟩
   ·simp only [List.length_append,List.length_take,List.length_drop];omega
   ·simp only;omega
   ·simp only
    have hr:=(e9.drop off).take n1
    rw [List.drop_take,List.drop_drop,List.take_take,show min n1 (L.len-off)=n1 from by omega] at hr
    have:((bw arr.toList (L.off+off+n1) news').drop (L.off+off)).take (n1+news.length)=(arr.toList.drop (L.off+off)).take n1++news':=by
     unfold bw
     have e1:(arr.toList.take (L.off+off+n1)).drop (L.off+off)=(arr.toList.drop (L.off+off)).take n1:=by rw [List.drop_take];congr 1;omega
     rw [List.append_assoc,List.drop_append_of_le_length (by simp;omega),e1,←List.append_assoc]
     exact List.take_left' (by simp;omega)
    rw [this]
    exact (hr.append hx).mono hm
  ·obtain ⟨L2,a2,T2,f2,g1,g2,g4,g5,g6,g7,g8,g9⟩:=s.new c kc hc hgc'
   refine ⟨L2,a2,T2,f2,hm _ _ g1,g2,?_,g5,g6,g7,g8,g9.mono hm⟩
   rw [setRow_other _ _ _ _ (s.inj c b kc k L2 L hc hb n2' hgc' hg g1 hL)];exact g4
 ·intro c c' kc kc' Lc Lc' hc hc' hne hgc hgc' h2 h3
  rcases hget c kc hgc with ⟨rfl,rfl⟩|⟨n1',n2',g1⟩
  ·rw [Mu.dW] at h2;cases h2
   rcases hget c' kc' hgc' with ⟨rfl,rfl⟩|⟨m1,m2,g2⟩
   ·exact absurd rfl hne
   ·rw [Mu.dF _ _ m1] at h3
    exact s.inj b c' k kc' L Lc' hb hc' (Ne.symm m2) hg g2 hL h3
  ·rw [Mu.dF _ _ n1'] at h2
   rcases hget c' kc' hgc' with ⟨rfl,rfl⟩|⟨m1,m2,g2⟩
   ·rw [Mu.dW] at h3;cases h3
    exact s.inj c b kc k Lc L hc hb n2' g1 hg h2 hL
   ·rw [Mu.dF _ _ m1] at h3
    exact s.inj c c' kc kc' Lc Lc' hc hc' hne g1 g2 h2 h3
 ·simpa [World.setRow] using s.size
 ·intro c hc
  rw [Mu.dF _ _ (by simp at hc;omega)]
 ·intro B hB' hO
  exact setRow_other _ _ _ _ (fun e=>hO ⟨b,k,L,hb,hg,hL,e.symm⟩)
 ·rintro B ⟨c,kc,Lc,hc,hgc,h2,rfl⟩
  rcases hget c kc hgc with ⟨rfl,rfl⟩|⟨n1',n2',g1⟩
  ·rw [Mu.dW] at h2;cases h2;exact .inl ⟨b,k,L,hb,hg,hL,rfl⟩
  ·rw [Mu.dF _ _ n1'] at h2;exact .inl ⟨c,kc,Lc,hc,g1,h2,rfl⟩
theorem append_sound {t tx ty el:TypeId} {d:TypeDesc} {size by_:Nat} {z s s' x x' r:Value} {h':ak} (hu:P.underlying t=some (.slice el)) (htx:P.underlying tx=some d) (hd:isIntT d=false)
  (hsz:cJ P el=some size) (hby:bytesT P el=some by_) (hz:zeroT P el=some z) (hzs:z.cells.size=size) (hpos:0<size)
  (S:de μ h w) (hf:ft μ h h') (hs:aQ μ s s') (hx:aQ μ x x') (e:aO size by_ s x h=some (r,h')) :
  ∃ μ' r' w',(Builtin.append_ #[t,tx] ty #[s',x']).run P w = .ok r' w'∧de μ' h' w'∧Step μ h w μ' h' w'∧aQ μ' r r':=by
 obtain ⟨i,hi,hin⟩:=info_of_sizeT hsz
 have hib:i.bytes=by_:=by simp only [bytesT,hi,Option.map_some,Option.some.injEq] at hby;exact hby
 subst hin hib
 unfold aO at e
 split at e
 ·rename_i base len cap m hm
  have hlen:=run_lenOf (P:=P) (w:=w) hx hm
  split at e
  ·cases e
  ·rename_i news hnews
   split at e
   ·cases e
   ·rename_i hcond
    simp only [Bool.or_eq_true,Bool.not_eq_true',decide_eq_true_eq,not_or,Bool.not_eq_false,decide_eq_false_iff_not,Decidable.not_not,ne_eq] at hcond
    obtain ⟨⟨⟨hone,hbytes⟩,h62⟩,hnl⟩:=hcond
    have hle : ∀ m',lenA x=some m'→m≤m':=by intro m' h;rw [hm] at h;cases h;exact Nat.le_refl _
    obtain ⟨news',hrn,hrel⟩:=firstA_any S hx hnews hle P
    have place : ∀ {b off:Nat} {h1:ak} {L:Loc} {c':Nat},μ b=some L→stL b (off+len*i.size) news h=some h1→s' = .slice (some ⟨L.blk,L.off+off,none⟩) len c'→len+m≤c' →
      ∃ w',(Builtin.append_ #[t,tx] ty #[s',x']).run P w = .ok (.slice (some ⟨L.blk,L.off+off,none⟩) (len+m) c') w'∧de μ h1 w'∧Step μ h w μ h1 w':=by
     intro b off h1 L c' hL hst hs' hc
     subst hs'
     obtain ⟨L',w',hL',hrun,hS,hSt⟩:=stL_sound (P:=P) S hrel hst
     rw [hL] at hL';cases hL'
     refine ⟨w',run_append_in hu htx hd hi hlen hc (hrn w rfl) ?_ (by intro h;cases h),hS,hSt⟩
     intro a ha
     cases ha
     rw [Addr.add_lit,Nat.add_assoc];exact hrun
    have grow : ∀ {olds olds':List Value} {h1:ak} {base':Option Addr} {c':Nat},de μ h1 w→ft μ h1 (h1.alloc (olds++news))→olds.length=len*i.size→bp μ olds olds' →
      (∀ w',w'.heap=w.heap→(Builtin.firstCells i.size len (.slice base' len c')).run P w' = .ok olds'.toArray w')→s' = .slice base' len c' → ¬len+m≤c' →
      ∃ μ' r' w',(Builtin.append_ #[t,tx] ty #[s',x']).run P w = .ok r' w'∧de μ' (h1.alloc (olds++news)) w'∧Step μ h1 w μ' (h1.alloc (olds++news)) w' ∧
        aQ μ' (.slice (some ⟨h1.next,0,some i.size⟩) (len+m) (len+m)) r':=by
     intro olds olds' h1 base' c' S1 hf1 hol horel hro hs' hc
     subst hs'
     have hfit:Builtin.nextslicecap (len+m) c'*i.bytes≤281474976710656:=growslice_fits (by omega) hbytes
     have hrun:=run_append_out (ty:=ty) hu htx hd hi hlen hc hz (hro w.drew rfl) (hrn w.drew rfl) h62 hfit
     obtain ⟨μ',w',hw',hS,hSt,hv⟩:=grow_sound (z:=z) (size:=i.size) (c:=grownCap w (len+m) c' el) (el:=el) (n:=len+m) S1 hf1 horel hrel hzs hpos
      (by rw [hol,hnl,Nat.add_mul]) (grownCap_ge w (len+m) c' el) (grownCap_le_maxLen w (len+m) c' el (by unfold maxLen;omega))
     exact ⟨μ',_,w',by rw [hrun,hw'],hS,hSt,hv⟩
    split at e
    ·rename_i hroom
     split at e
     ·rename_i hm0
      subst hm0
      cases e
      have hn0:news' = []:=by
       have:=hrel.1
       simp only [hnl,Nat.zero_mul] at this
       exact List.eq_nil_of_length_eq_zero this.symm
      subst hn0
      have fin : ∀ (b':Option Addr) (c':Nat),s' = .slice b' len c'→cap≤c' → ∃ μ' r' w',(Builtin.append_ #[t,tx] ty #[s',x']).run P w = .ok r' w'∧de μ' h w'∧Step μ h w μ' h w'∧aQ μ' (.slice base len cap) r':=by
       rintro b' c' rfl hc
       refine ⟨μ,.slice b' (len+0) c',w,run_append_in hu htx hd hi hlen (by omega) (hrn w rfl) (fun a _=>rfl) (fun _=>rfl),S,.cN,hs⟩
      cases hs with
      |flat h=>exact fin _ _ rfl (Nat.le_refl _)
      |slice h=>exact fin _ _ rfl (Nat.le_refl _)
      |hid h _ hc=>exact fin _ _ rfl hc
      |hemp h=>exact fin _ _ rfl (Nat.le_refl _)
      |zer=>exact fin _ _ rfl (Nat.le_refl _)
     ·rename_i hm0
      split at e
      ·rename_i b off sp
       simp only [Option.map_eq_some_iff,Prod.mk.injEq] at e
       obtain ⟨h1,hst,rfl,rfl⟩:=e
       cases hs with
       |flat h=>simp [flat] at h
       |slice hL=>
        obtain ⟨w',hrun,hS,hSt⟩:=place hL hst rfl hroom
        exact ⟨μ,_,w',hrun,hS,hSt,.slice hL⟩
       |hid hL hl hc hmx g1 g2=>
        obtain ⟨w',hrun,hS,hSt⟩:=place hL hst rfl (by omega)
        exact ⟨μ,_,w',hrun,hS,hSt,.hid hL hroom hc hmx g1 g2⟩
       |hemp hL=>omega
       |zer=>omega
      ·cases e
    ·rename_i hroom
     split at e
     ·split at e
      ·rename_i h0
       subst h0
       simp only [Option.some.injEq,Prod.mk.injEq] at e
       obtain ⟨rfl,rfl⟩:=e
       have hs':=hs.cI rfl
       have:=grow (olds := []) (olds' := []) (h1:=h) S (by simpa using hf) (by simp) (bp.nil μ) (by intro w' _;simp [Builtin.firstCells]) hs' hroom
       simpa using this
      ·cases e
     ·rename_i b off sp
      split at e
      ·cases e
      ·rename_i olds holds
       split at e
       ·cases e
       ·rename_i hol
        have hol':olds.length=len*i.size:=Decidable.not_not.1 hol
        obtain ⟨olds',hro,horel⟩:=firstA_any S hs holds (by intro m' h;cases h;exact Nat.le_refl _) P
        split at e
        ·simp only [Option.some.injEq,Prod.mk.injEq] at e
         obtain ⟨rfl,rfl⟩:=e
         cases hs with
         |flat h=>simp [flat] at h
         |slice hL=>exact grow S hf hol' horel hro rfl hroom
        ·rename_i zz
         split at e
         ·rename_i hc
          simp only [Bool.and_eq_true,decide_eq_true_eq] at hc
          obtain ⟨⟨rfl,hb⟩,hlive⟩:=hc
          obtain ⟨k,hk⟩:=Option.isSome_iff_exists.1 hlive
          simp only [Option.some.injEq,Prod.mk.injEq] at e
          obtain ⟨rfl,rfl⟩:=e
          obtain ⟨S1,St1⟩:=S.kill hb (h.bT hk)
          have hf1:ft μ (h.kill b) ((h.kill b).alloc (olds++news)):=hf
          generalize hq:i.size=q at hs
          cases hs with
          |flat h=>simp [flat] at h
          |zer=>omega
          |hid hL hl hc hmx g1 g2=>
           rename_i cap' L
           subst hq
           by_cases hin:len+m≤cap'
           ·have hkl:L.len=k.length:=by
             obtain ⟨L',arr,T,fr,e1,e2,_⟩:=S.new b k hb hk
             rw [hL] at e1;cases e1;exact e2
            have hls:len*i.size≤cap*i.size:=Nat.mul_le_mul_right _ hl
            have hms:(len+m)*i.size≤cap'*i.size:=Nat.mul_le_mul_right _ hin
            have hadd:(len+m)*i.size=len*i.size+m*i.size:=Nat.add_mul _ _ _
            have holds':olds=(k.drop off).take (len*i.size):=by
             unfold cj at holds
             simp only [hk] at holds
             split at holds
             ·rename_i h0;cases holds;rw [h0];rfl
             ·split at holds
              ·cases holds;rfl
              ·cases holds
            subst holds'
            obtain ⟨μ',w',hrun,hS,hSt,hμ⟩:=S.regrow (P:=P) (off:=off) (n1:=len*i.size) hb hk hL (by omega) hrel hone (by omega) hf
            refine ⟨μ',.slice (some ⟨L.blk,L.off+off,none⟩) (len+m) cap',w',run_append_in hu htx hd hi hlen hin (hrn w rfl) ?_ (by intro h;cases h),hS,hSt,?_⟩
            ·intro a ha
             cases ha
             rw [Addr.add_lit];exact hrun
            ·have:=aQ.hid (μ:=μ') (b:=h.next) (off:=0) (len:=len+m) (cap:=len+m) (cap':=cap') (s:=i.size) hμ (Nat.le_refl _) hin hmx (by simp only;omega) (by simp only;omega)
             simpa using this
           ·obtain ⟨μ',r',w',hrun,hS,hSt,hv⟩:=grow S1 hf1 hol' horel hro rfl hin
            exact ⟨μ',r',w',hrun,hS,St1.trans hSt,hv⟩
          |hemp hL=>
           subst hq
           obtain ⟨μ',r',w',hrun,hS,hSt,hv⟩:=grow S1 hf1 hol' horel hro rfl (by omega)
           exact ⟨μ',r',w',hrun,hS,St1.trans hSt,hv⟩
         ·cases e
 ·cases e
theorem copy_sound {dT sT ty el:TypeId} {size:Nat} {d d' s s' r:Value} {h':ak} (hu:P.underlying dT=some (.slice el)) (hsz:cJ P el=some size)
  (S:de μ h w) (hd:aQ μ d d') (hs:aQ μ s s') (e:copyA size d s h=some (r,h')) :
  ∃ w',(Builtin.copy_ #[dT,sT] ty #[d',s']).run P w = .ok r w'∧de μ h' w'∧Step μ h w μ h' w' ∧ ∃ n:Nat,r = .int .i64 n:=by
 unfold copyA at e
 split at e
 ·rename_i base dLen dCap m hm
  have hlen:=run_lenOf (P:=P) (w:=w) hs hm
  simp only at e
  split at e
  ·cases e
  ·rename_i news hnews
   obtain ⟨news',hrn,hrel⟩:=firstA_any S hs hnews (by intro m' h;rw [hm] at h;cases h;exact Nat.min_le_left _ _) P
   obtain ⟨b',c',rfl,hb'⟩:=hd.nilslice
   have head : ∀ w',(∀ a,b'=some a→(storeCells a news').run P w = .ok () w')→(b'=none→w'=w) →
     (Builtin.copy_ #[dT,sT] ty #[.slice b' dLen c',s']).run P w = .ok (.int .i64 (min m dLen:Nat)) w':=by
    intro w' hs hn
    have e0:(#[dT,sT]:Array TypeId)[0]? = some dT:=rfl
    have e2:(#[.slice b' dLen c',s']:Array Value)[0]? = some (.slice b' dLen c'):=rfl
    have e3:(#[.slice b' dLen c',s']:Array Value)[1]? = some s':=rfl
    unfold Builtin.copy_
    simp only [e0,e2,e3,Sem.run_bind,run_underlying hu,Result.andThen_ok,hlen,cK w hsz,Nat.min_def]
    have hrn0:=hrn w rfl
    rw [Nat.min_def] at hrn0
    rw [hrn0]
    cases b' with
    |none=>simp [hn rfl,goInt]
    |some a=>simp [hs a rfl,goInt]
   split at e
   ·rename_i h0
    cases e
    have hn0:news' = []:=by
     have h1:=hrel.1
     have:news = []:=by
      unfold cj at hnews
      rw [h0] at hnews
      split at hnews
      ·simpa using hnews.symm
      ·simpa using hnews.symm
      ·simp only [Option.some.injEq] at hnews
       rw [←hnews]
       simp
      ·cases hnews
     subst this
     exact List.eq_nil_of_length_eq_zero h1.symm
    subst hn0
    exact ⟨w,head w (fun _ _=>rfl) (fun _=>rfl),S,.cN,_,rfl⟩
   ·rename_i h0
    split at e
    ·cases e
    ·rename_i b off sp
     simp only [Option.map_eq_some_iff,Prod.mk.injEq] at e
     obtain ⟨h1,hst,rfl,rfl⟩:=e
     obtain ⟨L,w',hL,hrun,hS,hSt⟩:=stL_sound (P:=P) S hrel hst
     have hb2:b'=some ⟨L.blk,L.off+off,none⟩:=by
      cases hd with
      |flat h=>simp [flat] at h
      |slice h=>rw [h] at hL;cases hL;rfl
      |hid h=>rw [h] at hL;cases hL;rfl
      |hemp h=>simp at h0
      |zer=>simp at h0
     refine ⟨w',head w' ?_ (by intro h;rw [hb2] at h;cases h),hS,hSt,_,rfl⟩
     intro a ha
     rw [hb2] at ha;cases ha;exact hrun
 ·cases e
theorem clear_sound {t ty el:TypeId} {size:Nat} {d d' r:Value} {h':ak} (hu:P.underlying t=some (.slice el))
  (S:de μ h w) (hd:aQ μ d d') (e:clearA P el size d h=some (r,h')) :
  ∃ w',(Builtin.clear_ #[t] ty #[d']).run P w = .ok r w'∧de μ h' w'∧Step μ h w μ h' w'∧r=undef:=by
 have e0:(#[t]:Array TypeId)[0]? = some t:=rfl
 have e2 : ∀ v:Value,(#[v]:Array Value)[0]? = some v:=fun _=>rfl
 unfold clearA at e
 split at e
 ·cases e
  rw [hd.cI rfl]
  refine ⟨w,?_,S,.cN,rfl⟩
  simp [Builtin.clear_,run_underlying hu,undef]
 ·rename_i b off sp n c
  split at e
  ·rename_i h0
   subst h0
   cases e
   obtain ⟨b',c',rfl,hb'⟩:=hd.nilslice
   refine ⟨w,?_,S,.cN,rfl⟩
   cases b'<;>simp [Builtin.clear_,run_underlying hu,undef]
  ·rename_i h0
   split at e
   ·rename_i z hz
    split at e
    ·rename_i hc
     simp only [Bool.and_eq_true,decide_eq_true_eq] at hc
     obtain ⟨⟨hfl,hzn⟩,hpos⟩:=hc
     simp only [Option.map_eq_some_iff,Prod.mk.injEq] at e
     obtain ⟨h1,hst,rfl,rfl⟩:=e
     have hzz:(Builtin.zeroCells z.cells n).toList=df z.cells.toList n:=by
      rw [←range_zeros z.cells (by omega)]
      simp [Builtin.zeroCells]
     obtain ⟨L,w',hL,hrun,hS,hSt⟩:=stL_sound (P:=P) S (bp.of_flat (μ:=μ) (l:=df z.cells.toList n) (by
       simp only [bO,List.all_eq_true,df,List.mem_flatMap] at hfl ⊢
       rintro x ⟨_,_,hx⟩;exact hfl x hx)) hst
     have hb2 : ∃ c',d' = .slice (some ⟨L.blk,L.off+off,none⟩) n c':=by
      cases hd with
      |flat h=>simp [flat] at h
      |slice h=>rw [h] at hL;cases hL;exact ⟨_,rfl⟩
      |hid h=>rw [h] at hL;cases hL;exact ⟨_,rfl⟩
      |hemp h=>exact absurd rfl h0
      |zer=>exact absurd rfl h0
     obtain ⟨c',rfl⟩:=hb2
     refine ⟨w',?_,hS,hSt,rfl⟩
     obtain ⟨n,rfl⟩ : ∃ n',n=n'+1:=⟨n-1,by omega⟩
     unfold Builtin.clear_
     simp only [e0,e2,Sem.run_bind,run_underlying hu,Result.andThen_ok,run_zeroT w hz,hzz,hrun,Sem.run_pure]
     rfl
    ·cases e
   ·cases e
 ·cases e
theorem len_sound {t ty:TypeId} {x x' r:Value} (hx:aQ μ x x') (e:lenOfT P t x=some r):(Builtin.len_ #[t] ty #[x']).run P w = .ok r w∧flat r=true:=by
 unfold lenOfT at e
 split at e
 ·rename_i hu;cases e;rw [hx.cI rfl];exact ⟨by simp [Builtin.len_,run_underlying hu,goInt],rfl⟩
 ·rename_i n el _ _ hu;cases e;exact ⟨by simp [Builtin.len_,run_underlying hu,goInt],rfl⟩
 ·rename_i arr hu
  split at e
  ·rename_i ha;cases e;exact ⟨by simp [Builtin.len_,run_underlying hu,run_underlying ha,goInt],rfl⟩
  ·cases e
 ·rename_i hu
  cases e
  obtain ⟨b',c',rfl,_⟩:=hx.nilslice
  exact ⟨by simp [Builtin.len_,run_underlying hu,goInt],rfl⟩
 ·cases e
theorem max_fold : ∀ (l:List Value) (v r:Value),fI true v l=some r→(l.foldlM Builtin.max2 v).run P w = .ok r w∧(bO l=true→flat v=true→flat r=true)
 | [],v,r,e=>by cases e;exact ⟨rfl,fun _ h=>h⟩
 |x::l,v,r,e=>by
  unfold fI at e
  split at e
  ·rename_i h;cases h
  ·rename_i k a k' b rest heq
   cases heq
   split at e
   ·rename_i hk
    subst hk
    obtain ⟨h1,h2⟩:=max_fold l _ r e
    refine ⟨?_,fun hl _=>h2 ?_ rfl⟩
    ·simp only [List.foldlM_cons,Sem.run_bind,Builtin.max2,Sem.run_pure,Result.andThen_ok]
     simpa using h1
    ·simp only [bO,List.all_cons,Bool.and_eq_true] at hl ⊢;exact hl.2
   ·cases e
  ·cases e
theorem min_fold : ∀ (l:List Value) (v r:Value),fI false v l=some r→(l.foldlM Builtin.min2 v).run P w = .ok r w∧(bO l=true→flat v=true→flat r=true)
 | [],v,r,e=>by cases e;exact ⟨rfl,fun _ h=>h⟩
 |x::l,v,r,e=>by
  unfold fI at e
  split at e
  ·rename_i h;cases h
  ·rename_i k a k' b rest heq
   cases heq
   split at e
   ·rename_i hk
    subst hk
    obtain ⟨h1,h2⟩:=min_fold l _ r e
    refine ⟨?_,fun hl _=>h2 ?_ rfl⟩
    ·simp only [List.foldlM_cons,Sem.run_bind,Builtin.min2,Sem.run_pure,Result.andThen_ok]
     simpa using h1
    ·simp only [bO,List.all_cons,Bool.and_eq_true] at hl ⊢;exact hl.2
   ·cases e
  ·cases e
theorem minmax_ints : ∀ {mx:Bool} {l:List Value} {v r:Value},fI mx v l=some r→l ≠ []→bO (v::l)=true∧flat r=true
 |mx,[],v,r,e,h=>absurd rfl h
 |mx,x::l,v,r,e,_=>by
  unfold fI at e
  split at e
  ·rename_i h;cases h
  ·rename_i k a k' b rest heq
   cases heq
   split at e
   ·cases l with
    |nil=>cases e;exact ⟨rfl,rfl⟩
    |cons y l=>
     obtain ⟨h1,h2⟩:=minmax_ints e (by simp)
     simp only [bO,List.all_cons,Bool.and_eq_true] at h1 ⊢
     exact ⟨⟨rfl,rfl,h1.2⟩,h2⟩
   ·cases e
  ·cases e
end ops
end Go.Abs

namespace Go.Abs
mutual
def cU (n:Nat):Value→Bool
 | .pointer (some a)=>a.block<n
 | .slice (some a) _ _=>a.block<n
 | .map (some _)=>false
 | .agg ⟨l⟩=>dy n l
 | .tuple ⟨l⟩=>dy n l
 | .func _ ⟨l⟩ ⟨r⟩=>dy n l&&dy n r
 | .iface _ v=>cU n v
 |_=>true
def dy (n:Nat):List Value→Bool
 | []=>true
 |v::l=>cU n v&&dy n l
end
theorem dh {n:Nat} : ∀ {l:List Value},dy n l=true ↔ ∀ x∈l,cU n x=true
 | []=>by simp [dy]
 |v::l=>by simp [dy,dh (l:=l)]
mutual
theorem bdV_mono {n m:Nat} (h:n≤m) : ∀ {v:Value},cU n v=true→cU m v=true
 | .pointer none,_=>rfl
 | .pointer (some a),e=>by simp only [cU,decide_eq_true_eq] at e ⊢;omega
 | .slice none _ _,_=>rfl
 | .slice (some a) _ _,e=>by simp only [cU,decide_eq_true_eq] at e ⊢;omega
 | .map none,_=>rfl
 | .map (some _),e=>by simp [cU] at e
 | .chan none,_=>rfl
 | .chan (some _),e=>rfl
 | .agg ⟨l⟩,e=>by simp only [cU] at e ⊢;exact dm h e
 | .tuple ⟨l⟩,e=>by simp only [cU] at e ⊢;exact dm h e
 | .func _ ⟨l⟩ ⟨r⟩,e=>by
   simp only [cU,Bool.and_eq_true] at e ⊢
   exact ⟨dm h e.1,dm h e.2⟩
 | .iface _ v,e=>by simp only [cU] at e ⊢;exact bdV_mono h e
 | .bool _,_=>rfl
 | .int _ _,_=>rfl
 | .float _ _,_=>rfl
 | .complex _ _ _,_=>rfl
 | .string _,_=>rfl
 | .nilFunc,_=>rfl
 | .nilIface,_=>rfl
theorem dm {n m:Nat} (h:n≤m) : ∀ {l:List Value},dy n l=true→dy m l=true
 | [],_=>rfl
 |v::l,e=>by
  simp only [dy,Bool.and_eq_true] at e ⊢
  exact ⟨bdV_mono h e.1,dm h e.2⟩
end
theorem bdV_flat {n:Nat} {v:Value} (h:flat v=true):cU n v=true:=by
 cases v with
 |pointer a=>cases a<;>first|rfl|(simp [flat] at h)
 |slice a=>cases a<;>first|rfl|(simp [flat] at h)
 |map a=>cases a<;>first|rfl|(simp [flat] at h)
 |chan a=>cases a<;>first|rfl|(simp [flat] at h)
 |func f a b=>
  cases f<;>simp [flat] at h
  obtain ⟨rfl,rfl⟩:=h
  rfl
 |agg a=>simp [flat] at h
 |tuple a=>simp [flat] at h
 |iface t v=>simp [flat] at h
 |_=>rfl
theorem fD {n:Nat} {l:List Value} (h:bO l=true):dy n l=true:=dh.2 fun x hx=>bdV_flat (List.all_eq_true.1 h x hx)
theorem dq {n:Nat} {a b:List Value} (ha:dy n a=true) (hb:dy n b=true):dy n (a++b)=true:=by
 rw [dh] at *
 intro x hx
 rcases List.mem_append.1 hx with h|h
 ·exact ha x h
 ·exact hb x h
theorem bdL_take {n k:Nat} {a:List Value} (ha:dy n a=true):dy n (a.take k)=true:=by
 rw [dh] at *
 exact fun x hx=>ha x (List.mem_of_mem_take hx)
theorem bdL_drop {n k:Nat} {a:List Value} (ha:dy n a=true):dy n (a.drop k)=true:=by
 rw [dh] at *
 exact fun x hx=>ha x (List.mem_of_mem_drop hx)
theorem bdL_splice {n off:Nat} {a b:List Value} (ha:dy n a=true) (hb:dy n b=true):dy n (bw a off b)=true:=
 dq (dq (bdL_take ha) hb) (bdL_drop ha)
theorem bdL_get {n i:Nat} {a:List Value} {x:Value} (ha:dy n a=true) (hx:a[i]? = some x):cU n x=true:=dh.1 ha x (List.mem_of_getElem? hx)
theorem bdL_set {n i:Nat} {a:List Value} {x:Value} (ha:dy n a=true) (hx:cU n x=true):dy n (a.set i x)=true:=by
 rw [dh] at *
 intro y hy
 rcases List.mem_or_eq_of_mem_set hy with h|h
 ·exact ha y h
 ·subst h;exact hx
theorem bdL_getD {n i:Nat} {a:List Value} (ha:dy n a=true):cU n (a.getD i undef)=true:=by
 rw [List.getD_eq_getElem?_getD]
 cases h:a[i]? with
 |none=>rfl
 |some x=>exact bdL_get ha h
theorem bdV_agg {n:Nat} {a:Array Value}:cU n (.agg a)=dy n a.toList:=by obtain ⟨l⟩:=a;rfl
theorem bdV_tuple {n:Nat} {a:Array Value}:cU n (.tuple a)=dy n a.toList:=by obtain ⟨l⟩:=a;rfl
theorem bdL_cells {n:Nat} {v:Value} (h:cU n v=true):dy n v.cells.toList=true:=by
 cases v with
 |agg a=>rw [bdV_agg] at h;exact h
 |_=>simpa [Value.cells,dy] using h
def Mu.cut (μ:Mu) (n:Nat):Mu:=fun b=>if b<n then μ b else none
theorem Mu.cut_some {μ:Mu} {n b:Nat} {L:Loc} (h:μ b=some L) (hb:b<n):μ.cut n b=some L:=by simp [Mu.cut,hb,h]
def bc (h:ak):Prop := ∀ b k,h.get b=some k→dy h.next k=true
theorem bc.alloc {h:ak} {k:dA} (hb:bc h) (hk:dy (h.next+1) k=true):bc (h.alloc k):=by
 intro b k' hg
 rw [ak.aM] at hg
 rw [ak.cA]
 split at hg
 ·cases hg;exact hk
 ·exact dm (by omega) (hb b k' hg)
theorem bc.put {h:ak} {b:Nat} {x:Option dA} (hb:bc h) (h0:h.n0≤b) (hn:b<h.next) (hk : ∀ k,x=some k→dy h.next k=true):bc (h.put b x):=by
 intro c k' hg
 rw [h.get_put h0 hn] at hg
 rw [ak.next_put]
 split at hg
 ·exact hk _ hg
 ·exact hb c k' hg
theorem bc.stL {b off:Nat} {xs:List Value} {h h':ak} (hb:bc h) (hx:dy h.next xs=true) (e:stL b off xs h=some h'):bc h':=by
 unfold Abs.stL at e
 split at e
 ·rename_i k hk
  split at e
  ·rename_i hc
   simp only [Bool.and_eq_true,decide_eq_true_eq] at hc
   cases e
   exact hb.put hc.1.1 (h.bT hk) (fun k' hk'=>by cases hk';exact bdL_splice (hb b k hk) hx)
  ·cases e
 ·cases e
section ops
variable {P:Program} {h h':ak} {v:Value}
theorem bd_first {size n:Nat} {x:Value} {cs:List Value} (hb:bc h) (e:cj size n x h=some cs):dy h.next cs=true:=by
 unfold cj at e
 split at e
 ·split at e<;>cases e;rfl
 ·split at e
  ·cases e;rfl
  ·split at e
   ·rename_i k hk
    split at e
    ·cases e;exact bdL_take (bdL_drop (hb _ k hk))
    ·cases e
   ·cases e
 ·cases e
  exact fD (by rw [bO,List.all_eq_true];intro x hx;obtain ⟨b,_,rfl⟩:=List.mem_map.1 hx;rfl)
 ·cases e
theorem bd_fill {n:Nat} : ∀ {ts:List (Nat×Nat×Value)} {cells out:List Value},dy n cells=true→(∀ t∈ts,cU n t.2.2=true)→cT cells ts=some out→dy n out=true
 | [],cells,out,hc,_,e=>by simp only [cT,Option.some.injEq] at e;subst e;exact hc
 | (off,k,v)::ts,cells,out,hc,ht,e=>by
   simp only [cT] at e
   split at e
   ·exact bd_fill (ts:=ts) (bdL_splice hc (bdL_cells (ht (off,k,v) (by simp)))) (fun t hm=>ht t (by simp [hm])) e
   ·cases e
theorem flat_zeros {z:List Value} {n:Nat} (h:bO z=true):bO (df z n)=true:=by
 simp only [bO,List.all_eq_true,df,List.mem_flatMap] at h ⊢
 rintro x ⟨_,_,hx⟩;exact h x hx
theorem bd_append {size by_:Nat} {s x:Value} (hb:bc h) (hs:cU h.next s=true) (e:aO size by_ s x h=some (v,h')):cU h'.next v=true∧bc h':=by
 unfold aO at e
 split at e
 ·rename_i base len cap m hm
  split at e
  ·cases e
  ·rename_i news hnews
   have hn:=bd_first hb hnews
   split at e
   ·cases e
   ·split at e
    ·split at e
     ·cases e;exact ⟨hs,hb⟩
     ·split at e
      ·simp only [Option.map_eq_some_iff,Prod.mk.injEq] at e
       obtain ⟨h1,hst,rfl,rfl⟩:=e
       have hgr:h1.next=h.next:=by
        unfold stL at hst
        split at hst
        ·split at hst
         ·cases hst;rfl
         ·cases hst
        ·cases hst
       exact ⟨by rw [hgr];simpa [cU] using hs,hb.stL hn hst⟩
      ·cases e
    ·split at e
     ·split at e
      ·simp only [Option.some.injEq,Prod.mk.injEq] at e
       obtain ⟨rfl,rfl⟩:=e
       exact ⟨by simp [cU],hb.alloc (dm (by omega) hn)⟩
      ·cases e
     ·split at e
      ·cases e
      ·rename_i olds holds
       have ho:=bd_first hb holds
       split at e
       ·cases e
       ·split at e
        ·simp only [Option.some.injEq,Prod.mk.injEq] at e
         obtain ⟨rfl,rfl⟩:=e
         exact ⟨by simp [cU],hb.alloc (dm (by omega) (dq ho hn))⟩
        ·split at e
         ·rename_i hc
          simp only [Bool.and_eq_true,decide_eq_true_eq] at hc
          obtain ⟨k,hk⟩:=Option.isSome_iff_exists.1 hc.2
          simp only [Option.some.injEq,Prod.mk.injEq] at e
          obtain ⟨rfl,rfl⟩:=e
          have hkl:bc (h.kill _):=hb.put hc.1.2 (h.bT hk) (fun k' hk'=>by cases hk')
          exact ⟨by simp [cU],hkl.alloc (dm (by simp) (dq ho hn))⟩
         ·cases e
 ·cases e
theorem bd_ld {t:TypeId} {x:Value} (hb:bc h) (e:ld P t x h=some (v,h')):cU h'.next v=true∧bc h':=by
 unfold ld at e
 split at e
 ·unfold bP at e
  split at e
  ·split at e
   ·rename_i k hk
    split at e
    ·simp only [Option.some.injEq,Prod.mk.injEq] at e
     obtain ⟨rfl,rfl⟩:=e
     exact ⟨by rw [bdV_agg];exact bdL_take (bdL_drop (hb _ k hk)),hb⟩
    ·cases e
   ·cases e
  ·cases e
 ·unfold aK at e
  split at e
  ·split at e
   ·rename_i k hk
    split at e
    ·rename_i c hc
     split at e
     ·simp only [Option.some.injEq,Prod.mk.injEq] at e
      obtain ⟨rfl,rfl⟩:=e
      exact ⟨bdL_get (hb _ k hk) hc,hb⟩
     ·cases e
    ·cases e
   ·cases e
  ·cases e
 ·cases e
theorem bd_st {t:TypeId} {x y:Value} (hb:bc h) (hy:cU h.next y=true) (e:st P t x y h=some (v,h')):cU h'.next v=true∧bc h':=by
 unfold st at e
 split at e
 ·unfold dH at e
  split at e
  ·split at e
   ·simp only [Option.map_eq_some_iff,Prod.mk.injEq] at e
    obtain ⟨h1,hst,rfl,rfl⟩:=e
    exact ⟨rfl,hb.stL (bdL_cells hy) hst⟩
   ·cases e
  ·cases e
 ·cases e
theorem bd_sliceSl {n size:Nat} {x r:Value} {lo hi mx:Option Value} (hx:cU n x=true) (e:sliceSl size x lo hi mx=some r):cU n r=true:=by
 unfold sliceSl at e
 repeat' split at e
 all_goals first
  | (cases e;done)
  | (cases e;first|rfl|(simpa [cU] using hx))
theorem bd_sliceArr {n k size:Nat} {x r:Value} {lo hi mx:Option Value} (hx:cU n x=true) (e:bY k size x lo hi mx=some r):cU n r=true:=by
 unfold bY at e
 repeat' split at e
 all_goals first
  | (cases e;done)
  | (cases e;simpa [cU] using hx)
theorem bd_slice {n:Nat} {t:TypeId} {x r:Value} {lo hi mx:Option Value} (hx:cU n x=true) (e:sliceA P t x lo hi mx=some r):cU n r=true:=by
 unfold sliceA at e
 split at e
 ·simp only [Option.bind_eq_some_iff] at e
  obtain ⟨z,_,e⟩:=e
  exact bd_sliceArr hx e
 ·split at e
  ·simp only [Option.bind_eq_some_iff] at e
   obtain ⟨z,_,e⟩:=e
   exact bd_sliceArr hx e
  ·cases e
 ·split at e
  ·cases e
  ·simp only [Option.bind_eq_some_iff] at e
   obtain ⟨z,_,e⟩:=e
   exact bd_sliceSl hx e
 ·split at e
  ·exact bd_sliceSl hx e
  ·cases e
 ·cases e
theorem bd_addP {n k:Nat} {x r:Value} (hx:cU n x=true) (e:az x k=some r):cU n r=true:=by
 unfold az at e
 split at e
 ·cases e;simpa [cU,ptr] using hx
 ·cases e
theorem bd_fieldAt {n:Nat} {t:TypeId} {x r:Value} {i:Nat} (hx:cU n x=true) (e:fieldAtA P t x i=some r):cU n r=true:=by
 unfold fieldAtA at e
 repeat' split at e
 all_goals first
  | (cases e;done)
  |exact bd_addP hx e
theorem bd_indexAt {n:Nat} {t:TypeId} {x ix r:Value} (hx:cU n x=true) (e:indexAtA P t x ix=some r):cU n r=true:=by
 unfold indexAtA at e
 split at e
 ·simp only [Option.bind_eq_some_iff] at e
  obtain ⟨z,_,e⟩:=e
  unfold idxA at e
  repeat' split at e
  all_goals first
   | (cases e;done)
   |exact bd_addP hx e
 ·simp only [Option.bind_eq_some_iff] at e
  obtain ⟨z,_,e⟩:=e
  unfold cD at e
  repeat' split at e
  all_goals first
   | (cases e;done)
   | (cases e;simpa [cU,ptr] using hx)
 ·cases e
theorem bd_part {n:Nat} {t:TypeId} {cs:Array Value} {off:Nat} {r:Value} (hx:dy n cs.toList=true) (e:partA P t cs off=some r):cU n r=true:=by
 unfold partA at e
 split at e
 ·cases e
  rw [bdV_agg]
  have : ∀ k,(cs.extract off (off+k)).toList=(cs.toList.drop off).take k:=by intro k;simp
  rw [this]
  exact bdL_take (bdL_drop hx)
 ·exact bdL_get (i:=off) hx (by simpa using e)
 ·cases e
theorem bd_field {n:Nat} {t:TypeId} {x r:Value} {i:Nat} (hx:cU n x=true) (e:fieldA P t x i=some r):cU n r=true:=by
 unfold fieldA at e
 split at e
 ·split at e
  ·rw [bdV_agg] at hx;exact bd_part hx e
  ·cases e
 ·cases e
theorem bd_index {n:Nat} {t:TypeId} {x ix r:Value} (hx:cU n x=true) (e:indexA P t x ix=some r):cU n r=true:=by
 unfold indexA at e
 split at e
 ·split at e
  ·simp only [Option.bind_eq_some_iff] at e
   obtain ⟨z,_,e⟩:=e
   rw [bdV_agg] at hx;exact bd_part hx e
  ·cases e
 ·split at e
  ·simp only [Option.map_eq_some_iff] at e
   obtain ⟨b,_,rfl⟩:=e
   rfl
  ·cases e
 ·cases e
theorem bd_extract {n:Nat} {x r:Value} {i:Nat} (hx:cU n x=true) (e:aV x i=some r):cU n r=true:=by
 unfold aV at e
 split at e
 ·rw [bdV_tuple] at hx;exact bdL_get (i:=i) hx (by simpa using e)
 ·cases e
theorem bd_nil {n:Nat} {x r:Value} (hx:cU n x=true) (e:bZ x=some r):cU n r=true:=by
 unfold bZ at e
 split at e<;>cases e<;>exact hx
theorem bd_build {n:Nat} {t:TypeId} {ps:List (Nat×Value)} {r:Value} (hx : ∀ p∈ps,cU n p.2=true) (e:buildA P t ps=some r):cU n r=true:=by
 unfold buildA at e
 split at e
 ·split at e
  ·rename_i hf
   simp only [Bool.and_eq_true] at hf
   split at e
   ·rename_i ts hts
    simp only [Option.map_eq_some_iff] at e
    obtain ⟨cs,hcs,rfl⟩:=e
    rw [bdV_agg]
    refine bd_fill (fD hf.1) ?_ hcs
    have key : ∀ {fs:Array Field} {ps:List (Nat×Value)} {ts},(∀ p∈ps,cU n p.2=true)→ez P fs ps=some ts → ∀ t∈ts,cU n t.2.2=true:=by
     intro fs ps
     induction ps with
     |nil=>intro ts _ h;simp [ez] at h;subst h;simp
     |cons p ps ih=>
      intro ts hp h
      unfold ez at h
      rw [List.mapM_cons] at h
      simp only [bind,Option.bind_eq_some_iff,pure,Option.some.injEq] at h
      obtain ⟨a,ha,l,hl,rfl⟩:=h
      split at ha
      ·simp only [Option.map_eq_some_iff] at ha
       obtain ⟨k,_,rfl⟩:=ha
       intro t ht
       rcases List.mem_cons.1 ht with rfl|ht
       ·exact hp p (by simp)
       ·exact ih (fun q hq=>hp q (by simp [hq])) hl t ht
      ·cases ha
    exact key hx hts
   ·cases e
  ·cases e
 ·split at e
  ·split at e
   ·rename_i hf
    simp only [Option.map_eq_some_iff] at e
    obtain ⟨cs,hcs,rfl⟩:=e
    rw [bdV_agg]
    refine bd_fill (fD hf) ?_ hcs
    intro t ht
    obtain ⟨p,hp,rfl⟩:=List.mem_map.1 ht
    exact hx p hp
   ·cases e
  ·cases e
 ·cases e
theorem bd_conv {s d:TypeId} {x:Value} (hb:bc h) (hx:cU h.next x=true) (e:convA P s d x h=some (v,h')):cU h'.next v=true∧bc h':=by
 unfold convA at e
 repeat' split at e
 all_goals first
  | (cases e;done)
  | (simp only [Option.some.injEq,Prod.mk.injEq] at e
     obtain ⟨rfl,rfl⟩:=e
     first
      |exact ⟨rfl,hb⟩
      |exact ⟨hx,hb⟩
      |exact ⟨by simp [cU],hb.alloc (fD (by rw [bO,List.all_eq_true];intro x hx;obtain ⟨b,_,rfl⟩:=List.mem_map.1 hx;rfl))⟩)
theorem bd_make {t:TypeId} {l c:Value} (hb:bc h) (e:makeA P t l c h=some (v,h')):cU h'.next v=true∧bc h':=by
 unfold makeA at e
 split at e
 ·split at e
  ·split at e
   ·rename_i hc
    simp only [Bool.and_eq_true,decide_eq_true_eq] at hc
    simp only [Option.some.injEq,Prod.mk.injEq] at e
    obtain ⟨rfl,rfl⟩:=e
    exact ⟨by simp [cU],hb.alloc (fD (flat_zeros hc.1.1.2))⟩
   ·cases e
  ·cases e
 ·cases e
theorem bd_buildSlice {t:TypeId} {len:Nat} {ps:List (Nat×Value)} (hb:bc h) (hx : ∀ p∈ps,cU h.next p.2=true) (e:ey P t len ps h=some (v,h')):cU h'.next v=true∧bc h':=by
 unfold ey at e
 split at e
 ·split at e
  ·split at e
   ·rename_i hc
    simp only [Bool.and_eq_true,decide_eq_true_eq] at hc
    split at e
    ·rename_i cs hcs
     simp only [Option.some.injEq,Prod.mk.injEq] at e
     obtain ⟨rfl,rfl⟩:=e
     refine ⟨by simp [cU],hb.alloc (dm (Nat.le_succ _) (bd_fill (fD (flat_zeros hc.1.1.1.1)) ?_ hcs))⟩
     intro t ht
     obtain ⟨p,hp,rfl⟩:=List.mem_map.1 ht
     exact hx p hp
    ·cases e
   ·cases e
  ·cases e
 ·cases e
theorem bd_minmax {n:Nat} {mx:Bool} : ∀ {l:List Value} {x r:Value},cU n x=true→fI mx x l=some r→cU n r=true
 | [],x,r,hx,e=>by cases e;exact hx
 |y::l,x,r,hx,e=>by
  unfold fI at e
  split at e
  ·rename_i h;cases h
  ·rename_i k a k' b rest heq
   cases heq
   split at e
   ·exact bd_minmax (l:=l) rfl e
   ·cases e
  ·cases e
theorem bd_builtin {b:Builtin} {ts:List TypeId} {args:List Value} (hb:bc h) (ha:dy h.next args=true) (e:builtinA P b ts args h=some (v,h')):cU h'.next v=true∧bc h':=by
 unfold builtinA at e
 split at e
 ·simp only [dy,Bool.and_eq_true] at ha
  repeat' split at e
  all_goals first
   | (cases e;done)
   |exact bd_append hb ha.1 e
 ·split at e
  ·simp only [Option.bind_eq_some_iff] at e
   obtain ⟨n,_,e⟩:=e
   unfold copyA at e
   split at e
   ·simp only at e
    split at e
    ·cases e
    ·rename_i news hn
     split at e
     ·cases e;exact ⟨rfl,hb⟩
     ·split at e
      ·cases e
      ·simp only [Option.map_eq_some_iff,Prod.mk.injEq] at e
       obtain ⟨h1,hst,rfl,rfl⟩:=e
       exact ⟨rfl,hb.stL (bd_first hb hn) hst⟩
   ·cases e
  ·cases e
 ·split at e
  ·simp only [Option.bind_eq_some_iff] at e
   obtain ⟨n,_,e⟩:=e
   unfold clearA at e
   split at e
   ·cases e;exact ⟨rfl,hb⟩
   ·split at e
    ·cases e;exact ⟨rfl,hb⟩
    ·split at e
     ·split at e
      ·rename_i hc
       simp only [Bool.and_eq_true,decide_eq_true_eq] at hc
       simp only [Option.map_eq_some_iff,Prod.mk.injEq] at e
       obtain ⟨h1,hst,rfl,rfl⟩:=e
       exact ⟨rfl,hb.stL (fD (flat_zeros hc.1.1)) hst⟩
      ·cases e
     ·cases e
   ·cases e
  ·cases e
 ·simp only [Option.map_eq_some_iff,Prod.mk.injEq] at e
  obtain ⟨r,hr,rfl,rfl⟩:=e
  unfold lenOfT at hr
  repeat' split at hr
  all_goals first
   | (cases hr;done)
   | (cases hr;exact ⟨rfl,hb⟩)
 ·simp only [dy,Bool.and_eq_true] at ha
  simp only [Option.map_eq_some_iff,Prod.mk.injEq] at e
  obtain ⟨r,hr,rfl,rfl⟩:=e
  exact ⟨bd_minmax ha.1 hr,hb⟩
 ·simp only [dy,Bool.and_eq_true] at ha
  simp only [Option.map_eq_some_iff,Prod.mk.injEq] at e
  obtain ⟨r,hr,rfl,rfl⟩:=e
  exact ⟨bd_minmax ha.1 hr,hb⟩
 ·cases e
end ops
end Go.Abs

namespace Go.Abs
structure bH (P:Program) (C:av):Prop where
 fn : ∀ f args h v h', C f args h = some (v, h') → ∃ fn, P.funcs[f]? = some fn ∧ (fn.name == "runtime.NumGoroutine") = false ∧ fn.body.isNone = false
 grow : ∀ f args h v h',C f args h=some (v,h')→h.next≤h'.next∧h'.n0=h.n0∧h'.bm=h.bm
 bd : ∀ f args h v h',C f args h=some (v,h')→dy h.next args=true→bc h→cU h'.next v=true∧bc h'
 run : ∀ f args h v h',C f args h=some (v,h')→dy h.next args=true→bc h→P.globals.size≤h.n0 → ∀ μ w args',de μ h w→ft μ h h'→bp μ args args' →
  Calls P f args'.toArray w fun e w' => ∃ μ' v',e = .returned v'∧de μ' h' w'∧Step μ h w μ' h' w'∧aQ μ' v v'
def opdOk (P:Program):Operand→Bool
 | .const v=>flat v
 | .global g=>g<P.globals.size
 |_=>true
def operOk (P:Program) (o:Oper):Bool:=o.op.operands.toList.all (opdOk P)
section ops
variable {P:Program} {C:av} {μ:Mu} {h:ak} {w:World}
theorem undef_rel:aQ μ undef undef:=aQ.undef μ
def Good (P:Program) (o:Oper) (a:Act) (μ:Mu) (h:ak) (w:World) (v:Value) (h':ak):Prop:=
 ∀ (K:Act→World→Prop) (Q:Exit→Act→World→Prop),(∀ μ' v' w',de μ' h' w'→Step μ h w μ' h' w'→aQ μ' v v'→K (a.put o.dst v') w')→o.wp P a w K Q
theorem dO {o:Oper} {a:Act} {v:Value} {h':ak} {s:Sem Value} (ho:execOp a.eval o=(do pure (.value (←s))))
  (e : ∃ μ' v' w',s.run P w = .ok v' w'∧de μ' h' w'∧Step μ h w μ' h' w'∧aQ μ' v v'):Good P o a μ h w v h':=by
 intro K Q hK
 obtain ⟨μ',v',w',hr,hS,hSt,hv⟩:=e
 unfold Oper.wp
 rw [ho]
 simp only [Sem.run_bind,hr,Result.andThen_ok,Sem.run_pure,Oper.upon]
 exact hK μ' v' w' hS hSt hv
theorem good_skip {o:Oper} {a:Act} {v:Value} {h':ak} {s:Sem Unit} (ho:execOp a.eval o=(do s;pure .skip))
  (e:v=undef ∧ ∃ w',s.run P w = .ok () w'∧de μ h' w'∧Step μ h w μ h' w'):Good P o a μ h w v h':=by
 intro K Q hK
 obtain ⟨rfl,w',hr,hS,hSt⟩:=e
 unfold Oper.wp
 rw [ho]
 simp only [Sem.run_bind,hr,Result.andThen_ok,Sem.run_pure,Oper.upon]
 exact hK μ undef w' hS hSt undef_rel
theorem iface_sound {t:TypeId} {x x' r:Value} (hx:aQ μ x x') (e:ifaceA P t x=some r) : ∃ r',(Instr.makeInterface t x').run P w = .ok r' w∧aQ μ r r':=by
 unfold ifaceA at e
 cases ht:P.underlying t with
 |none=>rw [ht] at e;cases e
 |some d=>
  rw [ht] at e
  have hr : (Instr.makeInterface t x').run P w = (match d with | .interface _ => (stuck "MakeInterface: a concrete type expected" : Sem Value) | _ => pure (.iface t x')).run P w := by
   unfold Instr.makeInterface
   rw [Sem.run_bind,run_underlying ht]
   rfl
  cases d with
  |interface m=>cases e
  |_=>cases e;exact ⟨_,by rw [hr];rfl,.iface hx⟩
theorem cu {o:Oper} {a:Act} {v:Value} {s:Sem Value} (S:de μ h w) (ho:execOp a.eval o=(do pure (.value (←s))))
  (e : ∃ v',s.run P w = .ok v' w∧aQ μ v v'):Good P o a μ h w v h:=by
 obtain ⟨v',hr,hv⟩:=e
 exact dO ho ⟨μ,v',w,hr,S,.cN,hv⟩
theorem pairs_rel {ρ ρ':Operand→Value} {parts:Array (Nat×Operand)} (hρ : ∀ x∈(parts.toList.map (·.2)),aQ μ (ρ x) (ρ' x)) :
  (parts.toList.map fun (i,x)=>(i,ρ x)).length=(parts.map fun (i,x)=>(i,ρ' x)).size ∧
  ∀ (i:Nat) (x y:Nat×Value),(parts.toList.map fun (i,x)=>(i,ρ x))[i]? = some x→(parts.map fun (i,x)=>(i,ρ' x)).toList[i]? = some y→x.1=y.1∧aQ μ x.2 y.2:=by
 refine ⟨by simp,fun i x y hx hy => ?_⟩
 rw [Array.toList_map] at hy
 rw [List.getElem?_map] at hx hy
 cases hp:parts.toList[i]? with
 |none=>rw [hp] at hx;cases hx
 |some p=>
  rw [hp] at hx hy
  simp only [Option.map_some,Option.some.injEq] at hx hy
  subst hx hy
  exact ⟨rfl,hρ _ (List.mem_map.2 ⟨p,List.mem_of_getElem? hp,rfl⟩)⟩
theorem opt_rel {ρ ρ':Operand→Value} {x:Option Operand} (hρ : ∀ y,x=some y→aQ μ (ρ y) (ρ' y)):ORel μ (x.map ρ) (x.map ρ'):=by
 cases x with
 |none=>exact .inl ⟨rfl,rfl⟩
 |some y=>exact .inr ⟨_,_,rfl,rfl,hρ y rfl⟩
theorem list_rel {ρ ρ':Operand→Value} : ∀ {l:List Operand},(∀ x∈l,aQ μ (ρ x) (ρ' x))→bp μ (l.map ρ) (l.map ρ')
 | [],_=>bp.nil μ
 |x::l,h=>bp.cons (h x (by simp)) (list_rel fun y hy=>h y (by simp [hy]))
theorem builtin_exec {o:Oper} {a:Act} {c:Call} {b:Builtin} (ho:o.op = .call c) (hc:c.callee = .builtin b) :
  execOp a.eval o=builtin b c.argTypes o.type (c.args.map fun | .const _=>true|_=>false) (c.args.map a.eval):=by
 unfold execOp
 rw [ho]
 simp only
 unfold resolve
 rw [hc]
 rfl
theorem cZ {α:Type} {x:Array α} {l:List α} (h:x.toList=l):x=l.toArray:=by
 rw [←h]
theorem elemT_some {t el:TypeId} (h:fG P t=some el):P.underlying t=some (.slice el):=by
 unfold fG at h
 split at h
 ·cases h;assumption
 ·cases h
theorem aQ.func_iff {f:Fn} {x y:Array Value} {v:Value} (hv:aQ μ (.func f x y) v) : ∃ x' y',v = .func f x' y'∧bp μ x.toList x'.toList∧bp μ y.toList y'.toList:=by
 cases hv with
 |flat h=>
  cases f<;>simp [Abs.flat] at h
  obtain ⟨rfl,rfl⟩:=h
  exact ⟨_,_,rfl,bp.nil μ,bp.nil μ⟩
 |func h1 h2 h3 h4=>
  exact ⟨_,_,rfl,⟨by simpa using h1,fun i a b ha hb=>h2 i a b (by simpa using ha) (by simpa using hb)⟩,⟨by simpa using h3,fun i a b ha hb=>h4 i a b (by simpa using ha) (by simpa using hb)⟩⟩
theorem opA_sound (hC:bH P C) {o:Oper} {ρ:Operand→Value} {a:Act} {v:Value} {h':ak} (S:de μ h w) (hf:ft μ h h')
  (hρ : ∀ x∈o.op.operands.toList,aQ μ (ρ x) (a.eval x)) (hg:P.globals.size≤h.n0) (hbd : ∀ c f,o.op = .call c→c.callee = .value f→(∀ x∈o.op.operands.toList,cU h.next (ρ x)=true)∧bc h)
  (e:opA P C o ρ h=some (v,h')):Good P o a μ h w v h':=by
 have pure_of : ∀ {r:Option Value} {v:Value} {h':ak},r.map (fun v=>(v,h))=some (v,h')→r=some v∧h'=h:=by
  intro r v h' e
  simp only [Option.map_eq_some_iff,Prod.mk.injEq] at e
  obtain ⟨x,rfl,rfl,rfl⟩:=e
  exact ⟨rfl,rfl⟩
 have hop : ∀ op,o.op=op→(∀ x∈op.operands.toList,aQ μ (ρ x) (a.eval x)):=fun op h=>h▸hρ
 unfold opA at e
 simp only at e
 split at e
 ·rename_i x heq
  cases e
  exact cu S (s:=pure (a.eval x)) (by unfold execOp;rw [heq];try rfl) ⟨_,rfl,hop _ heq x (by simp [Op.operands])⟩
 ·rename_i x heq
  cases e
  exact cu S (s:=pure (a.eval x)) (by unfold execOp;rw [heq];try rfl) ⟨_,rfl,hop _ heq x (by simp [Op.operands])⟩
 ·rename_i c x y heq
  split at e
  ·rename_i t ht
   cases e
   have hc:=hop _ heq c (by simp [Op.operands])
   rw [ht] at hc
   refine cu S (s:=do pure (if ←asBool (a.eval c) then a.eval x else a.eval y)) (by unfold execOp;rw [heq];simp) ⟨if t then a.eval x else a.eval y,?_,?_⟩
   ·rw [hc.bool];cases t<;>simp [asBool]
   ·cases t
    ·exact hop _ heq y (by simp [Op.operands])
    ·exact hop _ heq x (by simp [Op.operands])
  ·cases e
 ·rename_i t heq
  exact dO (s:=Instr.alloc t true (.tuple #[])) (by unfold execOp;rw [heq];try rfl) (zero_sound S hf e)
 ·rename_i t x heq
  exact dO (s:=Instr.box t (a.eval x)) (by unfold execOp;rw [heq];try rfl) (box_sound S hf (hop _ heq x (by simp [Op.operands])) e)
 ·rename_i t parts heq
  obtain ⟨e2,rfl⟩:=pure_of e
  have hp:=pairs_rel (parts:=parts) (fun x hx=>hop _ heq x (by simpa [Op.operands] using hx))
  exact cu S (s:=Instr.build t (parts.map fun (i,x)=>(i,a.eval x))) (by unfold execOp;rw [heq];try rfl) (build_sound hp.1 hp.2 e2)
 ·rename_i t len parts heq
  have hp:=pairs_rel (parts:=parts) (fun x hx=>hop _ heq x (by simpa [Op.operands] using hx))
  exact dO (s:=Instr.buildSlice t len (parts.map fun (i,x)=>(i,a.eval x))) (by unfold execOp;rw [heq];try rfl) (buildSlice_sound S hf hp.1 hp.2 e)
 ·rename_i t x heq
  obtain ⟨rfl,r',hr,hv⟩:=ld_sound (P:=P) S (hop _ heq x (by simp [Op.operands])) e
  exact cu S (s:=Instr.loadAt t (a.eval x)) (by unfold execOp;rw [heq];try rfl) ⟨r',hr,hv⟩
 ·rename_i t x y heq
  exact good_skip (s:=Instr.storeAt t (a.eval x) (a.eval y)) (by unfold execOp;rw [heq];try rfl) (st_sound S (hop _ heq x (by simp [Op.operands])) (hop _ heq y (by simp [Op.operands])) e)
 ·rename_i x heq
  obtain ⟨e2,rfl⟩:=pure_of e
  obtain ⟨hv,hx⟩:=nilCheck_rel (hop _ heq x (by simp [Op.operands])) e2
  refine cu S (s:=pure (a.eval x)) ?_ ⟨_,rfl,hv⟩
  unfold execOp
  rw [heq]
  rcases hx with ⟨b,hx⟩|⟨f,b,c,hx⟩
  ·simp only [hx];rfl
  ·simp only [hx];rfl
 ·rename_i op t x y u heq
  obtain ⟨e2,rfl⟩:=pure_of e
  have hx:=hop _ heq x (by simp [Op.operands])
  have hy:=hop _ heq y (by simp [Op.operands])
  refine cu S (s:=(do eqGuard op t x y (a.eval x) (a.eval y);binOp op t (a.eval x) (a.eval y))) (by unfold execOp;rw [heq];try rfl) ⟨v,bin_sound hx hy e2,.flat (bin_flat e2)⟩
 ·rename_i op t x heq
  obtain ⟨e2,rfl⟩:=pure_of e
  refine cu S (s:=Op.unary op (a.eval x)) (by unfold execOp;rw [heq];try rfl) ⟨v,un_sound (hop _ heq x (by simp [Op.operands])) e2,.flat (un_flat e2)⟩
 ·rename_i s d x heq
  exact dO (s:=convert s d (a.eval x)) (by unfold execOp;rw [heq];try rfl) (conv_sound S hf (hop _ heq x (by simp [Op.operands])) e)
 ·rename_i t l c heq
  exact dO (s:=Instr.makeSlice t (a.eval l) (a.eval c)) (by unfold execOp;rw [heq];try rfl) (make_sound S hf (hop _ heq l (by simp [Op.operands])) (hop _ heq c (by simp [Op.operands])) e)
 ·rename_i t x lo hi mx heq
  obtain ⟨e2,rfl⟩:=pure_of e
  exact cu S (s:=Instr.sliceAt t (a.eval x) (lo.map a.eval) (hi.map a.eval) (mx.map a.eval)) (by unfold execOp;rw [heq];try rfl)
   (slice_sound (hop _ heq x (by simp [Op.operands])) (opt_rel fun y hy=>hop _ heq y (by subst hy;simp [Op.operands])) (opt_rel fun y hy=>hop _ heq y (by subst hy;simp [Op.operands])) (opt_rel fun y hy=>hop _ heq y (by subst hy;simp [Op.operands])) e2)
 ·rename_i t x i heq
  obtain ⟨e2,rfl⟩:=pure_of e
  exact cu S (s:=Instr.fieldAt t (a.eval x) i) (by unfold execOp;rw [heq];try rfl) (fieldAt_sound (hop _ heq x (by simp [Op.operands])) e2)
 ·rename_i t x i heq
  obtain ⟨e2,rfl⟩:=pure_of e
  exact cu S (s:=Instr.field t (a.eval x) i) (by unfold execOp;rw [heq];try rfl) (field_sound (hop _ heq x (by simp [Op.operands])) e2)
 ·rename_i t x i heq
  obtain ⟨e2,rfl⟩:=pure_of e
  exact cu S (s:=Instr.indexAt t (a.eval x) (a.eval i)) (by unfold execOp;rw [heq];try rfl) (indexAt_sound (hop _ heq x (by simp [Op.operands])) (hop _ heq i (by simp [Op.operands])) e2)
 ·rename_i t x i heq
  obtain ⟨e2,rfl⟩:=pure_of e
  exact cu S (s:=Instr.index t (a.eval x) (a.eval i)) (by unfold execOp;rw [heq];try rfl) (index_sound (hop _ heq x (by simp [Op.operands])) (hop _ heq i (by simp [Op.operands])) e2)
 ·rename_i t i heq
  obtain ⟨e2,rfl⟩:=pure_of e
  exact cu S (s:=Instr.extract (a.eval t) i) (by unfold execOp;rw [heq];try rfl) (extract_sound (hop _ heq t (by simp [Op.operands])) e2)
 ·rename_i f first captured heq
  obtain ⟨rfl,rfl⟩:Value.func f (first.map ρ) (captured.map ρ)=v∧h=h':=by simpa using e
  refine cu S (s:=Instr.makeFunc f (first.map a.eval) (captured.map a.eval)) (by unfold execOp;rw [heq];try rfl) ⟨_,rfl,.func (by simp) ?_ (by simp) ?_⟩
  ·intro i x y hx hy
   rw [Array.getElem?_map] at hx hy
   cases hf:first[i]? with
   |none=>rw [hf] at hx;cases hx
   |some z=>
    rw [hf] at hx hy
    cases hx;cases hy
    exact hop _ heq z (by simp only [Op.operands,Array.toList_append,List.mem_append];exact .inl (Array.mem_toList_iff.2 (Array.mem_of_getElem? hf)))
  ·intro i x y hx hy
   rw [Array.getElem?_map] at hx hy
   cases hf:captured[i]? with
   |none=>rw [hf] at hx;cases hx
   |some z=>
    rw [hf] at hx hy
    cases hx;cases hy
    exact hop _ heq z (by simp only [Op.operands,Array.toList_append,List.mem_append];exact .inr (Array.mem_toList_iff.2 (Array.mem_of_getElem? hf)))
 ·rename_i t x heq
  obtain ⟨e2,rfl⟩:=pure_of e
  exact cu S (s:=Instr.makeInterface t (a.eval x)) (by unfold execOp;rw [heq];try rfl) (iface_sound (hop _ heq x (by simp [Op.operands])) e2)
 ·rename_i c heq
  have hargs : ∀ x∈c.args.toList,aQ μ (ρ x) (a.eval x):=fun x hx=>hop _ heq x (by
   simp only [Op.operands,Call.operands,Array.toList_append,List.mem_append];exact .inr hx)
  split at e
  ·rename_i b hcb
   have hex:=builtin_exec (a:=a) heq hcb
   unfold builtinA at e
   split at e
   ·rename_i _ _ _ s x t tx ha ht
    obtain ⟨os,l,hos,rfl,hl⟩:=List.map_eq_cons_iff.1 ha
    obtain ⟨ox,l,rfl,rfl,hl2⟩:=List.map_eq_cons_iff.1 hl
    obtain rfl:=List.map_eq_nil_iff.1 hl2
    have ec:c.args.map a.eval = #[a.eval os,a.eval ox]:=by rw [cZ hos];simp
    have et:=cZ ht
    have hs:=hargs os (by rw [hos];simp)
    have hx:=hargs ox (by rw [hos];simp)
    split at e
    ·rename_i el hel
     have hu:=elemT_some hel
     split at e
     ·rename_i n by_ z d hn hby hz hd
      split at e
      ·cases e
      ·rename_i hc
       simp only [Bool.or_eq_true,Bool.not_eq_true',decide_eq_true_eq,not_or,decide_eq_false_iff_not,Decidable.not_not,Bool.not_eq_true] at hc
       refine dO (s:=Builtin.append_ #[t,tx] o.type #[a.eval os,a.eval ox]) ?_ (append_sound hu hd hc.1.1 hn hby hz hc.1.2 (by omega) S hf hs hx e)
       rw [hex,ec,et];rfl
     ·cases e
    ·cases e
   ·rename_i _ _ _ d s t tx ha ht
    obtain ⟨os,l,hos,rfl,hl⟩:=List.map_eq_cons_iff.1 ha
    obtain ⟨ox,l,rfl,rfl,hl2⟩:=List.map_eq_cons_iff.1 hl
    obtain rfl:=List.map_eq_nil_iff.1 hl2
    have ec:c.args.map a.eval = #[a.eval os,a.eval ox]:=by rw [cZ hos];simp
    have et:=cZ ht
    have hs:=hargs os (by rw [hos];simp)
    have hx:=hargs ox (by rw [hos];simp)
    split at e
    ·rename_i el hel
     have hu:=elemT_some hel
     simp only [Option.bind_eq_some_iff] at e
     obtain ⟨n,hn,e⟩:=e
     obtain ⟨w',hrun,hS,hSt,k,rfl⟩:=copy_sound (P:=P) (sT:=tx) (ty:=o.type) hu hn S hs hx e
     refine dO (s:=Builtin.copy_ #[t,tx] o.type #[a.eval os,a.eval ox]) ?_ ⟨μ,_,w',hrun,hS,hSt,.flat rfl⟩
     rw [hex,ec,et];rfl
    ·cases e
   ·rename_i _ _ _ d t ha ht
    obtain ⟨os,l,hos,rfl,hl⟩:=List.map_eq_cons_iff.1 ha
    obtain rfl:=List.map_eq_nil_iff.1 hl
    have ec:c.args.map a.eval = #[a.eval os]:=by rw [cZ hos];simp
    have et:=cZ ht
    have hs:=hargs os (by rw [hos];simp)
    split at e
    ·rename_i el hel
     have hu:=elemT_some hel
     simp only [Option.bind_eq_some_iff] at e
     obtain ⟨n,hn,e⟩:=e
     obtain ⟨w',hrun,hS,hSt,rfl⟩:=clear_sound (P:=P) (ty:=o.type) hu S hs e
     refine dO (s:=Builtin.clear_ #[t] o.type #[a.eval os]) ?_ ⟨μ,_,w',hrun,hS,hSt,undef_rel⟩
     rw [hex,ec,et];rfl
    ·cases e
   ·rename_i _ _ _ x t ha ht
    obtain ⟨os,l,hos,rfl,hl⟩:=List.map_eq_cons_iff.1 ha
    obtain rfl:=List.map_eq_nil_iff.1 hl
    have ec:c.args.map a.eval = #[a.eval os]:=by rw [cZ hos];simp
    have et:=cZ ht
    have hs:=hargs os (by rw [hos];simp)
    obtain ⟨e2,rfl⟩:=pure_of e
    obtain ⟨hr,hfl⟩:=len_sound (P:=P) (w:=w) (ty:=o.type) hs e2
    refine cu S (s:=Builtin.len_ #[t] o.type #[a.eval os]) ?_ ⟨_,hr,.flat hfl⟩
    rw [hex,ec,et];rfl
   ·rename_i _ _ _ x y r ha
    obtain ⟨e2,rfl⟩:=pure_of e
    obtain ⟨hfl,hfr⟩:=minmax_ints e2 (by simp)
    have hl:=list_rel hargs
    rw [ha] at hl
    have hq:=hl.cI hfl
    obtain ⟨hr,_⟩:=max_fold (P:=P) (w:=w) _ _ _ e2
    refine cu S (s:=Builtin.max_ c.argTypes o.type (c.args.map a.eval)) (by rw [hex];rfl) ⟨_,?_,.flat hfr⟩
    unfold Builtin.max_
    rw [Array.toList_map,hq]
    exact hr
   ·rename_i _ _ _ x y r ha
    obtain ⟨e2,rfl⟩:=pure_of e
    obtain ⟨hfl,hfr⟩:=minmax_ints e2 (by simp)
    have hl:=list_rel hargs
    rw [ha] at hl
    have hq:=hl.cI hfl
    obtain ⟨hr,_⟩:=min_fold (P:=P) (w:=w) _ _ _ e2
    refine cu S (s:=Builtin.min_ c.argTypes o.type (c.args.map a.eval)) (by rw [hex];rfl) ⟨_,?_,.flat hfr⟩
    unfold Builtin.min_
    rw [Array.toList_map,hq]
    exact hr
   ·cases e
  ·rename_i f hcv
   have hfv:aQ μ (ρ f) (a.eval f):=hop _ heq f (by simp [Op.operands,Call.operands,hcv])
   unfold callA at e
   split at e
   ·rename_i i first captured hfe
    rw [hfe] at hfv
    obtain ⟨first',captured',hfe',h1,h2⟩:=hfv.func_iff
    obtain ⟨fn,hfn,hname,hbody⟩:=hC.fn _ _ _ _ _ e
    have hall:=(h1.append (list_rel hargs)).append h2
    obtain ⟨hbo,hbh⟩:=hbd c f heq hcv
    rw [heq] at hbo
    have hba:dy h.next (first.toList++c.args.toList.map ρ++captured.toList)=true:=by
     have hff:=hbo f (by simp [Op.operands,Call.operands,hcv])
     rw [hfe] at hff
     obtain ⟨lf⟩:=first
     obtain ⟨lc⟩:=captured
     simp only [cU,Bool.and_eq_true] at hff
     refine dq (dq hff.1 ?_) hff.2
     rw [dh]
     intro y hy
     obtain ⟨x,hx,rfl⟩:=List.mem_map.1 hy
     exact hbo x (by simp only [Op.operands,Call.operands,Array.toList_append,List.mem_append];exact .inr hx)
    have hcalls:=hC.run _ _ _ _ _ e hba hbh hg μ w _ S hf hall
    intro K Q hK
    unfold Oper.wp execOp
    rw [heq]
    simp only
    have hres:(do let d ←resolve a.eval c o.type;invoke d.target d.args:Sem Next).run P w = .ok (.enter i ((first'.toList++c.args.toList.map a.eval++captured'.toList).toArray)) w:=by
     unfold resolve
     rw [hcv]
     simp only [hfe',Deferred.ofValue,Sem.run_bind,Sem.run_pure,Result.andThen_ok,invoke,callFunc,run_program,hfn,hname,hbody,Bool.false_eq_true,if_false]
     congr 2
     apply Array.ext'
     simp
    rw [hres]
    simp only [Oper.upon]
    refine hcalls.mono ?_
    rintro e w' ⟨μ',v',rfl,hS,hSt,hv⟩
    exact hK μ' v' w' hS hSt hv
   ·cases e
  ·cases e
 ·cases e
end ops
end Go.Abs

