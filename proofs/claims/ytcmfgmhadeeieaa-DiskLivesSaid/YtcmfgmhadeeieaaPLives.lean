/-
  DiskLives returns true at all numbers of blocks and all lives, and leaves its arguments.
  Conditions: none beyond the given statement's.
-/
import Derived.Test.YtcmfgmhadeeieaaG16
import Derived.Test.YtcmfgmhadeeieaaRows
import Derived.ProofKit
namespace Go.Proofs.Ytcmfgmhadeeieaa
open Go Go.Abs
open Go.ChangeShapes Go.WideShapes Go.ChangeAt Go.RowKit
theorem Try.own:ownKnob Try.prog.godebug=none:=by kernel_rfl
theorem Try.laidOut:laidOutB Try.prog=true:=by kernel_rfl
theorem noGlobals:Try.prog.globals.size=0:=by kernel_rfl
theorem nice_slice {P:Program} {W:World} {base:Nat} {t e:TypeId} {v:Value} (ht:P.underlying t=some (.slice e)) (h:Value.okWide P W .any base t v):nice W.heap.size v=true∧v.cells.toList = [v]:=by
 unfold Value.okWide at h
 rw [ht] at h
 simp only at h
 unfold Cell.okWide at h
 rw [ht] at h
 simp only at h
 unfold Cell.ok at h
 rw [ht] at h
 cases v with
 |slice a l c=>
  cases a with
  |none=>exact ⟨rfl,rfl⟩
  |some a=>
   simp only at h
   obtain ⟨_,_,_,hs,row,cells,hsh,_⟩:=h
   obtain ⟨b,off,s⟩:=a
   have hs':s=none:=hs
   subst hs'
   refine ⟨?_,rfl⟩
   have hb:b<W.heap.size:=by
    unfold World.shape? at hsh
    split at hsh
    ·rename_i heq
     exact (Array.getElem?_eq_some_iff.1 heq).1
    ·cases hsh
   simpa [nice] using hb
 |_=>simp at h
set_option maxRecDepth 100000 in
theorem diskLives_lifted (os:Os) (started:os.Started) (H:Type) (enc:TypeId×Value→H) :
  ReturnsInHanded {} Try.checked os 9 .any (Rows.diskLivesSpec.pre6 enc Try.prog Try.f9 Rows.diskLivesRow.domain false) (Rows.diskLivesSpec.post enc Try.prog Try.f9 false true false false):=by
 refine returnsInHanded_of_change (C:=Try.checked) Try.own started (by kernel_rfl) Try.func9
  (ChangeSpec.witness6 (enc:=enc) (C:=Try.checked) false ⟨#[],#[.int .i64 0,.slice none 0 0],[]⟩ 8 (by kernel_rfl) (by kernel_rfl) (by kernel_rfl) (by kernel_rfl)) ?_
 intro W base args ds gs before hval0 hW hcnd _
 have hval : ∀ (j:Nat) t v,Try.f9.params[j]? = some t→args[j]? = some v→Value.okWide Try.prog W .any base t v:=hval0
 have hW':=hW
 have hlt:=fun p hp=>hW.lt p hp
 obtain ⟨p,q,hA0,hV,rfl,hfz,hnd⟩:=hW
 have hA:DataW.TrodAll enc Try.prog W 0 (fun _=>true) true Try.f9.params.toList args.toList ds p:=hA0
 rw [Try.params9] at hA hval
 obtain ⟨v0,v1,d0,d1,p0,p1,rfl,rfl,rfl,h0,h1⟩:=trodAll_two hA
 obtain ⟨rfl,rfl⟩:=trodVars_none hV
 obtain ⟨a,rfl,rfl,rfl,wa⟩:=open_int Try.underlying3 (hval 0 3 v0 rfl rfl) h0
 obtain ⟨hn1,hc1⟩:=nice_slice Try.underlying61 (hval 1 61 v1 rfl rfl)
 clear hA0 hval0
 obtain ⟨fuel,hf⟩:=h1
 have hf':=hf
 rw [hc1] at hf'
 obtain ⟨_,ops,hops⟩:=trod_lives hf'
 rw [clean_flat hn1] at hops
 refine ((cq.of_CC mixed XX_sound is9).call_data noGlobals [.int .i64 a,v1] [.int .i64 a,v1] W (bF.cons (.flat rfl) (bF.cons (nice_rel hn1) (bF.nil _))) (by simp [ek,dm,nice_bd hn1]) (.bool true) rfl (dev9 a hops)).mono fun e W' ⟨he,hbelow⟩ => ?_
 have h1':=Below.trod Try.laidOut (by kernel_rfl) (of_decide_eq_true (by kernel_rfl)) (⟨fuel,hf⟩:DataW.Trod enc Try.prog W 0 (fun _=>true) true 61 v1 d1 p1) hbelow (fun x hx=>hlt x (by simp [hx]))
 exact ⟨_,he,_,_,_,[],_,[],hW',trodAll_mk1 (shut_bool Try.underlying4 true),trodAll_mk2 (shut_int Try.underlying3 wa) h1',rfl,hbelow.frame _,fun h=>by cases h⟩
theorem diskLives_holds:Rows.DiskLivesSaid:=
 OpenClaim.holds_of_wide 9 Try.f9 rfl rfl rfl rfl rfl rfl rfl ⟨rfl,rfl,rfl,rfl,rfl⟩ rfl rfl rfl rfl rfl (by kernel_rfl) Try.func9 (by kernel_rfl)
  (of_decide_eq_true (by kernel_rfl)) (by unfold Func.isWrapper;first|(rw [if_pos (by decide +kernel)];kernel_rfl)|(rw [if_neg (by decide +kernel)];exact ⟨rfl,rfl⟩))
  (fun os started H enc _=>diskLives_lifted os started H enc)
end Go.Proofs.Ytcmfgmhadeeieaa

