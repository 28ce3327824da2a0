/-
  StoreSound: the closed facts of the given row, one by one.
  Conditions: none.
-/
import Derived.Test.YtdhpgacmgebjdaaGreatDoorG28
import Derived.Test.YtdhpgacmgebjdaaGreatDoorRows
import Derived.ProofKit
import Derived.KernelRfl
set_option linter.all false
namespace Go.Proofs.YtdhpgacmgebjdaaGreatDoor
open Go
noncomputable section
section
set_option maxRecDepth 100000
theorem AE:(fun (_P:Program) (_f:FuncId) (_fn:Func) (s:ChangeSpec) (c:OpenClaim)=>(c.wf (OpenSpec.ofChange s):Bool)) Tryz.prog 4 Tryz.f4 Rows.storeSoundSpec Rows.storeSoundRow=true:=by kernel_rfl
theorem zQ:(fun (P:Program) (_f:FuncId) (_fn:Func) (_s:ChangeSpec) (_c:OpenClaim)=>(laidOutB P:Bool)) Tryz.prog 4 Tryz.f4 Rows.storeSoundSpec Rows.storeSoundRow=true:=by kernel_rfl
theorem Aw:(fun (P:Program) (_f:FuncId) (_fn:Func) (_s:ChangeSpec) (_c:OpenClaim)=>(mapsRowed P:Bool)) Tryz.prog 4 Tryz.f4 Rows.storeSoundSpec Rows.storeSoundRow=true:=by kernel_rfl
theorem Ac:(fun (P:Program) (_f:FuncId) (fn:Func) (_s:ChangeSpec) (_c:OpenClaim)=>(fn.params.all (P.readableRec ·):Bool)) Tryz.prog 4 Tryz.f4 Rows.storeSoundSpec Rows.storeSoundRow=true:=by kernel_rfl
theorem Ay:(fun (P:Program) (_f:FuncId) (_fn:Func) (s:ChangeSpec) (c:OpenClaim)=>(namedTie P c.named s.vars:Bool)) Tryz.prog 4 Tryz.f4 Rows.storeSoundSpec Rows.storeSoundRow=true:=by kernel_rfl
theorem zU:(fun (_P:Program) (_f:FuncId) (_fn:Func) (_s:ChangeSpec) (c:OpenClaim)=>((c.stops == []):Bool)) Tryz.prog 4 Tryz.f4 Rows.storeSoundSpec Rows.storeSoundRow=true:=by kernel_rfl
theorem Ap:(fun (P:Program) (_f:FuncId) (_fn:Func) (_s:ChangeSpec) (_c:OpenClaim)=>((P.stops == []):Bool)) Tryz.prog 4 Tryz.f4 Rows.storeSoundSpec Rows.storeSoundRow=true:=by kernel_rfl
theorem As:(fun (_P:Program) (_f:FuncId) (_fn:Func) (_s:ChangeSpec) (c:OpenClaim)=>((c.knobs == []):Bool)) Tryz.prog 4 Tryz.f4 Rows.storeSoundSpec Rows.storeSoundRow=true:=by kernel_rfl
theorem zT:(fun (P:Program) (_f:FuncId) (_fn:Func) (_s:ChangeSpec) (_c:OpenClaim)=>((P.stopKnobs == []):Bool)) Tryz.prog 4 Tryz.f4 Rows.storeSoundSpec Rows.storeSoundRow=true:=by kernel_rfl
theorem AK:(fun (P:Program) (f:FuncId) (_fn:Func) (_s:ChangeSpec) (c:OpenClaim)=>((c.inPlace==P.inPlace f):Bool)) Tryz.prog 4 Tryz.f4 Rows.storeSoundSpec Rows.storeSoundRow=true:=by kernel_rfl
theorem xi:(fun (P:Program) (f:FuncId) (_fn:Func) (_s:ChangeSpec) (c:OpenClaim)=>((c.unfollowed==P.unfollowed f):Bool)) Tryz.prog 4 Tryz.f4 Rows.storeSoundSpec Rows.storeSoundRow=true:=by kernel_rfl
theorem yG:(fun (P:Program) (f:FuncId) (_fn:Func) (_s:ChangeSpec) (c:OpenClaim)=>((c.recurses==P.recurses f):Bool)) Tryz.prog 4 Tryz.f4 Rows.storeSoundSpec Rows.storeSoundRow=true:=by kernel_rfl
theorem yF:(fun (P:Program) (f:FuncId) (_fn:Func) (_s:ChangeSpec) (c:OpenClaim)=>((c.named==P.varsNamed f):Bool)) Tryz.prog 4 Tryz.f4 Rows.storeSoundSpec Rows.storeSoundRow=true:=by kernel_rfl
theorem zi:(fun (P:Program) (_f:FuncId) (fn:Func) (s:ChangeSpec) (c:OpenClaim)=>((c.maps==(fn.params.toList++s.plain.varTypes P).any (P.mapsRec ·)):Bool)) Tryz.prog 4 Tryz.f4 Rows.storeSoundSpec Rows.storeSoundRow=true:=by kernel_rfl
theorem wE:(fun (P:Program) (_f:FuncId) (fn:Func) (s:ChangeSpec) (c:OpenClaim)=>((c.ifaces==(fn.params.toList++s.plain.varTypes P).any (P.ifacesRec ·)):Bool)) Tryz.prog 4 Tryz.f4 Rows.storeSoundSpec Rows.storeSoundRow=true:=by kernel_rfl
theorem yx:(fun (P:Program) (_f:FuncId) (fn:Func) (_s:ChangeSpec) (c:OpenClaim)=>((c.mapsOut==P.mapsAmong fn.resultTypes.toList):Bool)) Tryz.prog 4 Tryz.f4 Rows.storeSoundSpec Rows.storeSoundRow=true:=by kernel_rfl
theorem wU:(fun (P:Program) (_f:FuncId) (fn:Func) (s:ChangeSpec) (c:OpenClaim)=>((c.loops==(fn.params.toList++s.plain.varTypes P).any (P.loopsFrom ·)):Bool)) Tryz.prog 4 Tryz.f4 Rows.storeSoundSpec Rows.storeSoundRow=true:=by kernel_rfl
theorem zg:(fun (P:Program) (_f:FuncId) (fn:Func) (s:ChangeSpec) (c:OpenClaim)=>((c.wideKeys==(fn.params.toList++s.plain.varTypes P++fn.resultTypes.toList).any (P.wideKeysFrom ·)):Bool)) Tryz.prog 4 Tryz.f4 Rows.storeSoundSpec Rows.storeSoundRow=true:=by kernel_rfl
theorem zo:(fun (P:Program) (_f:FuncId) (_fn:Func) (s:ChangeSpec) (_c:OpenClaim)=>(s.vars.all (P.varReadable ·):Bool)) Tryz.prog 4 Tryz.f4 Rows.storeSoundSpec Rows.storeSoundRow=true:=by kernel_rfl
theorem yl:(fun (P:Program) (_f:FuncId) (fn:Func) (_s:ChangeSpec) (_c:OpenClaim)=>(fn.resultTypes.all (fun t=>P.readableRec t&&decide (t<P.types.size)):Bool)) Tryz.prog 4 Tryz.f4 Rows.storeSoundSpec Rows.storeSoundRow=true:=by kernel_rfl
theorem xY:(fun (P:Program) (_f:FuncId) (fn:Func) (_s:ChangeSpec) (c:OpenClaim)=>((c.ifacesOut==fn.resultTypes.toList.any (P.ifacesRec ·)):Bool)) Tryz.prog 4 Tryz.f4 Rows.storeSoundSpec Rows.storeSoundRow=true:=by kernel_rfl
theorem yr:(fun (P:Program) (_f:FuncId) (fn:Func) (_s:ChangeSpec) (c:OpenClaim)=>((c.loopsOut==fn.resultTypes.toList.any (P.loopsFrom ·)):Bool)) Tryz.prog 4 Tryz.f4 Rows.storeSoundSpec Rows.storeSoundRow=true:=by kernel_rfl
theorem zy:(fun (P:Program) (_f:FuncId) (_fn:Func) (_s:ChangeSpec) (c:OpenClaim)=>((c.plainKeys==P.plainKeys):Bool)) Tryz.prog 4 Tryz.f4 Rows.storeSoundSpec Rows.storeSoundRow=true:=by kernel_rfl
theorem yS:(fun (_P:Program) (_f:FuncId) (_fn:Func) (_s:ChangeSpec) (c:OpenClaim)=>(c.shortTexts.isNone:Bool)) Tryz.prog 4 Tryz.f4 Rows.storeSoundSpec Rows.storeSoundRow=true:=by kernel_rfl
theorem yE:(fun (P:Program) (_f:FuncId) (_fn:Func) (_s:ChangeSpec) (_c:OpenClaim)=>(P.stopsHeard:Bool)) Tryz.prog 4 Tryz.f4 Rows.storeSoundSpec Rows.storeSoundRow=true:=by kernel_rfl
theorem wK:(fun (P:Program) (_f:FuncId) (_fn:Func) (_s:ChangeSpec) (_c:OpenClaim)=>(P.mayEnter:Bool)) Tryz.prog 4 Tryz.f4 Rows.storeSoundSpec Rows.storeSoundRow=true:=by kernel_rfl
theorem yM:(fun (P:Program) (_f:FuncId) (_fn:Func) (_s:ChangeSpec) (c:OpenClaim)=>((c.lifted==P.liftsFinal):Bool)) Tryz.prog 4 Tryz.f4 Rows.storeSoundSpec Rows.storeSoundRow=true:=by kernel_rfl
theorem xK:(fun (P:Program) (_f:FuncId) (_fn:Func) (_s:ChangeSpec) (c:OpenClaim)=>((P.make==some c.make):Bool)) Tryz.prog 4 Tryz.f4 Rows.storeSoundSpec Rows.storeSoundRow=true:=by kernel_rfl
theorem wQ:(fun (P:Program) (_f:FuncId) (fn:Func) (_s:ChangeSpec) (c:OpenClaim)=>((c.kinds==(if c.domain.isEmpty then [] else fn.params.toList.map fun t=>match P.underlying t with|some (.int k)=>some k|_=>none)):Bool)) Tryz.prog 4 Tryz.f4 Rows.storeSoundSpec Rows.storeSoundRow=true:=by kernel_rfl
theorem xM:(fun (_P:Program) (_f:FuncId) (_fn:Func) (_s:ChangeSpec) (c:OpenClaim)=>((c.pinned==c.pinnedBy):Bool)) Tryz.prog 4 Tryz.f4 Rows.storeSoundSpec Rows.storeSoundRow=true:=by kernel_rfl
theorem yV:(fun (P:Program) (_f:FuncId) (fn:Func) (s:ChangeSpec) (c:OpenClaim)=>((c.veiled==(fn.params.toList++s.plain.varTypes P++fn.resultTypes.toList).any (P.veiledRec ·)):Bool)) Tryz.prog 4 Tryz.f4 Rows.storeSoundSpec Rows.storeSoundRow=true:=by kernel_rfl
theorem wB:(fun (P:Program) (_f:FuncId) (fn:Func) (s:ChangeSpec) (c:OpenClaim)=>(c.veiledFits P fn.params.toList (fn.params.toList++s.plain.varTypes P++fn.resultTypes.toList):Bool)) Tryz.prog 4 Tryz.f4 Rows.storeSoundSpec Rows.storeSoundRow=true:=by kernel_rfl
theorem uS:joinedFacts Tryz.prog 4 Tryz.f4 Rows.storeSoundSpec Rows.storeSoundRow=true:=by
 unfold joinedFacts
 simp only [Bool.and_eq_true]
 exact ⟨⟨⟨⟨⟨⟨⟨⟨⟨⟨⟨⟨⟨⟨⟨⟨⟨⟨⟨⟨⟨⟨⟨⟨⟨⟨⟨⟨⟨⟨⟨AE,zQ⟩,Aw⟩,Ac⟩,Ay⟩,zU⟩,Ap⟩,As⟩,zT⟩,AK⟩,xi⟩,yG⟩,yF⟩,zi⟩,wE⟩,yx⟩,wU⟩,zg⟩,zo⟩,yl⟩,xY⟩,yr⟩,zy⟩,yS⟩,yE⟩,wK⟩,yM⟩,xK⟩,wQ⟩,xM⟩,yV⟩,wB⟩
end
end
end Go.Proofs.YtdhpgacmgebjdaaGreatDoor
