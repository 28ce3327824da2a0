/-
  StoreMemory: the closed facts of the given row, one by one.
  Conditions: none.
-/
import Derived.Test.YtdhpgacmgebjdaaGreatDoorG28
import Derived.Test.YtdhpgacmgebjdaaGreatDoorRows
import Derived.ProofKit
import Derived.KernelRfl
set_option linter.all false
namespace Go.Proofs.YtdhpgacmgebjdaaGreatDoor
open Go
noncomputable section
section
set_option maxRecDepth 100000
theorem xU:(fun (_P:Program) (_f:FuncId) (_fn:Func) (s:ChangeSpec) (c:OpenClaim)=>(c.wf (OpenSpec.ofChange s):Bool)) Tryz.prog 3 Tryz.f3 Rows.storeMemorySpec Rows.storeMemoryRow=true:=by kernel_rfl
theorem yv:(fun (P:Program) (_f:FuncId) (_fn:Func) (_s:ChangeSpec) (_c:OpenClaim)=>(laidOutB P:Bool)) Tryz.prog 3 Tryz.f3 Rows.storeMemorySpec Rows.storeMemoryRow=true:=by kernel_rfl
theorem zn:(fun (P:Program) (_f:FuncId) (_fn:Func) (_s:ChangeSpec) (_c:OpenClaim)=>(mapsRowed P:Bool)) Tryz.prog 3 Tryz.f3 Rows.storeMemorySpec Rows.storeMemoryRow=true:=by kernel_rfl
theorem xv:(fun (P:Program) (_f:FuncId) (fn:Func) (_s:ChangeSpec) (_c:OpenClaim)=>(fn.params.all (P.readableRec ·):Bool)) Tryz.prog 3 Tryz.f3 Rows.storeMemorySpec Rows.storeMemoryRow=true:=by kernel_rfl
theorem xX:(fun (P:Program) (_f:FuncId) (_fn:Func) (s:ChangeSpec) (c:OpenClaim)=>(namedTie P c.named s.vars:Bool)) Tryz.prog 3 Tryz.f3 Rows.storeMemorySpec Rows.storeMemoryRow=true:=by kernel_rfl
theorem zv:(fun (_P:Program) (_f:FuncId) (_fn:Func) (_s:ChangeSpec) (c:OpenClaim)=>((c.stops == []):Bool)) Tryz.prog 3 Tryz.f3 Rows.storeMemorySpec Rows.storeMemoryRow=true:=by kernel_rfl
theorem xi:(fun (P:Program) (_f:FuncId) (_fn:Func) (_s:ChangeSpec) (_c:OpenClaim)=>((P.stops == []):Bool)) Tryz.prog 3 Tryz.f3 Rows.storeMemorySpec Rows.storeMemoryRow=true:=by kernel_rfl
theorem xJ:(fun (_P:Program) (_f:FuncId) (_fn:Func) (_s:ChangeSpec) (c:OpenClaim)=>((c.knobs == []):Bool)) Tryz.prog 3 Tryz.f3 Rows.storeMemorySpec Rows.storeMemoryRow=true:=by kernel_rfl
theorem yj:(fun (P:Program) (_f:FuncId) (_fn:Func) (_s:ChangeSpec) (_c:OpenClaim)=>((P.stopKnobs == []):Bool)) Tryz.prog 3 Tryz.f3 Rows.storeMemorySpec Rows.storeMemoryRow=true:=by kernel_rfl
theorem zf:(fun (P:Program) (f:FuncId) (_fn:Func) (_s:ChangeSpec) (c:OpenClaim)=>((c.inPlace==P.inPlace f):Bool)) Tryz.prog 3 Tryz.f3 Rows.storeMemorySpec Rows.storeMemoryRow=true:=by kernel_rfl
theorem vR:(fun (P:Program) (f:FuncId) (_fn:Func) (_s:ChangeSpec) (c:OpenClaim)=>((c.unfollowed==P.unfollowed f):Bool)) Tryz.prog 3 Tryz.f3 Rows.storeMemorySpec Rows.storeMemoryRow=true:=by kernel_rfl
theorem wH:(fun (P:Program) (f:FuncId) (_fn:Func) (_s:ChangeSpec) (c:OpenClaim)=>((c.recurses==P.recurses f):Bool)) Tryz.prog 3 Tryz.f3 Rows.storeMemorySpec Rows.storeMemoryRow=true:=by kernel_rfl
theorem vY:(fun (P:Program) (f:FuncId) (_fn:Func) (_s:ChangeSpec) (c:OpenClaim)=>((c.named==P.varsNamed f):Bool)) Tryz.prog 3 Tryz.f3 Rows.storeMemorySpec Rows.storeMemoryRow=true:=by kernel_rfl
theorem vT:(fun (P:Program) (_f:FuncId) (fn:Func) (s:ChangeSpec) (c:OpenClaim)=>((c.maps==(fn.params.toList++s.plain.varTypes P).any (P.mapsRec ·)):Bool)) Tryz.prog 3 Tryz.f3 Rows.storeMemorySpec Rows.storeMemoryRow=true:=by kernel_rfl
theorem wy:(fun (P:Program) (_f:FuncId) (fn:Func) (s:ChangeSpec) (c:OpenClaim)=>((c.ifaces==(fn.params.toList++s.plain.varTypes P).any (P.ifacesRec ·)):Bool)) Tryz.prog 3 Tryz.f3 Rows.storeMemorySpec Rows.storeMemoryRow=true:=by kernel_rfl
theorem wg:(fun (P:Program) (_f:FuncId) (fn:Func) (_s:ChangeSpec) (c:OpenClaim)=>((c.mapsOut==P.mapsAmong fn.resultTypes.toList):Bool)) Tryz.prog 3 Tryz.f3 Rows.storeMemorySpec Rows.storeMemoryRow=true:=by kernel_rfl
theorem vN:(fun (P:Program) (_f:FuncId) (fn:Func) (s:ChangeSpec) (c:OpenClaim)=>((c.loops==(fn.params.toList++s.plain.varTypes P).any (P.loopsFrom ·)):Bool)) Tryz.prog 3 Tryz.f3 Rows.storeMemorySpec Rows.storeMemoryRow=true:=by kernel_rfl
theorem wx:(fun (P:Program) (_f:FuncId) (fn:Func) (s:ChangeSpec) (c:OpenClaim)=>((c.wideKeys==(fn.params.toList++s.plain.varTypes P++fn.resultTypes.toList).any (P.wideKeysFrom ·)):Bool)) Tryz.prog 3 Tryz.f3 Rows.storeMemorySpec Rows.storeMemoryRow=true:=by kernel_rfl
theorem wh:(fun (P:Program) (_f:FuncId) (_fn:Func) (s:ChangeSpec) (_c:OpenClaim)=>(s.vars.all (P.varReadable ·):Bool)) Tryz.prog 3 Tryz.f3 Rows.storeMemorySpec Rows.storeMemoryRow=true:=by kernel_rfl
theorem vU:(fun (P:Program) (_f:FuncId) (fn:Func) (_s:ChangeSpec) (_c:OpenClaim)=>(fn.resultTypes.all (fun t=>P.readableRec t&&decide (t<P.types.size)):Bool)) Tryz.prog 3 Tryz.f3 Rows.storeMemorySpec Rows.storeMemoryRow=true:=by kernel_rfl
theorem wK:(fun (P:Program) (_f:FuncId) (fn:Func) (_s:ChangeSpec) (c:OpenClaim)=>((c.ifacesOut==fn.resultTypes.toList.any (P.ifacesRec ·)):Bool)) Tryz.prog 3 Tryz.f3 Rows.storeMemorySpec Rows.storeMemoryRow=true:=by kernel_rfl
theorem vZ:(fun (P:Program) (_f:FuncId) (fn:Func) (_s:ChangeSpec) (c:OpenClaim)=>((c.loopsOut==fn.resultTypes.toList.any (P.loopsFrom ·)):Bool)) Tryz.prog 3 Tryz.f3 Rows.storeMemorySpec Rows.storeMemoryRow=true:=by kernel_rfl
theorem vW:(fun (P:Program) (_f:FuncId) (_fn:Func) (_s:ChangeSpec) (c:OpenClaim)=>((c.plainKeys==P.plainKeys):Bool)) Tryz.prog 3 Tryz.f3 Rows.storeMemorySpec Rows.storeMemoryRow=true:=by kernel_rfl
theorem wG:(fun (_P:Program) (_f:FuncId) (_fn:Func) (_s:ChangeSpec) (c:OpenClaim)=>(c.shortTexts.isNone:Bool)) Tryz.prog 3 Tryz.f3 Rows.storeMemorySpec Rows.storeMemoryRow=true:=by kernel_rfl
theorem wz:(fun (P:Program) (_f:FuncId) (_fn:Func) (_s:ChangeSpec) (_c:OpenClaim)=>(P.stopsHeard:Bool)) Tryz.prog 3 Tryz.f3 Rows.storeMemorySpec Rows.storeMemoryRow=true:=by kernel_rfl
theorem we:(fun (P:Program) (_f:FuncId) (_fn:Func) (_s:ChangeSpec) (_c:OpenClaim)=>(P.mayEnter:Bool)) Tryz.prog 3 Tryz.f3 Rows.storeMemorySpec Rows.storeMemoryRow=true:=by kernel_rfl
theorem wI:(fun (P:Program) (_f:FuncId) (_fn:Func) (_s:ChangeSpec) (c:OpenClaim)=>((c.lifted==P.liftsFinal):Bool)) Tryz.prog 3 Tryz.f3 Rows.storeMemorySpec Rows.storeMemoryRow=true:=by kernel_rfl
theorem v8:(fun (P:Program) (_f:FuncId) (_fn:Func) (_s:ChangeSpec) (c:OpenClaim)=>((P.make==some c.make):Bool)) Tryz.prog 3 Tryz.f3 Rows.storeMemorySpec Rows.storeMemoryRow=true:=by kernel_rfl
theorem wC:(fun (P:Program) (_f:FuncId) (fn:Func) (_s:ChangeSpec) (c:OpenClaim)=>((c.kinds==(if c.domain.isEmpty then [] else fn.params.toList.map fun t=>match P.underlying t with|some (.int k)=>some k|_=>none)):Bool)) Tryz.prog 3 Tryz.f3 Rows.storeMemorySpec Rows.storeMemoryRow=true:=by kernel_rfl
theorem wu:(fun (_P:Program) (_f:FuncId) (_fn:Func) (_s:ChangeSpec) (c:OpenClaim)=>((c.pinned==c.pinnedBy):Bool)) Tryz.prog 3 Tryz.f3 Rows.storeMemorySpec Rows.storeMemoryRow=true:=by kernel_rfl
theorem wj:(fun (P:Program) (_f:FuncId) (fn:Func) (s:ChangeSpec) (c:OpenClaim)=>((c.veiled==(fn.params.toList++s.plain.varTypes P++fn.resultTypes.toList).any (P.veiledRec ·)):Bool)) Tryz.prog 3 Tryz.f3 Rows.storeMemorySpec Rows.storeMemoryRow=true:=by kernel_rfl
theorem wE:(fun (P:Program) (_f:FuncId) (fn:Func) (s:ChangeSpec) (c:OpenClaim)=>(c.veiledFits P fn.params.toList (fn.params.toList++s.plain.varTypes P++fn.resultTypes.toList):Bool)) Tryz.prog 3 Tryz.f3 Rows.storeMemorySpec Rows.storeMemoryRow=true:=by kernel_rfl
theorem tO:joinedFacts Tryz.prog 3 Tryz.f3 Rows.storeMemorySpec Rows.storeMemoryRow=true:=by
 unfold joinedFacts
 simp only [Bool.and_eq_true]
 exact ⟨⟨⟨⟨⟨⟨⟨⟨⟨⟨⟨⟨⟨⟨⟨⟨⟨⟨⟨⟨⟨⟨⟨⟨⟨⟨⟨⟨⟨⟨⟨xU,yv⟩,zn⟩,xv⟩,xX⟩,zv⟩,xi⟩,xJ⟩,yj⟩,zf⟩,vR⟩,wH⟩,vY⟩,vT⟩,wy⟩,wg⟩,vN⟩,wx⟩,wh⟩,vU⟩,wK⟩,vZ⟩,vW⟩,wG⟩,wz⟩,we⟩,wI⟩,v8⟩,wC⟩,wu⟩,wj⟩,wE⟩
end
end
end Go.Proofs.YtdhpgacmgebjdaaGreatDoor
