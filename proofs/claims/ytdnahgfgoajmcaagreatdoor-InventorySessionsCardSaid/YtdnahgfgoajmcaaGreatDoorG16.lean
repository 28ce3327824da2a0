/-
  A part of the proof, spaces and names shortened by a program (a claim may hold 1,500,000 bytes).
  Conditions: as each theorem states.
-/
import Derived.Test.YtdnahgfgoajmcaaGreatDoorG15
import Derived.Shelf.SlSortCmp.WholeK
import Derived.Test.YtdnahgfgoajmcaaGreatDoorProg
import Derived.KernelRfl
namespace Go.Proofs.YtdnahgfgoajmcaaGreatDoor
open Go Go.Proofs
open Go.Shelf Go.RowKit Go.Lib Go.Sort
def srtF:FuncId->FuncId
 | 6=>49|14=>83|15=>84|20=>101|21=>102|22=>103|23=>104|24=>105|25=>106|26=>107|27=>108|28=>109|29=>110|46=>117|47=>118|48=>119|49=>120|50=>121|57=>124|n=>n
def srtT:TypeId->TypeId
 | 0=>0|3=>3|4=>4|5=>5|9=>9|22=>22|24=>66|25=>96|39=>120|45=>148|46=>149|50=>153|53=>139|55=>32|66=>167|70=>171|76=>175|77=>176|n=>n
def srtR:Ren:=⟨srtF,srtT,fun x=>x⟩
theorem sortL:SlLaysF0.n6 Tryz.prog srtR where
 mixed:=by kernel_rfl
 f6:=⟨Tryz.f49.name,by kernel_rfl,by kernel_rfl⟩
 f14:=⟨Tryz.f83.name,by kernel_rfl,by kernel_rfl⟩
 f15:=by kernel_rfl
 f20:=⟨Tryz.f101.name,by kernel_rfl,by kernel_rfl⟩
 f21:=⟨Tryz.f102.name,by kernel_rfl,by kernel_rfl⟩
 f22:=⟨Tryz.f103.name,by kernel_rfl,by kernel_rfl⟩
 f23:=⟨Tryz.f104.name,by kernel_rfl,by kernel_rfl⟩
 f24:=⟨Tryz.f105.name,by kernel_rfl,by kernel_rfl⟩
 f25:=⟨Tryz.f106.name,by kernel_rfl,by kernel_rfl⟩
 f26:=⟨Tryz.f107.name,by kernel_rfl,by kernel_rfl⟩
 f27:=⟨Tryz.f108.name,by kernel_rfl,by kernel_rfl⟩
 f28:=by kernel_rfl
 f29:=by kernel_rfl
 f46:=⟨Tryz.f117.name,by kernel_rfl,by kernel_rfl⟩
 f47:=by kernel_rfl
 f48:=by kernel_rfl
 f49:=⟨Tryz.f120.name,by kernel_rfl,by kernel_rfl⟩
 f50:=⟨Tryz.f121.name,by kernel_rfl,by kernel_rfl⟩
 f57:=⟨Tryz.f124.name,by kernel_rfl,by kernel_rfl⟩
 t0:=by kernel_rfl
 a0:=fun w=>by kernel_rfl
 z0:=fun w=>by kernel_rfl
 v0:=fun w=>by kernel_rfl
 t3:=by kernel_rfl
 a3:=fun w=>by kernel_rfl
 z3:=fun w=>by kernel_rfl
 v3:=fun w=>by kernel_rfl
 t4:=by kernel_rfl
 a4:=fun w=>by kernel_rfl
 z4:=fun w=>by kernel_rfl
 v4:=fun w=>by kernel_rfl
 t5:=by kernel_rfl
 a5:=fun w=>by kernel_rfl
 z5:=fun w=>by kernel_rfl
 v5:=fun w=>by kernel_rfl
 t9:=by kernel_rfl
 a9:=fun w=>by kernel_rfl
 z9:=fun w=>by kernel_rfl
 v9:=fun w=>by kernel_rfl
 t22:=by kernel_rfl
 a22:=fun w=>by kernel_rfl
 z22:=fun w=>by kernel_rfl
 v22:=fun w=>by kernel_rfl
 t25:=by kernel_rfl
 a25:=fun w=>by kernel_rfl
 z25:=fun w=>by kernel_rfl
 v25:=fun w=>by kernel_rfl
 t39:=by kernel_rfl
 a39:=fun w=>by kernel_rfl
 z39:=fun w=>by kernel_rfl
 v39:=fun w=>by kernel_rfl
 t45:=by kernel_rfl
 a45:=fun w=>by kernel_rfl
 z45:=fun w=>by kernel_rfl
 v45:=fun w=>by kernel_rfl
 t46:=by kernel_rfl
 a46:=fun w=>by kernel_rfl
 z46:=fun w=>by kernel_rfl
 v46:=fun w=>by kernel_rfl
 t50:=by kernel_rfl
 a50:=fun w=>by kernel_rfl
 z50:=fun w=>by kernel_rfl
 v50:=fun w=>by kernel_rfl
 t53:=by kernel_rfl
 a53:=fun w=>by kernel_rfl
 z53:=fun w=>by kernel_rfl
 v53:=fun w=>by kernel_rfl
 t55:=by kernel_rfl
 a55:=fun w=>by kernel_rfl
 z55:=fun w=>by kernel_rfl
 v55:=fun w=>by kernel_rfl
 t66:=by kernel_rfl
 a66:=fun w=>by kernel_rfl
 z66:=fun w=>by kernel_rfl
 v66:=fun w=>by kernel_rfl
 t70:=by kernel_rfl
 a70:=fun w=>by kernel_rfl
 z70:=fun w=>by kernel_rfl
 v70:=fun w=>by kernel_rfl
 t76:=by kernel_rfl
 a76:=fun w=>by kernel_rfl
 z76:=fun w=>by kernel_rfl
 v76:=fun w=>by kernel_rfl
 t77:=by kernel_rfl
 a77:=fun w=>by kernel_rfl
 z77:=fun w=>by kernel_rfl
 v77:=fun w=>by kernel_rfl
end Go.Proofs.YtdnahgfgoajmcaaGreatDoor
