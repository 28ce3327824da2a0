/-
  A part of the proof, shortened by a program.
  Conditions: as each theorem states.
-/
import Derived.Test.YtdhpgacmgebjdaaGreatDoorG22
import Derived.Shelf.SlSortCmp.WholeK
import Derived.Test.YtdhpgacmgebjdaaGreatDoorProg
import Derived.KernelRfl
set_option linter.all false
namespace Go.Proofs.YtdhpgacmgebjdaaGreatDoor.W
open Go Go.Proofs
open Go.Shelf Go.RowKit Go.Lib Go.Sort
noncomputable section
def srtF:FuncId->FuncId
 | 6=>185|14=>213|15=>214|20=>233|21=>234|22=>235|23=>236|24=>237|25=>238|26=>239|27=>240|28=>241|29=>242|46=>251|47=>252|48=>253|49=>254|50=>255|57=>261|n=>n
def srtT:TypeId->TypeId
 | 0=>0|3=>3|4=>4|5=>5|9=>9|22=>33|24=>32|25=>232|39=>237|45=>336|46=>337|50=>341|53=>186|55=>52|66=>352|70=>355|76=>362|77=>363|n=>n
def srtR:Ren:=⟨srtF,srtT,fun x=>x⟩
def sortL:SlLaysF0.n6 Tryz.prog srtR where
 mixed:=by kernel_rfl
 f6:=⟨Tryz.f185.name,by kernel_rfl,by kernel_rfl⟩
 f14:=⟨Tryz.f213.name,by kernel_rfl,by kernel_rfl⟩
 f15:=by kernel_rfl
 f20:=⟨Tryz.f233.name,by kernel_rfl,by kernel_rfl⟩
 f21:=⟨Tryz.f234.name,by kernel_rfl,by kernel_rfl⟩
 f22:=⟨Tryz.f235.name,by kernel_rfl,by kernel_rfl⟩
 f23:=⟨Tryz.f236.name,by kernel_rfl,by kernel_rfl⟩
 f24:=⟨Tryz.f237.name,by kernel_rfl,by kernel_rfl⟩
 f25:=⟨Tryz.f238.name,by kernel_rfl,by kernel_rfl⟩
 f26:=⟨Tryz.f239.name,by kernel_rfl,by kernel_rfl⟩
 f27:=⟨Tryz.f240.name,by kernel_rfl,by kernel_rfl⟩
 f28:=by kernel_rfl
 f29:=by kernel_rfl
 f46:=⟨Tryz.f251.name,by kernel_rfl,by kernel_rfl⟩
 f47:=by kernel_rfl
 f48:=by kernel_rfl
 f49:=⟨Tryz.f254.name,by kernel_rfl,by kernel_rfl⟩
 f50:=⟨Tryz.f255.name,by kernel_rfl,by kernel_rfl⟩
 f57:=⟨Tryz.f261.name,by kernel_rfl,by kernel_rfl⟩
 t0:=by kernel_rfl
 a0:=fun w=>by kernel_rfl
 z0:=fun w=>by kernel_rfl
 v0:=fun w=>by kernel_rfl
 t3:=by kernel_rfl
 a3:=fun w=>by kernel_rfl
 z3:=fun w=>by kernel_rfl
 v3:=fun w=>by kernel_rfl
 t4:=by kernel_rfl
 a4:=fun w=>by kernel_rfl
 z4:=fun w=>by kernel_rfl
 v4:=fun w=>by kernel_rfl
 t5:=by kernel_rfl
 a5:=fun w=>by kernel_rfl
 z5:=fun w=>by kernel_rfl
 v5:=fun w=>by kernel_rfl
 t9:=by kernel_rfl
 a9:=fun w=>by kernel_rfl
 z9:=fun w=>by kernel_rfl
 v9:=fun w=>by kernel_rfl
 t22:=by kernel_rfl
 a22:=fun w=>by kernel_rfl
 z22:=fun w=>by kernel_rfl
 v22:=fun w=>by kernel_rfl
 t25:=by kernel_rfl
 a25:=fun w=>by kernel_rfl
 z25:=fun w=>by kernel_rfl
 v25:=fun w=>by kernel_rfl
 t39:=by kernel_rfl
 a39:=fun w=>by kernel_rfl
 z39:=fun w=>by kernel_rfl
 v39:=fun w=>by kernel_rfl
 t45:=by kernel_rfl
 a45:=fun w=>by kernel_rfl
 z45:=fun w=>by kernel_rfl
 v45:=fun w=>by kernel_rfl
 t46:=by kernel_rfl
 a46:=fun w=>by kernel_rfl
 z46:=fun w=>by kernel_rfl
 v46:=fun w=>by kernel_rfl
 t50:=by kernel_rfl
 a50:=fun w=>by kernel_rfl
 z50:=fun w=>by kernel_rfl
 v50:=fun w=>by kernel_rfl
 t53:=by kernel_rfl
 a53:=fun w=>by kernel_rfl
 z53:=fun w=>by kernel_rfl
 v53:=fun w=>by kernel_rfl
 t55:=by kernel_rfl
 a55:=fun w=>by kernel_rfl
 z55:=fun w=>by kernel_rfl
 v55:=fun w=>by kernel_rfl
 t66:=by kernel_rfl
 a66:=fun w=>by kernel_rfl
 z66:=fun w=>by kernel_rfl
 v66:=fun w=>by kernel_rfl
 t70:=by kernel_rfl
 a70:=fun w=>by kernel_rfl
 z70:=fun w=>by kernel_rfl
 v70:=fun w=>by kernel_rfl
 t76:=by kernel_rfl
 a76:=fun w=>by kernel_rfl
 z76:=fun w=>by kernel_rfl
 v76:=fun w=>by kernel_rfl
 t77:=by kernel_rfl
 a77:=fun w=>by kernel_rfl
 z77:=fun w=>by kernel_rfl
 v77:=fun w=>by kernel_rfl
end
end Go.Proofs.YtdhpgacmgebjdaaGreatDoor.W
