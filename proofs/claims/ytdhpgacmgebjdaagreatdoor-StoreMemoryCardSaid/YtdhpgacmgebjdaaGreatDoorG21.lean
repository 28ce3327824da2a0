/-
  A part of the proof, shortened by a program.
  Conditions: as each theorem states.
-/
import Derived.Test.YtdhpgacmgebjdaaGreatDoorG20
set_option linter.all false
namespace Go.Proofs.YtdhpgacmgebjdaaGreatDoor
open Go Go.Abs Tryz
attribute [local congr] ax
noncomputable section
section
variable {h:ae} (hG:3<=h.n0)
include hG
end
section
variable {P:Program} {C:ah} {a b:Code} {e e':aO} {h h':ae}
end
abbrev zM:List Vl:=dP
abbrev zP:List Vl := [(.int .i64 0),(.slice none 0 0)]
def bldM:cN zM []=some (.agg zM.toArray):=rfl
def bldP:cN zP []=some (.agg zP.toArray):=rfl
def bsl1 (h:ae):gK 1 (.int .u8 0) 0 [] h=some (.slice (some ⟨h.next,0,none⟩) 0 0,h.alloc []):=rfl
end
end Go.Proofs.YtdhpgacmgebjdaaGreatDoor
namespace Go.Proofs.YtdhpgacmgebjdaaGreatDoor
open Go Go.Abs Tryz
open Go.ChangeShapes Go.WideShapes Go.ChangeAt Go.RowKit
noncomputable section
section
variable {H:Type} {enc:TypeId×Vl->H} {W:World} {cK:Nat} {held:Bool}
def Good (W:World) (cs:List Vl) (p n:Nat):Prop := ∀ i,p<=i->i<p+n -> ∃ v,cs[i]? = some v/\bW (clean W.heap.size v)=false/\(clean W.heap.size v).oneCell'=true
end
end
end Go.Proofs.YtdhpgacmgebjdaaGreatDoor
