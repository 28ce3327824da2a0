/-
  The store: no text of the translation starts a goroutine.
  Conditions: none.
-/
import Derived.Test.YtdhpgacmgebjdaaGreatDoorG29
import Derived.Test.YtdhpgacmgebjdaaGreatDoorProg
import Derived.SevenTiedAt
import Derived.KernelRfl
set_option linter.all false
namespace Go.Proofs.YtdhpgacmgebjdaaGreatDoor
open Go
noncomputable section
section
set_option maxRecDepth 100000
theorem no_goes:Tryz.prog.funcs.any Func.goes=false:=by kernel_rfl
theorem goes_none {P:Program} (h:P.funcs.any Func.goes=false) (f:FuncId):P.goes f=false:=by
 unfold Program.goes
 rw [h,Bool.and_false,Bool.or_false,List.any_eq_false]
 intro g _
 cases hg:P.funcs[g]? with
 |none=>simp
 |some fn=>
  rw [Array.any_eq_false] at h
  obtain ⟨hi,he⟩:=Array.getElem?_eq_some_iff.1 hg
  have:=h g hi
  rw [he] at this
  simpa using this
theorem goes_by {P:Program} (h:P.funcs.any Func.goes=false) {c:OpenClaim} (hs:c.start = .entering):false=c.goesBy P:=by
 unfold OpenClaim.goesBy Program.goesAt Program.goesFrom
 rw [hs]
 cases P.funcNamed c.func with
 |none=>rfl
 |some f=>
  show false=(P.goes f||false)
  rw [goes_none h]
  rfl
end
end
end Go.Proofs.YtdhpgacmgebjdaaGreatDoor
