/-
  A part of the proof, spaces and names shortened by a program (a claim may hold 1,500,000 bytes).
  Conditions: as each theorem states.
-/
import Derived.Test.YtdnahgfgoajmcaaGreatDoorG8
import Derived.Test.YtdnahgfgoajmcaaGreatDoorProg
namespace Go.Abs
abbrev iL {α β γ δ:Type}:α->β->γ->Option δ:=fun _ _ _=>none
abbrev eI:=Option (Ex×aX×ai)
abbrev fL:=Nat->Value
theorem fM {P:Program} {C:au} {fn:Func} {args:List Value} {h:ai} {r:bc} (a:Nat.ble args.length fn.ntmps=true) (b:bodyB P C fn args h=r):bw P C fn args h=r:=(bodyB_eq P C fn args h a).trans b
end Go.Abs
namespace Go.Proofs.YtdnahgfgoajmcaaGreatDoor
open Go Go.Abs Tryz
noncomputable abbrev dC (f:Func):=resultsA prog f.results.toList
theorem uJ {C:au} {n:Nat} {f:Func} {l:List Nat} {T:(Nat->Value)->ai->bc} (hT : ∀ x h,vn prog C n (aK n x) (ao f l) h (dC f) (dC f) iL=T x h) (x:Nat->Value) (h:ai):codeK prog C (ao f l) (aK n x) h (dC f) (dC f) iL=T x h:=lC hT x h
end Go.Proofs.YtdnahgfgoajmcaaGreatDoor

