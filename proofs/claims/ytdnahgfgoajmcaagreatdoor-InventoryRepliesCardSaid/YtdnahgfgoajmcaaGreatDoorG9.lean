/-
  A part of the proof, spaces and names shortened by a program (a claim may hold 1,500,000 bytes).
  Conditions: as each theorem states.
-/
import Derived.Test.YtdnahgfgoajmcaaGreatDoorG8
import Derived.Test.YtdnahgfgoajmcaaGreatDoorProg
namespace Go.Abs
abbrev eT {α β γ δ:Type}:α->β->γ->Option δ:=fun _ _ _=>none
abbrev fB:=Option (Ex×aW×ad)
abbrev fK:=Nat->Value
theorem eH {P:Program} {C:aj} {fn:Func} {args:List Value} {h:ad} {r:aS} (a:Nat.ble args.length fn.ntmps=true) (b:bodyB P C fn args h=r):ba P C fn args h=r:=(bodyB_eq P C fn args h a).trans b
end Go.Abs
namespace Go.Proofs.YtdnahgfgoajmcaaGreatDoor
open Go Go.Abs Tryz
noncomputable abbrev cE (f:Func):=resultsA prog f.results.toList
theorem qM {C:aj} {n:Nat} {f:Func} {l:List Nat} {T:(Nat->Value)->ad->aS} (hT : ∀ x h,vG prog C n (aL n x) (au f l) h (cE f) (cE f) eT=T x h) (x:Nat->Value) (h:ad):codeK prog C (au f l) (aL n x) h (cE f) (cE f) eT=T x h:=fN hT x h
end Go.Proofs.YtdnahgfgoajmcaaGreatDoor

