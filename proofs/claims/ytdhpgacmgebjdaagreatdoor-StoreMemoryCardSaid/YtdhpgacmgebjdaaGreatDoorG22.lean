/-
  A part of the proof, shortened by a program.
  Conditions: as each theorem states.
-/
import Derived.Test.YtdhpgacmgebjdaaGreatDoorG21
import Derived.LaidLaws
import Derived.LaidHandle
set_option linter.all false
namespace Go.Proofs.YtdhpgacmgebjdaaGreatDoor
open Go Go.Abs Tryz
open Go.ChangeShapes Go.WideShapes Go.ChangeAt Go.RowKit
noncomputable section
def shaped_size {w:World} (h:w.ShapedOpen prog):3<=w.heap.size:=by
 have h2:(((begin prog (fun _ _=>0) default).world.heap[2]?).bind Obj.row?).isSome=true:=by kernel_rfl
 rw [E9] at h2;obtain ⟨⟨z,t⟩,h2⟩:=h2;obtain ⟨cs,e,_⟩:=h.1 2 z t (by rw [iv];decide) h2;rcases FH 2 w.heap.size with h|h
 ·exact h
 ·rw [FQ h] at e;cases e
def Dc {H:Type} {enc:TypeId×Vl->H} {C:Checked} (hC:C.prog=prog) {os:Os} {f:FuncId} {fn:Func} {s:ChangeSpec} {apart:Bool} {X:World->Array Vl->Prop} {Q:World->Array Vl->Vl->World->Prop}
  (hQ : ∀ (w:World) (tape:Tape) (i:Input) v w',Q (w.forCall tape i) i.args v w'->Q (w.forCall tape i).blind i.args v w'.blind)
  (hX : ∀ (w w':World) (args:Array Vl),w.heap=w'.heap->X w args->X w' args) (own:ownKnob C.prog.godebug=none) (started:os.Started) (noInit:C.prog.inits.idxOf? f=none) (hfn:C.prog.funcs[f]? = some fn)
  (witness : ∃ (w:World) (tape:Tape) (i:Input),w.os=os/\(w.forCall tape i).Shaped C.prog/\i.vars = []/\Input.okWide C.prog (w.forCall tape i) .any w.heap.size f i /\
   ((s.pre enc C.prog fn [] apart (w.forCall tape i).memory i.args/\X (w.forCall tape i).memory i.args)/\sizedMet enc C.prog fn (OpenSpec.ofChange s) apart (w.forCall tape i).memory i.args)/\({}:Assume).holds C.prog (lone (Frame.enter C.prog f i.args .normal) [] (w.forCall tape i)))
  (K : ∀ (W:World) (cK:Nat) (args:Array Vl) (ds gs:List (DataW H)) (before:List MemPlace),3<=W.heap.size ->
   (∀ (j:Nat) t v,fn.params[j]? = some t->args[j]? = some v->Value.okWide C.prog W .any cK t v)->DataW.Whole enc C.prog fn.params.toList s.vars apart W args.toList ds gs before->X W args ->
   Calls C.prog f args W fun e W' => ∃ v,e = .returned v/\Q W args v W') :
  ReturnsInHanded {} C os f .any (fun w args=>(s.pre enc C.prog fn [] apart w args/\X w args)/\sizedMet enc C.prog fn (OpenSpec.ofChange s) apart w args) Q:=by
 refine returnsInHanded_of_calls own started noInit witness fun w tape i _ hsh _ hok hpre _ => ?_;obtain ⟨_,_,_,fn',hfn',_,_,_,_,hval⟩:=hok;obtain rfl:fn'=fn:=HT (hfn'.symm.trans hfn);obtain ⟨⟨⟨ds,gs,before,hw,_⟩,hx⟩,_⟩:=hpre;refine (K (w.forCall tape i) w.heap.size i.args ds gs before (shaped_size (hC▸hsh)) hval (DataW.Whole.of_heap (w':=w.forCall tape i) (by rfl) hw) (hX _ _ _ (by rfl) hx)).mono fun e W' ⟨v,he,hp⟩ => ?_;subst he;exact hQ _ _ _ _ _ hp
end
end Go.Proofs.YtdhpgacmgebjdaaGreatDoor
