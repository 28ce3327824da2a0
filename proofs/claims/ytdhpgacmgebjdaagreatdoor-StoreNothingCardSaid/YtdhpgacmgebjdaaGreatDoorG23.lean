/-
  StoreNothing: the closed facts of the given row, one by one.
  Conditions: none.
-/
import Derived.Test.YtdhpgacmgebjdaaGreatDoorG22
import Derived.Test.YtdhpgacmgebjdaaGreatDoorRows
import Derived.ProofKit
import Derived.KernelRfl
namespace Go.Proofs.YtdhpgacmgebjdaaGreatDoor
open Go
set_option maxRecDepth 100000
theorem storeNothing_j0 : (fun (_P : Program) (_f : FuncId) (_fn : Func) (s : ChangeSpec) (c : OpenClaim) => (c.wf (OpenSpec.ofChange s) : Bool)) Tryz.prog 6 Tryz.f6 Rows.storeNothingSpec Rows.storeNothingRow = true := by kernel_rfl
theorem storeNothing_j1 : (fun (P : Program) (_f : FuncId) (_fn : Func) (_s : ChangeSpec) (_c : OpenClaim) => (laidOutB P : Bool)) Tryz.prog 6 Tryz.f6 Rows.storeNothingSpec Rows.storeNothingRow = true := by kernel_rfl
theorem storeNothing_j2 : (fun (P : Program) (_f : FuncId) (_fn : Func) (_s : ChangeSpec) (_c : OpenClaim) => (mapsRowed P : Bool)) Tryz.prog 6 Tryz.f6 Rows.storeNothingSpec Rows.storeNothingRow = true := by kernel_rfl
theorem storeNothing_j3 : (fun (P : Program) (_f : FuncId) (fn : Func) (_s : ChangeSpec) (_c : OpenClaim) => (fn.params.all (P.readableRec ·) : Bool)) Tryz.prog 6 Tryz.f6 Rows.storeNothingSpec Rows.storeNothingRow = true := by kernel_rfl
theorem storeNothing_j4 : (fun (P : Program) (_f : FuncId) (_fn : Func) (s : ChangeSpec) (c : OpenClaim) => (namedTie P c.named s.vars : Bool)) Tryz.prog 6 Tryz.f6 Rows.storeNothingSpec Rows.storeNothingRow = true := by kernel_rfl
theorem storeNothing_j5 : (fun (_P : Program) (_f : FuncId) (_fn : Func) (_s : ChangeSpec) (c : OpenClaim) => ((c.stops == []) : Bool)) Tryz.prog 6 Tryz.f6 Rows.storeNothingSpec Rows.storeNothingRow = true := by kernel_rfl
theorem storeNothing_j6 : (fun (P : Program) (_f : FuncId) (_fn : Func) (_s : ChangeSpec) (_c : OpenClaim) => ((P.stops == []) : Bool)) Tryz.prog 6 Tryz.f6 Rows.storeNothingSpec Rows.storeNothingRow = true := by kernel_rfl
theorem storeNothing_j7 : (fun (_P : Program) (_f : FuncId) (_fn : Func) (_s : ChangeSpec) (c : OpenClaim) => ((c.knobs == []) : Bool)) Tryz.prog 6 Tryz.f6 Rows.storeNothingSpec Rows.storeNothingRow = true := by kernel_rfl
theorem storeNothing_j8 : (fun (P : Program) (_f : FuncId) (_fn : Func) (_s : ChangeSpec) (_c : OpenClaim) => ((P.stopKnobs == []) : Bool)) Tryz.prog 6 Tryz.f6 Rows.storeNothingSpec Rows.storeNothingRow = true := by kernel_rfl
theorem storeNothing_j9 : (fun (P : Program) (f : FuncId) (_fn : Func) (_s : ChangeSpec) (c : OpenClaim) => ((c.inPlace == P.inPlace f) : Bool)) Tryz.prog 6 Tryz.f6 Rows.storeNothingSpec Rows.storeNothingRow = true := by kernel_rfl
theorem storeNothing_j10 : (fun (P : Program) (f : FuncId) (_fn : Func) (_s : ChangeSpec) (c : OpenClaim) => ((c.unfollowed == P.unfollowed f) : Bool)) Tryz.prog 6 Tryz.f6 Rows.storeNothingSpec Rows.storeNothingRow = true := by kernel_rfl
theorem storeNothing_j11 : (fun (P : Program) (f : FuncId) (_fn : Func) (_s : ChangeSpec) (c : OpenClaim) => ((c.recurses == P.recurses f) : Bool)) Tryz.prog 6 Tryz.f6 Rows.storeNothingSpec Rows.storeNothingRow = true := by kernel_rfl
theorem storeNothing_j12 : (fun (P : Program) (f : FuncId) (_fn : Func) (_s : ChangeSpec) (c : OpenClaim) => ((c.named == P.varsNamed f) : Bool)) Tryz.prog 6 Tryz.f6 Rows.storeNothingSpec Rows.storeNothingRow = true := by kernel_rfl
theorem storeNothing_j13 : (fun (P : Program) (_f : FuncId) (fn : Func) (s : ChangeSpec) (c : OpenClaim) => ((c.maps == (fn.params.toList ++ s.plain.varTypes P).any (P.mapsRec ·)) : Bool)) Tryz.prog 6 Tryz.f6 Rows.storeNothingSpec Rows.storeNothingRow = true := by kernel_rfl
theorem storeNothing_j14 : (fun (P : Program) (_f : FuncId) (fn : Func) (s : ChangeSpec) (c : OpenClaim) => ((c.ifaces == (fn.params.toList ++ s.plain.varTypes P).any (P.ifacesRec ·)) : Bool)) Tryz.prog 6 Tryz.f6 Rows.storeNothingSpec Rows.storeNothingRow = true := by kernel_rfl
theorem storeNothing_j15 : (fun (P : Program) (_f : FuncId) (fn : Func) (_s : ChangeSpec) (c : OpenClaim) => ((c.mapsOut == P.mapsAmong fn.resultTypes.toList) : Bool)) Tryz.prog 6 Tryz.f6 Rows.storeNothingSpec Rows.storeNothingRow = true := by kernel_rfl
theorem storeNothing_j16 : (fun (P : Program) (_f : FuncId) (fn : Func) (s : ChangeSpec) (c : OpenClaim) => ((c.loops == (fn.params.toList ++ s.plain.varTypes P).any (P.loopsFrom ·)) : Bool)) Tryz.prog 6 Tryz.f6 Rows.storeNothingSpec Rows.storeNothingRow = true := by kernel_rfl
theorem storeNothing_j17 : (fun (P : Program) (_f : FuncId) (fn : Func) (s : ChangeSpec) (c : OpenClaim) => ((c.wideKeys == (fn.params.toList ++ s.plain.varTypes P ++ fn.resultTypes.toList).any (P.wideKeysFrom ·)) : Bool)) Tryz.prog 6 Tryz.f6 Rows.storeNothingSpec Rows.storeNothingRow = true := by kernel_rfl
theorem storeNothing_j18 : (fun (P : Program) (_f : FuncId) (_fn : Func) (s : ChangeSpec) (_c : OpenClaim) => (s.vars.all (P.varReadable ·) : Bool)) Tryz.prog 6 Tryz.f6 Rows.storeNothingSpec Rows.storeNothingRow = true := by kernel_rfl
theorem storeNothing_j19 : (fun (P : Program) (_f : FuncId) (fn : Func) (_s : ChangeSpec) (_c : OpenClaim) => (fn.resultTypes.all (fun t => P.readableRec t && decide (t < P.types.size)) : Bool)) Tryz.prog 6 Tryz.f6 Rows.storeNothingSpec Rows.storeNothingRow = true := by kernel_rfl
theorem storeNothing_j20 : (fun (P : Program) (_f : FuncId) (fn : Func) (_s : ChangeSpec) (c : OpenClaim) => ((c.ifacesOut == fn.resultTypes.toList.any (P.ifacesRec ·)) : Bool)) Tryz.prog 6 Tryz.f6 Rows.storeNothingSpec Rows.storeNothingRow = true := by kernel_rfl
theorem storeNothing_j21 : (fun (P : Program) (_f : FuncId) (fn : Func) (_s : ChangeSpec) (c : OpenClaim) => ((c.loopsOut == fn.resultTypes.toList.any (P.loopsFrom ·)) : Bool)) Tryz.prog 6 Tryz.f6 Rows.storeNothingSpec Rows.storeNothingRow = true := by kernel_rfl
theorem storeNothing_j22 : (fun (P : Program) (_f : FuncId) (_fn : Func) (_s : ChangeSpec) (c : OpenClaim) => ((c.plainKeys == P.plainKeys) : Bool)) Tryz.prog 6 Tryz.f6 Rows.storeNothingSpec Rows.storeNothingRow = true := by kernel_rfl
theorem storeNothing_j23 : (fun (_P : Program) (_f : FuncId) (_fn : Func) (_s : ChangeSpec) (c : OpenClaim) => (c.shortTexts.isNone : Bool)) Tryz.prog 6 Tryz.f6 Rows.storeNothingSpec Rows.storeNothingRow = true := by kernel_rfl
theorem storeNothing_j24 : (fun (P : Program) (_f : FuncId) (_fn : Func) (_s : ChangeSpec) (_c : OpenClaim) => (P.stopsHeard : Bool)) Tryz.prog 6 Tryz.f6 Rows.storeNothingSpec Rows.storeNothingRow = true := by kernel_rfl
theorem storeNothing_j25 : (fun (P : Program) (_f : FuncId) (_fn : Func) (_s : ChangeSpec) (_c : OpenClaim) => (P.mayEnter : Bool)) Tryz.prog 6 Tryz.f6 Rows.storeNothingSpec Rows.storeNothingRow = true := by kernel_rfl
theorem storeNothing_j26 : (fun (P : Program) (_f : FuncId) (_fn : Func) (_s : ChangeSpec) (c : OpenClaim) => ((c.lifted == P.liftsFinal) : Bool)) Tryz.prog 6 Tryz.f6 Rows.storeNothingSpec Rows.storeNothingRow = true := by kernel_rfl
theorem storeNothing_j27 : (fun (P : Program) (_f : FuncId) (_fn : Func) (_s : ChangeSpec) (c : OpenClaim) => ((P.make == some c.make) : Bool)) Tryz.prog 6 Tryz.f6 Rows.storeNothingSpec Rows.storeNothingRow = true := by kernel_rfl
theorem storeNothing_j28 : (fun (P : Program) (_f : FuncId) (fn : Func) (_s : ChangeSpec) (c : OpenClaim) => ((c.kinds == (if c.domain.isEmpty then [] else fn.params.toList.map fun t => match P.underlying t with | some (.int k) => some k | _ => none)) : Bool)) Tryz.prog 6 Tryz.f6 Rows.storeNothingSpec Rows.storeNothingRow = true := by kernel_rfl
theorem storeNothing_j29 : (fun (_P : Program) (_f : FuncId) (_fn : Func) (_s : ChangeSpec) (c : OpenClaim) => ((c.pinned == c.pinnedBy) : Bool)) Tryz.prog 6 Tryz.f6 Rows.storeNothingSpec Rows.storeNothingRow = true := by kernel_rfl
theorem storeNothing_j30 : (fun (P : Program) (_f : FuncId) (fn : Func) (s : ChangeSpec) (c : OpenClaim) => ((c.veiled == (fn.params.toList ++ s.plain.varTypes P ++ fn.resultTypes.toList).any (P.veiledRec ·)) : Bool)) Tryz.prog 6 Tryz.f6 Rows.storeNothingSpec Rows.storeNothingRow = true := by kernel_rfl
theorem storeNothing_j31 : (fun (P : Program) (_f : FuncId) (fn : Func) (s : ChangeSpec) (c : OpenClaim) => (c.veiledFits P fn.params.toList (fn.params.toList ++ s.plain.varTypes P ++ fn.resultTypes.toList) : Bool)) Tryz.prog 6 Tryz.f6 Rows.storeNothingSpec Rows.storeNothingRow = true := by kernel_rfl
theorem storeNothing_facts : joinedFacts Tryz.prog 6 Tryz.f6 Rows.storeNothingSpec Rows.storeNothingRow = true := by
  unfold joinedFacts
  simp only [Bool.and_eq_true]
  exact ⟨⟨⟨⟨⟨⟨⟨⟨⟨⟨⟨⟨⟨⟨⟨⟨⟨⟨⟨⟨⟨⟨⟨⟨⟨⟨⟨⟨⟨⟨⟨storeNothing_j0, storeNothing_j1⟩, storeNothing_j2⟩, storeNothing_j3⟩, storeNothing_j4⟩, storeNothing_j5⟩, storeNothing_j6⟩, storeNothing_j7⟩, storeNothing_j8⟩, storeNothing_j9⟩, storeNothing_j10⟩, storeNothing_j11⟩, storeNothing_j12⟩, storeNothing_j13⟩, storeNothing_j14⟩, storeNothing_j15⟩, storeNothing_j16⟩, storeNothing_j17⟩, storeNothing_j18⟩, storeNothing_j19⟩, storeNothing_j20⟩, storeNothing_j21⟩, storeNothing_j22⟩, storeNothing_j23⟩, storeNothing_j24⟩, storeNothing_j25⟩, storeNothing_j26⟩, storeNothing_j27⟩, storeNothing_j28⟩, storeNothing_j29⟩, storeNothing_j30⟩, storeNothing_j31⟩
end Go.Proofs.YtdhpgacmgebjdaaGreatDoor

