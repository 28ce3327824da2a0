/-
  No cell of these rows narrows 'for every input' (looked for: loops, veiled, ifaces, maps, wideKeys, modest, calm, conditions, laid).
  DERIVED. THE GIVEN ROWS OF THIS SEAT. 11 by the template 'for every input the law returns true; each argument reads behind the call as it read before'; 0 by the template 'total and deterministic' (their statements: YtcmfgmhadeeieaaTotals.lean).
  GIVEN WITH THE SEED: the statements are not yours to turn. If you find one false, say at which input.
  Laid BY PROGRAM, IN A SANDBOX (cutbox-rows.mjs): the forced cells as the released guide's own fill.sh prints them over the translation 6819c69245125769… (all of the seat's roots in one cut). By AI agents, Wed Nov 11 2026. No macro, syntax, notation, axiom, sorry.
-/
import Derived.Test.YtcmfgmhadeeieaaChecked
import GoSem.Claim
import GoSem.ClaimJoined
import GoSem.ClaimMapViews
import Derived.JoinedTies
import Derived.KernelRfl
namespace Go.Proofs.Ytcmfgmhadeeieaa
/- THE CELL 'sum', in the pinned program and in every row, IS THE sha256 OF THE DUMP (.gsa) THAT YtcmfgmhadeeieaaProg.lean LOADS. Nothing in Lean hashes anything: it is a label: what it is worth is what the hold of that sum in a sandbox is worth. -/
noncomputable def Try.pinned : Pinned := { name := "ytcmfgmhadeeieaa", sum := "6819c6924512576909c20e4052cc288e6245af554ab666326e022483143adcbd", checked := Try.checked }
namespace Rows
def none {H : Type} : Left H := { results := [], args := [] }

/-- 'stolonlaw03.DiskCosts': WHATEVER THE INPUT: true; the input reads as it did. -/
def diskCostsSpec : ChangeSpec := { name := "diskCosts", fn := fun _ => fun
  | [d] => { results := [.lit (.bool true)], args := [d] }
  | _ => none }
def diskCostsRow : OpenClaim := { program := "ytcmfgmhadeeieaa", sum := "6819c6924512576909c20e4052cc288e6245af554ab666326e022483143adcbd", func := "stolon/stolonlaw03.DiskCosts", spec := "diskCosts", apart := false }
def DiskCostsSaid : Prop := diskCostsRow.holds Try.pinned (OpenSpec.ofChange diskCostsSpec)

/-- ITS FALSE NEIGHBOUR: 'it returns false'. Refute it at one input. -/
def diskCostsWrong : ChangeSpec := { name := "diskCosts", fn := fun _ => fun
  | [d] => { results := [.lit (.bool false)], args := [d] }
  | _ => none }
def DiskCostsWrongFalsely : Prop := diskCostsRow.holds Try.pinned (OpenSpec.ofChange diskCostsWrong)

/-- 'stolonlaw03.DiskReadsBack': WHATEVER THE INPUT: true; the input reads as it did. -/
def diskReadsBackSpec : ChangeSpec := { name := "diskReadsBack", fn := fun _ => fun
  | [d1, d2] => { results := [.lit (.bool true)], args := [d1, d2] }
  | _ => none }
def diskReadsBackRow : OpenClaim := { program := "ytcmfgmhadeeieaa", sum := "6819c6924512576909c20e4052cc288e6245af554ab666326e022483143adcbd", func := "stolon/stolonlaw03.DiskReadsBack", spec := "diskReadsBack", apart := false }
def DiskReadsBackSaid : Prop := diskReadsBackRow.holds Try.pinned (OpenSpec.ofChange diskReadsBackSpec)

/-- ITS FALSE NEIGHBOUR: 'it returns false'. Refute it at one input. -/
def diskReadsBackWrong : ChangeSpec := { name := "diskReadsBack", fn := fun _ => fun
  | [d1, d2] => { results := [.lit (.bool false)], args := [d1, d2] }
  | _ => none }
def DiskReadsBackWrongFalsely : Prop := diskReadsBackRow.holds Try.pinned (OpenSpec.ofChange diskReadsBackWrong)

/-- 'stolonlaw03.DiskRecords': WHATEVER THE INPUT: true; the input reads as it did. -/
def diskRecordsSpec : ChangeSpec := { name := "diskRecords", fn := fun _ => fun
  | [d1, d2, d3] => { results := [.lit (.bool true)], args := [d1, d2, d3] }
  | _ => none }
def diskRecordsRow : OpenClaim := { program := "ytcmfgmhadeeieaa", sum := "6819c6924512576909c20e4052cc288e6245af554ab666326e022483143adcbd", func := "stolon/stolonlaw03.DiskRecords", spec := "diskRecords", apart := false }
def DiskRecordsSaid : Prop := diskRecordsRow.holds Try.pinned (OpenSpec.ofChange diskRecordsSpec)

/-- ITS FALSE NEIGHBOUR: 'it returns false'. Refute it at one input. -/
def diskRecordsWrong : ChangeSpec := { name := "diskRecords", fn := fun _ => fun
  | [d1, d2, d3] => { results := [.lit (.bool false)], args := [d1, d2, d3] }
  | _ => none }
def DiskRecordsWrongFalsely : Prop := diskRecordsRow.holds Try.pinned (OpenSpec.ofChange diskRecordsWrong)

/-- 'stolonlaw03.DiskRotHides': WHATEVER THE INPUT: true; the input reads as it did. -/
def diskRotHidesSpec : ChangeSpec := { name := "diskRotHides", fn := fun _ => fun
  | [d1, d2, d3] => { results := [.lit (.bool true)], args := [d1, d2, d3] }
  | _ => none }
def diskRotHidesRow : OpenClaim := { program := "ytcmfgmhadeeieaa", sum := "6819c6924512576909c20e4052cc288e6245af554ab666326e022483143adcbd", func := "stolon/stolonlaw03.DiskRotHides", spec := "diskRotHides", apart := false }
def DiskRotHidesSaid : Prop := diskRotHidesRow.holds Try.pinned (OpenSpec.ofChange diskRotHidesSpec)

/-- ITS FALSE NEIGHBOUR: 'it returns false'. Refute it at one input. -/
def diskRotHidesWrong : ChangeSpec := { name := "diskRotHides", fn := fun _ => fun
  | [d1, d2, d3] => { results := [.lit (.bool false)], args := [d1, d2, d3] }
  | _ => none }
def DiskRotHidesWrongFalsely : Prop := diskRotHidesRow.holds Try.pinned (OpenSpec.ofChange diskRotHidesWrong)

/-- 'stolonlaw03.DiskMemory': WHATEVER THE INPUT: true; the input reads as it did. -/
def diskMemorySpec : ChangeSpec := { name := "diskMemory", fn := fun _ => fun
  | [d1, d2] => { results := [.lit (.bool true)], args := [d1, d2] }
  | _ => none }
def diskMemoryRow : OpenClaim := { program := "ytcmfgmhadeeieaa", sum := "6819c6924512576909c20e4052cc288e6245af554ab666326e022483143adcbd", func := "stolon/stolonlaw03.DiskMemory", spec := "diskMemory", apart := false }
def DiskMemorySaid : Prop := diskMemoryRow.holds Try.pinned (OpenSpec.ofChange diskMemorySpec)

/-- ITS FALSE NEIGHBOUR: 'it returns false'. Refute it at one input. -/
def diskMemoryWrong : ChangeSpec := { name := "diskMemory", fn := fun _ => fun
  | [d1, d2] => { results := [.lit (.bool false)], args := [d1, d2] }
  | _ => none }
def DiskMemoryWrongFalsely : Prop := diskMemoryRow.holds Try.pinned (OpenSpec.ofChange diskMemoryWrong)

/-- 'stolonlaw03.DiskLiveOnly': WHATEVER THE INPUT: true; the input reads as it did. -/
def diskLiveOnlySpec : ChangeSpec := { name := "diskLiveOnly", fn := fun _ => fun
  | [d1, d2] => { results := [.lit (.bool true)], args := [d1, d2] }
  | _ => none }
def diskLiveOnlyRow : OpenClaim := { program := "ytcmfgmhadeeieaa", sum := "6819c6924512576909c20e4052cc288e6245af554ab666326e022483143adcbd", func := "stolon/stolonlaw03.DiskLiveOnly", spec := "diskLiveOnly", apart := false }
def DiskLiveOnlySaid : Prop := diskLiveOnlyRow.holds Try.pinned (OpenSpec.ofChange diskLiveOnlySpec)

/-- ITS FALSE NEIGHBOUR: 'it returns false'. Refute it at one input. -/
def diskLiveOnlyWrong : ChangeSpec := { name := "diskLiveOnly", fn := fun _ => fun
  | [d1, d2] => { results := [.lit (.bool false)], args := [d1, d2] }
  | _ => none }
def DiskLiveOnlyWrongFalsely : Prop := diskLiveOnlyRow.holds Try.pinned (OpenSpec.ofChange diskLiveOnlyWrong)

/-- 'stolonlaw03.DiskLives': WHATEVER THE INPUT: true; the input reads as it did. -/
def diskLivesSpec : ChangeSpec := { name := "diskLives", fn := fun _ => fun
  | [d1, d2] => { results := [.lit (.bool true)], args := [d1, d2] }
  | _ => none }
def diskLivesRow : OpenClaim := { program := "ytcmfgmhadeeieaa", sum := "6819c6924512576909c20e4052cc288e6245af554ab666326e022483143adcbd", func := "stolon/stolonlaw03.DiskLives", spec := "diskLives", apart := false }
def DiskLivesSaid : Prop := diskLivesRow.holds Try.pinned (OpenSpec.ofChange diskLivesSpec)

/-- ITS FALSE NEIGHBOUR: 'it returns false'. Refute it at one input. -/
def diskLivesWrong : ChangeSpec := { name := "diskLives", fn := fun _ => fun
  | [d1, d2] => { results := [.lit (.bool false)], args := [d1, d2] }
  | _ => none }
def DiskLivesWrongFalsely : Prop := diskLivesRow.holds Try.pinned (OpenSpec.ofChange diskLivesWrong)

/-- 'stolonlaw03.DiskLoads': WHATEVER THE INPUT: true; the input reads as it did. -/
def diskLoadsSpec : ChangeSpec := { name := "diskLoads", fn := fun _ => fun
  | [d] => { results := [.lit (.bool true)], args := [d] }
  | _ => none }
def diskLoadsRow : OpenClaim := { program := "ytcmfgmhadeeieaa", sum := "6819c6924512576909c20e4052cc288e6245af554ab666326e022483143adcbd", func := "stolon/stolonlaw03.DiskLoads", spec := "diskLoads", apart := false }
def DiskLoadsSaid : Prop := diskLoadsRow.holds Try.pinned (OpenSpec.ofChange diskLoadsSpec)

/-- ITS FALSE NEIGHBOUR: 'it returns false'. Refute it at one input. -/
def diskLoadsWrong : ChangeSpec := { name := "diskLoads", fn := fun _ => fun
  | [d] => { results := [.lit (.bool false)], args := [d] }
  | _ => none }
def DiskLoadsWrongFalsely : Prop := diskLoadsRow.holds Try.pinned (OpenSpec.ofChange diskLoadsWrong)

/-- 'stolonlaw03.DiskTorn': WHATEVER THE INPUT: true; the input reads as it did. -/
def diskTornSpec : ChangeSpec := { name := "diskTorn", fn := fun _ => fun
  | [d1, d2, d3] => { results := [.lit (.bool true)], args := [d1, d2, d3] }
  | _ => none }
def diskTornRow : OpenClaim := { program := "ytcmfgmhadeeieaa", sum := "6819c6924512576909c20e4052cc288e6245af554ab666326e022483143adcbd", func := "stolon/stolonlaw03.DiskTorn", spec := "diskTorn", apart := false }
def DiskTornSaid : Prop := diskTornRow.holds Try.pinned (OpenSpec.ofChange diskTornSpec)

/-- ITS FALSE NEIGHBOUR: 'it returns false'. Refute it at one input. -/
def diskTornWrong : ChangeSpec := { name := "diskTorn", fn := fun _ => fun
  | [d1, d2, d3] => { results := [.lit (.bool false)], args := [d1, d2, d3] }
  | _ => none }
def DiskTornWrongFalsely : Prop := diskTornRow.holds Try.pinned (OpenSpec.ofChange diskTornWrong)

/-- 'stolonlaw03.DiskDevice': WHATEVER THE INPUT: true; the input reads as it did. -/
def diskDeviceSpec : ChangeSpec := { name := "diskDevice", fn := fun _ => fun
  | [d1, d2] => { results := [.lit (.bool true)], args := [d1, d2] }
  | _ => none }
def diskDeviceRow : OpenClaim := { program := "ytcmfgmhadeeieaa", sum := "6819c6924512576909c20e4052cc288e6245af554ab666326e022483143adcbd", func := "stolon/stolonlaw03.DiskDevice", spec := "diskDevice", apart := false }
def DiskDeviceSaid : Prop := diskDeviceRow.holds Try.pinned (OpenSpec.ofChange diskDeviceSpec)

/-- ITS FALSE NEIGHBOUR: 'it returns false'. Refute it at one input. -/
def diskDeviceWrong : ChangeSpec := { name := "diskDevice", fn := fun _ => fun
  | [d1, d2] => { results := [.lit (.bool false)], args := [d1, d2] }
  | _ => none }
def DiskDeviceWrongFalsely : Prop := diskDeviceRow.holds Try.pinned (OpenSpec.ofChange diskDeviceWrong)

/-- 'stolonlaw03.DiskScripts': WHATEVER THE INPUT: true; the input reads as it did. -/
def diskScriptsSpec : ChangeSpec := { name := "diskScripts", fn := fun _ => fun
  | [d1, d2] => { results := [.lit (.bool true)], args := [d1, d2] }
  | _ => none }
def diskScriptsRow : OpenClaim := { program := "ytcmfgmhadeeieaa", sum := "6819c6924512576909c20e4052cc288e6245af554ab666326e022483143adcbd", func := "stolon/stolonlaw03.DiskScripts", spec := "diskScripts", apart := false }
def DiskScriptsSaid : Prop := diskScriptsRow.holds Try.pinned (OpenSpec.ofChange diskScriptsSpec)

/-- ITS FALSE NEIGHBOUR: 'it returns false'. Refute it at one input. -/
def diskScriptsWrong : ChangeSpec := { name := "diskScripts", fn := fun _ => fun
  | [d1, d2] => { results := [.lit (.bool false)], args := [d1, d2] }
  | _ => none }
def DiskScriptsWrongFalsely : Prop := diskScriptsRow.holds Try.pinned (OpenSpec.ofChange diskScriptsWrong)

/- THE SECOND FORM. 'bulk': how many values and letters a reading holds, each counted each time it is reached (what is shared counts as often as it is met; a slice's spare places count too). A statement '..UptoSaid' is the law's where the arguments, and the package variables that the reading takes, are together of bulk at most 1048576: NARROWER than '..Said'. Prove '..Said' where nothing that the law and all that it calls make is longer than what came in: it says more and counts as full. Else prove '..UptoSaid'. A law counts once. -/
mutual
def uptoBulk {H : Type} : DataW H → Nat
  | .lit (.string bytes) => bytes.length + 1
  | .lit _ => 1
  | .nil => 1
  | .ptr d => uptoBulk d + 1
  | .slice elems spare => uptoBulkAll elems + uptoBulkAll spare + 1
  | .agg parts => uptoBulkAll parts + 1
  | .iface _ d => uptoBulk d + 1
  | .map entries => uptoBulkEntries entries + 1
  | .held _ => 1
def uptoBulkAll {H : Type} : List (DataW H) → Nat
  | [] => 0
  | d :: r => uptoBulk d + uptoBulkAll r
def uptoBulkEntries {H : Type} : List (Lit × DataW H) → Nat
  | [] => 0
  | x :: r => uptoBulkEntry x + uptoBulkEntries r
def uptoBulkEntry {H : Type} : Lit × DataW H → Nat
  | (.string bytes, d) => bytes.length + uptoBulk d + 1
  | (_, d) => uptoBulk d + 1
 end
def uptoSmall : (H : Type) → List (DataW H) → Bool := fun _ ds => decide (uptoBulkAll ds ≤ 1048576)
def OpenSpec.upto (s : _root_.Go.ChangeSpec) : _root_.Go.OpenSpec := { _root_.Go.OpenSpec.ofChange s with cond := some uptoSmall }

/-- 'stolonlaw03.DiskCosts', WHERE WHAT IT READS IS OF BULK AT MOST 1048576: true; the input reads as it did. -/
def diskCostsUptoRow : OpenClaim := { program := "ytcmfgmhadeeieaa", sum := "6819c6924512576909c20e4052cc288e6245af554ab666326e022483143adcbd", func := "stolon/stolonlaw03.DiskCosts", spec := "diskCosts", apart := false, narrowed := true }
def DiskCostsUptoSaid : Prop := diskCostsUptoRow.holds Try.pinned (OpenSpec.upto diskCostsSpec)

/-- 'stolonlaw03.DiskReadsBack', WHERE WHAT IT READS IS OF BULK AT MOST 1048576: true; the input reads as it did. -/
def diskReadsBackUptoRow : OpenClaim := { program := "ytcmfgmhadeeieaa", sum := "6819c6924512576909c20e4052cc288e6245af554ab666326e022483143adcbd", func := "stolon/stolonlaw03.DiskReadsBack", spec := "diskReadsBack", apart := false, narrowed := true }
def DiskReadsBackUptoSaid : Prop := diskReadsBackUptoRow.holds Try.pinned (OpenSpec.upto diskReadsBackSpec)

/-- 'stolonlaw03.DiskRecords', WHERE WHAT IT READS IS OF BULK AT MOST 1048576: true; the input reads as it did. -/
def diskRecordsUptoRow : OpenClaim := { program := "ytcmfgmhadeeieaa", sum := "6819c6924512576909c20e4052cc288e6245af554ab666326e022483143adcbd", func := "stolon/stolonlaw03.DiskRecords", spec := "diskRecords", apart := false, narrowed := true }
def DiskRecordsUptoSaid : Prop := diskRecordsUptoRow.holds Try.pinned (OpenSpec.upto diskRecordsSpec)

/-- 'stolonlaw03.DiskRotHides', WHERE WHAT IT READS IS OF BULK AT MOST 1048576: true; the input reads as it did. -/
def diskRotHidesUptoRow : OpenClaim := { program := "ytcmfgmhadeeieaa", sum := "6819c6924512576909c20e4052cc288e6245af554ab666326e022483143adcbd", func := "stolon/stolonlaw03.DiskRotHides", spec := "diskRotHides", apart := false, narrowed := true }
def DiskRotHidesUptoSaid : Prop := diskRotHidesUptoRow.holds Try.pinned (OpenSpec.upto diskRotHidesSpec)

/-- 'stolonlaw03.DiskMemory', WHERE WHAT IT READS IS OF BULK AT MOST 1048576: true; the input reads as it did. -/
def diskMemoryUptoRow : OpenClaim := { program := "ytcmfgmhadeeieaa", sum := "6819c6924512576909c20e4052cc288e6245af554ab666326e022483143adcbd", func := "stolon/stolonlaw03.DiskMemory", spec := "diskMemory", apart := false, narrowed := true }
def DiskMemoryUptoSaid : Prop := diskMemoryUptoRow.holds Try.pinned (OpenSpec.upto diskMemorySpec)

/-- 'stolonlaw03.DiskLiveOnly', WHERE WHAT IT READS IS OF BULK AT MOST 1048576: true; the input reads as it did. -/
def diskLiveOnlyUptoRow : OpenClaim := { program := "ytcmfgmhadeeieaa", sum := "6819c6924512576909c20e4052cc288e6245af554ab666326e022483143adcbd", func := "stolon/stolonlaw03.DiskLiveOnly", spec := "diskLiveOnly", apart := false, narrowed := true }
def DiskLiveOnlyUptoSaid : Prop := diskLiveOnlyUptoRow.holds Try.pinned (OpenSpec.upto diskLiveOnlySpec)

/-- 'stolonlaw03.DiskLives', WHERE WHAT IT READS IS OF BULK AT MOST 1048576: true; the input reads as it did. -/
def diskLivesUptoRow : OpenClaim := { program := "ytcmfgmhadeeieaa", sum := "6819c6924512576909c20e4052cc288e6245af554ab666326e022483143adcbd", func := "stolon/stolonlaw03.DiskLives", spec := "diskLives", apart := false, narrowed := true }
def DiskLivesUptoSaid : Prop := diskLivesUptoRow.holds Try.pinned (OpenSpec.upto diskLivesSpec)

/-- 'stolonlaw03.DiskLoads', WHERE WHAT IT READS IS OF BULK AT MOST 1048576: true; the input reads as it did. -/
def diskLoadsUptoRow : OpenClaim := { program := "ytcmfgmhadeeieaa", sum := "6819c6924512576909c20e4052cc288e6245af554ab666326e022483143adcbd", func := "stolon/stolonlaw03.DiskLoads", spec := "diskLoads", apart := false, narrowed := true }
def DiskLoadsUptoSaid : Prop := diskLoadsUptoRow.holds Try.pinned (OpenSpec.upto diskLoadsSpec)

/-- 'stolonlaw03.DiskTorn', WHERE WHAT IT READS IS OF BULK AT MOST 1048576: true; the input reads as it did. -/
def diskTornUptoRow : OpenClaim := { program := "ytcmfgmhadeeieaa", sum := "6819c6924512576909c20e4052cc288e6245af554ab666326e022483143adcbd", func := "stolon/stolonlaw03.DiskTorn", spec := "diskTorn", apart := false, narrowed := true }
def DiskTornUptoSaid : Prop := diskTornUptoRow.holds Try.pinned (OpenSpec.upto diskTornSpec)

/-- 'stolonlaw03.DiskDevice', WHERE WHAT IT READS IS OF BULK AT MOST 1048576: true; the input reads as it did. -/
def diskDeviceUptoRow : OpenClaim := { program := "ytcmfgmhadeeieaa", sum := "6819c6924512576909c20e4052cc288e6245af554ab666326e022483143adcbd", func := "stolon/stolonlaw03.DiskDevice", spec := "diskDevice", apart := false, narrowed := true }
def DiskDeviceUptoSaid : Prop := diskDeviceUptoRow.holds Try.pinned (OpenSpec.upto diskDeviceSpec)

/-- 'stolonlaw03.DiskScripts', WHERE WHAT IT READS IS OF BULK AT MOST 1048576: true; the input reads as it did. -/
def diskScriptsUptoRow : OpenClaim := { program := "ytcmfgmhadeeieaa", sum := "6819c6924512576909c20e4052cc288e6245af554ab666326e022483143adcbd", func := "stolon/stolonlaw03.DiskScripts", spec := "diskScripts", apart := false, narrowed := true }
def DiskScriptsUptoSaid : Prop := diskScriptsUptoRow.holds Try.pinned (OpenSpec.upto diskScriptsSpec)

end Rows
end Go.Proofs.Ytcmfgmhadeeieaa
