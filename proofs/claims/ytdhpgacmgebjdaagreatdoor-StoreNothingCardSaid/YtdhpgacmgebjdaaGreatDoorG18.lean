/-
  Printed by a program: texts without a loop as summaries.
  Conditions: as each theorem states.
  The store: its known run.
  Conditions: as each theorem states.
-/
import Derived.Test.YtdhpgacmgebjdaaGreatDoorG17
namespace Go.Proofs.YtdhpgacmgebjdaaGreatDoor
open Go Go.Abs
noncomputable section
def s13 (args : List Value) (h : Heap) : Out :=
  match args with
  | [x0] => if Nat.ble 3 h.n0 = true then t13 (callL []) x0 h else none
  | _ => none
theorem is13 : IsFn Tryz.prog 13 Tryz.f13 := ⟨by kernel_rfl, by kernel_rfl, by kernel_rfl, by kernel_rfl⟩
theorem h13 : Hold1 13 s13 := by
  intro args h r e
  unfold s13 at e
  split at e
  · split at e
    · rename_i hg
      exact hold_text (C := callL []) is13 Holds.nil hg rfl ((t13_eq _ _ _).trans e)
    · cases e
  · cases e
def s63 (args : List Value) (h : Heap) : Out :=
  match args with
  | [x0, x1, x2] => if Nat.ble 3 h.n0 = true then t63 (callL []) x0 x1 x2 h else none
  | _ => none
theorem is63 : IsFn Tryz.prog 63 Tryz.f63 := ⟨by kernel_rfl, by kernel_rfl, by kernel_rfl, by kernel_rfl⟩
theorem h63 : Hold1 63 s63 := by
  intro args h r e
  unfold s63 at e
  split at e
  · split at e
    · rename_i hg
      exact hold_text (C := callL []) is63 Holds.nil hg rfl ((t63_eq _ _ _ _ _).trans e)
    · cases e
  · cases e
def s69 (args : List Value) (h : Heap) : Out :=
  match args with
  | [x0, x1] => if Nat.ble 3 h.n0 = true then t69 (callL []) x0 x1 h else none
  | _ => none
theorem is69 : IsFn Tryz.prog 69 Tryz.f69 := ⟨by kernel_rfl, by kernel_rfl, by kernel_rfl, by kernel_rfl⟩
theorem h69 : Hold1 69 s69 := by
  intro args h r e
  unfold s69 at e
  split at e
  · split at e
    · rename_i hg
      exact hold_text (C := callL []) is69 Holds.nil hg rfl ((t69_eq _ _ _ _).trans e)
    · cases e
  · cases e
def s73 (args : List Value) (h : Heap) : Out :=
  match args with
  | [x0] => if Nat.ble 3 h.n0 = true then t73 (callL []) x0 h else none
  | _ => none
theorem is73 : IsFn Tryz.prog 73 Tryz.f73 := ⟨by kernel_rfl, by kernel_rfl, by kernel_rfl, by kernel_rfl⟩
theorem h73 : Hold1 73 s73 := by
  intro args h r e
  unfold s73 at e
  split at e
  · split at e
    · rename_i hg
      exact hold_text (C := callL []) is73 Holds.nil hg rfl ((t73_eq _ _ _).trans e)
    · cases e
  · cases e
def s83 (args : List Value) (h : Heap) : Out :=
  match args with
  | [x0, x1] => if Nat.ble 3 h.n0 = true then t83 (callL [(136, cmpS)]) x0 x1 h else none
  | _ => none
theorem is83 : IsFn Tryz.prog 83 Tryz.f83 := ⟨by kernel_rfl, by kernel_rfl, by kernel_rfl, by kernel_rfl⟩
theorem h83 : Hold1 83 s83 := by
  intro args h r e
  unfold s83 at e
  split at e
  · split at e
    · rename_i hg
      exact hold_text (C := callL [(136, cmpS)]) is83 (.cons h136 Holds.nil) hg rfl ((t83_eq _ _ _ _).trans e)
    · cases e
  · cases e
def s103 (args : List Value) (h : Heap) : Out :=
  match args with
  | [x0, x1, x2] => if Nat.ble 3 h.n0 = true then t103 (callL []) x0 x1 x2 h else none
  | _ => none
theorem is103 : IsFn Tryz.prog 103 Tryz.f103 := ⟨by kernel_rfl, by kernel_rfl, by kernel_rfl, by kernel_rfl⟩
theorem h103 : Hold1 103 s103 := by
  intro args h r e
  unfold s103 at e
  split at e
  · split at e
    · rename_i hg
      exact hold_text (C := callL []) is103 Holds.nil hg rfl ((t103_eq _ _ _ _ _).trans e)
    · cases e
  · cases e
def s105 (args : List Value) (h : Heap) : Out :=
  match args with
  | [x0, x1] => if Nat.ble 3 h.n0 = true then t105 (callL []) x0 x1 h else none
  | _ => none
theorem is105 : IsFn Tryz.prog 105 Tryz.f105 := ⟨by kernel_rfl, by kernel_rfl, by kernel_rfl, by kernel_rfl⟩
theorem h105 : Hold1 105 s105 := by
  intro args h r e
  unfold s105 at e
  split at e
  · split at e
    · rename_i hg
      exact hold_text (C := callL []) is105 Holds.nil hg rfl ((t105_eq _ _ _ _).trans e)
    · cases e
  · cases e
def s107 (args : List Value) (h : Heap) : Out :=
  match args with
  | [x0] => if Nat.ble 3 h.n0 = true then t107 (callL []) x0 h else none
  | _ => none
theorem is107 : IsFn Tryz.prog 107 Tryz.f107 := ⟨by kernel_rfl, by kernel_rfl, by kernel_rfl, by kernel_rfl⟩
theorem h107 : Hold1 107 s107 := by
  intro args h r e
  unfold s107 at e
  split at e
  · split at e
    · rename_i hg
      exact hold_text (C := callL []) is107 Holds.nil hg rfl ((t107_eq _ _ _).trans e)
    · cases e
  · cases e
def s110 (args : List Value) (h : Heap) : Out :=
  match args with
  | [x0] => if Nat.ble 3 h.n0 = true then t110 (callL [(171, s171q)]) x0 h else none
  | _ => none
theorem is110 : IsFn Tryz.prog 110 Tryz.f110 := ⟨by kernel_rfl, by kernel_rfl, by kernel_rfl, by kernel_rfl⟩
theorem h110 : Hold1 110 s110 := by
  intro args h r e
  unfold s110 at e
  split at e
  · split at e
    · rename_i hg
      exact hold_text (C := callL [(171, s171q)]) is110 (.cons h171q Holds.nil) hg rfl ((t110_eq _ _ _).trans e)
    · cases e
  · cases e
def s111 (args : List Value) (h : Heap) : Out :=
  match args with
  | [x0] => if Nat.ble 3 h.n0 = true then t111 (callL [(172, s172)]) x0 h else none
  | _ => none
theorem is111 : IsFn Tryz.prog 111 Tryz.f111 := ⟨by kernel_rfl, by kernel_rfl, by kernel_rfl, by kernel_rfl⟩
theorem h111 : Hold1 111 s111 := by
  intro args h r e
  unfold s111 at e
  split at e
  · split at e
    · rename_i hg
      exact hold_text (C := callL [(172, s172)]) is111 (.cons h172 Holds.nil) hg rfl ((t111_eq _ _ _).trans e)
    · cases e
  · cases e
def s112 (args : List Value) (h : Heap) : Out :=
  match args with
  | [x0] => if Nat.ble 3 h.n0 = true then t112 (callL [(172, s172)]) x0 h else none
  | _ => none
theorem is112 : IsFn Tryz.prog 112 Tryz.f112 := ⟨by kernel_rfl, by kernel_rfl, by kernel_rfl, by kernel_rfl⟩
theorem h112 : Hold1 112 s112 := by
  intro args h r e
  unfold s112 at e
  split at e
  · split at e
    · rename_i hg
      exact hold_text (C := callL [(172, s172)]) is112 (.cons h172 Holds.nil) hg rfl ((t112_eq _ _ _).trans e)
    · cases e
  · cases e
def s116 (args : List Value) (h : Heap) : Out :=
  match args with
  | [x0] => if Nat.ble 3 h.n0 = true then t116 (callL []) x0 h else none
  | _ => none
theorem is116 : IsFn Tryz.prog 116 Tryz.f116 := ⟨by kernel_rfl, by kernel_rfl, by kernel_rfl, by kernel_rfl⟩
theorem h116 : Hold1 116 s116 := by
  intro args h r e
  unfold s116 at e
  split at e
  · split at e
    · rename_i hg
      exact hold_text (C := callL []) is116 Holds.nil hg rfl ((t116_eq _ _ _).trans e)
    · cases e
  · cases e
def s121 (args : List Value) (h : Heap) : Out :=
  match args with
  | [x0] => if Nat.ble 3 h.n0 = true then t121 (callL [(171, s171q)]) x0 h else none
  | _ => none
theorem is121 : IsFn Tryz.prog 121 Tryz.f121 := ⟨by kernel_rfl, by kernel_rfl, by kernel_rfl, by kernel_rfl⟩
theorem h121 : Hold1 121 s121 := by
  intro args h r e
  unfold s121 at e
  split at e
  · split at e
    · rename_i hg
      exact hold_text (C := callL [(171, s171q)]) is121 (.cons h171q Holds.nil) hg rfl ((t121_eq _ _ _).trans e)
    · cases e
  · cases e
def s126 (args : List Value) (h : Heap) : Out :=
  match args with
  | [x0] => if Nat.ble 3 h.n0 = true then t126 (callL []) x0 h else none
  | _ => none
theorem is126 : IsFn Tryz.prog 126 Tryz.f126 := ⟨by kernel_rfl, by kernel_rfl, by kernel_rfl, by kernel_rfl⟩
theorem h126 : Hold1 126 s126 := by
  intro args h r e
  unfold s126 at e
  split at e
  · split at e
    · rename_i hg
      exact hold_text (C := callL []) is126 Holds.nil hg rfl ((t126_eq _ _ _).trans e)
    · cases e
  · cases e
def s129 (args : List Value) (h : Heap) : Out :=
  match args with
  | [] => if Nat.ble 3 h.n0 = true then t129 (callL [])  h else none
  | _ => none
theorem is129 : IsFn Tryz.prog 129 Tryz.f129 := ⟨by kernel_rfl, by kernel_rfl, by kernel_rfl, by kernel_rfl⟩
theorem h129 : Hold1 129 s129 := by
  intro args h r e
  unfold s129 at e
  split at e
  · split at e
    · rename_i hg
      exact hold_text (C := callL []) is129 Holds.nil hg rfl ((t129_eq _ _).trans e)
    · cases e
  · cases e
def s132 (args : List Value) (h : Heap) : Out :=
  match args with
  | [x0] => if Nat.ble 3 h.n0 = true then t132 (callL []) x0 h else none
  | _ => none
theorem is132 : IsFn Tryz.prog 132 Tryz.f132 := ⟨by kernel_rfl, by kernel_rfl, by kernel_rfl, by kernel_rfl⟩
theorem h132 : Hold1 132 s132 := by
  intro args h r e
  unfold s132 at e
  split at e
  · split at e
    · rename_i hg
      exact hold_text (C := callL []) is132 Holds.nil hg rfl ((t132_eq _ _ _).trans e)
    · cases e
  · cases e
def s162 (args : List Value) (h : Heap) : Out :=
  match args with
  | [x0, x1] => if Nat.ble 3 h.n0 = true then t162 (callL []) x0 x1 h else none
  | _ => none
theorem is162 : IsFn Tryz.prog 162 Tryz.f162 := ⟨by kernel_rfl, by kernel_rfl, by kernel_rfl, by kernel_rfl⟩
theorem h162 : Hold1 162 s162 := by
  intro args h r e
  unfold s162 at e
  split at e
  · split at e
    · rename_i hg
      exact hold_text (C := callL []) is162 Holds.nil hg rfl ((t162_eq _ _ _ _).trans e)
    · cases e
  · cases e
def s164 (args : List Value) (h : Heap) : Out :=
  match args with
  | [x0, x1] => if Nat.ble 3 h.n0 = true then t164 (callL []) x0 x1 h else none
  | _ => none
theorem is164 : IsFn Tryz.prog 164 Tryz.f164 := ⟨by kernel_rfl, by kernel_rfl, by kernel_rfl, by kernel_rfl⟩
theorem h164 : Hold1 164 s164 := by
  intro args h r e
  unfold s164 at e
  split at e
  · split at e
    · rename_i hg
      exact hold_text (C := callL []) is164 Holds.nil hg rfl ((t164_eq _ _ _ _).trans e)
    · cases e
  · cases e
def s167 (args : List Value) (h : Heap) : Out :=
  match args with
  | [x0] => if Nat.ble 3 h.n0 = true then t167 (callL [(172, s172)]) x0 h else none
  | _ => none
theorem is167 : IsFn Tryz.prog 167 Tryz.f167 := ⟨by kernel_rfl, by kernel_rfl, by kernel_rfl, by kernel_rfl⟩
theorem h167 : Hold1 167 s167 := by
  intro args h r e
  unfold s167 at e
  split at e
  · split at e
    · rename_i hg
      exact hold_text (C := callL [(172, s172)]) is167 (.cons h172 Holds.nil) hg rfl ((t167_eq _ _ _).trans e)
    · cases e
  · cases e
def s168 (args : List Value) (h : Heap) : Out :=
  match args with
  | [x0] => if Nat.ble 3 h.n0 = true then t168 (callL [(172, s172)]) x0 h else none
  | _ => none
theorem is168 : IsFn Tryz.prog 168 Tryz.f168 := ⟨by kernel_rfl, by kernel_rfl, by kernel_rfl, by kernel_rfl⟩
theorem h168 : Hold1 168 s168 := by
  intro args h r e
  unfold s168 at e
  split at e
  · split at e
    · rename_i hg
      exact hold_text (C := callL [(172, s172)]) is168 (.cons h172 Holds.nil) hg rfl ((t168_eq _ _ _).trans e)
    · cases e
  · cases e
def s169 (args : List Value) (h : Heap) : Out :=
  match args with
  | [x0, x1] => if Nat.ble 3 h.n0 = true then t169 (callL [(171, s171q), (209, s209)]) x0 x1 h else none
  | _ => none
theorem is169 : IsFn Tryz.prog 169 Tryz.f169 := ⟨by kernel_rfl, by kernel_rfl, by kernel_rfl, by kernel_rfl⟩
theorem h169 : Hold1 169 s169 := by
  intro args h r e
  unfold s169 at e
  split at e
  · split at e
    · rename_i hg
      exact hold_text (C := callL [(171, s171q), (209, s209)]) is169 (.cons h171q (.cons h209 Holds.nil)) hg rfl ((t169_eq _ _ _ _).trans e)
    · cases e
  · cases e
def s170 (args : List Value) (h : Heap) : Out :=
  match args with
  | [x0] => if Nat.ble 3 h.n0 = true then t170 (callL []) x0 h else none
  | _ => none
theorem is170 : IsFn Tryz.prog 170 Tryz.f170 := ⟨by kernel_rfl, by kernel_rfl, by kernel_rfl, by kernel_rfl⟩
theorem h170 : Hold1 170 s170 := by
  intro args h r e
  unfold s170 at e
  split at e
  · split at e
    · rename_i hg
      exact hold_text (C := callL []) is170 Holds.nil hg rfl ((t170_eq _ _ _).trans e)
    · cases e
  · cases e
def s174 (args : List Value) (h : Heap) : Out :=
  match args with
  | [x0] => if Nat.ble 3 h.n0 = true then t174 (callL [(171, s171q), (172, s172), (209, s209)]) x0 h else none
  | _ => none
theorem is174 : IsFn Tryz.prog 174 Tryz.f174 := ⟨by kernel_rfl, by kernel_rfl, by kernel_rfl, by kernel_rfl⟩
theorem h174 : Hold1 174 s174 := by
  intro args h r e
  unfold s174 at e
  split at e
  · split at e
    · rename_i hg
      exact hold_text (C := callL [(171, s171q), (172, s172), (209, s209)]) is174 (.cons h171q (.cons h172 (.cons h209 Holds.nil))) hg rfl ((t174_eq _ _ _).trans e)
    · cases e
  · cases e
def s175 (args : List Value) (h : Heap) : Out :=
  match args with
  | [x0] => if Nat.ble 3 h.n0 = true then t175 (callL []) x0 h else none
  | _ => none
theorem is175 : IsFn Tryz.prog 175 Tryz.f175 := ⟨by kernel_rfl, by kernel_rfl, by kernel_rfl, by kernel_rfl⟩
theorem h175 : Hold1 175 s175 := by
  intro args h r e
  unfold s175 at e
  split at e
  · split at e
    · rename_i hg
      exact hold_text (C := callL []) is175 Holds.nil hg rfl ((t175_eq _ _ _).trans e)
    · cases e
  · cases e
def s179 (args : List Value) (h : Heap) : Out :=
  match args with
  | [x0] => if Nat.ble 3 h.n0 = true then t179 (callL [(121, s121), (208, s208q)]) x0 h else none
  | _ => none
theorem is179 : IsFn Tryz.prog 179 Tryz.f179 := ⟨by kernel_rfl, by kernel_rfl, by kernel_rfl, by kernel_rfl⟩
theorem h179 : Hold1 179 s179 := by
  intro args h r e
  unfold s179 at e
  split at e
  · split at e
    · rename_i hg
      exact hold_text (C := callL [(121, s121), (208, s208q)]) is179 (.cons h121 (.cons h208q Holds.nil)) hg rfl ((t179_eq _ _ _).trans e)
    · cases e
  · cases e
def s181 (args : List Value) (h : Heap) : Out :=
  match args with
  | [x0, x1] => if Nat.ble 3 h.n0 = true then t181 (callL []) x0 x1 h else none
  | _ => none
theorem is181 : IsFn Tryz.prog 181 Tryz.f181 := ⟨by kernel_rfl, by kernel_rfl, by kernel_rfl, by kernel_rfl⟩
theorem h181 : Hold1 181 s181 := by
  intro args h r e
  unfold s181 at e
  split at e
  · split at e
    · rename_i hg
      exact hold_text (C := callL []) is181 Holds.nil hg rfl ((t181_eq _ _ _ _).trans e)
    · cases e
  · cases e
def s207 (args : List Value) (h : Heap) : Out :=
  match args with
  | [x0, x1, x2] => if Nat.ble 3 h.n0 = true then t207 (callL [(231, s231)]) x0 x1 x2 h else none
  | _ => none
theorem is207 : IsFn Tryz.prog 207 Tryz.f207 := ⟨by kernel_rfl, by kernel_rfl, by kernel_rfl, by kernel_rfl⟩
theorem h207 : Hold1 207 s207 := by
  intro args h r e
  unfold s207 at e
  split at e
  · split at e
    · rename_i hg
      exact hold_text (C := callL [(231, s231)]) is207 (.cons h231 Holds.nil) hg rfl ((t207_eq _ _ _ _ _).trans e)
    · cases e
  · cases e
def s210 (args : List Value) (h : Heap) : Out :=
  match args with
  | [x0] => if Nat.ble 3 h.n0 = true then t210 (callL [(209, s209)]) x0 h else none
  | _ => none
theorem is210 : IsFn Tryz.prog 210 Tryz.f210 := ⟨by kernel_rfl, by kernel_rfl, by kernel_rfl, by kernel_rfl⟩
theorem h210 : Hold1 210 s210 := by
  intro args h r e
  unfold s210 at e
  split at e
  · split at e
    · rename_i hg
      exact hold_text (C := callL [(209, s209)]) is210 (.cons h209 Holds.nil) hg rfl ((t210_eq _ _ _).trans e)
    · cases e
  · cases e
def s211 (args : List Value) (h : Heap) : Out :=
  match args with
  | [x0] => if Nat.ble 3 h.n0 = true then t211 (callL [(170, s170)]) x0 h else none
  | _ => none
theorem is211 : IsFn Tryz.prog 211 Tryz.f211 := ⟨by kernel_rfl, by kernel_rfl, by kernel_rfl, by kernel_rfl⟩
theorem h211 : Hold1 211 s211 := by
  intro args h r e
  unfold s211 at e
  split at e
  · split at e
    · rename_i hg
      exact hold_text (C := callL [(170, s170)]) is211 (.cons h170 Holds.nil) hg rfl ((t211_eq _ _ _).trans e)
    · cases e
  · cases e
def s225 (args : List Value) (h : Heap) : Out :=
  match args with
  | [x0, x1] => if Nat.ble 3 h.n0 = true then t225 (callL []) x0 x1 h else none
  | _ => none
theorem is225 : IsFn Tryz.prog 225 Tryz.f225 := ⟨by kernel_rfl, by kernel_rfl, by kernel_rfl, by kernel_rfl⟩
theorem h225 : Hold1 225 s225 := by
  intro args h r e
  unfold s225 at e
  split at e
  · split at e
    · rename_i hg
      exact hold_text (C := callL []) is225 Holds.nil hg rfl ((t225_eq _ _ _ _).trans e)
    · cases e
  · cases e
def s226 (args : List Value) (h : Heap) : Out :=
  match args with
  | [x0, x1, x2] => if Nat.ble 3 h.n0 = true then t226 (callL [(231, s231)]) x0 x1 x2 h else none
  | _ => none
theorem is226 : IsFn Tryz.prog 226 Tryz.f226 := ⟨by kernel_rfl, by kernel_rfl, by kernel_rfl, by kernel_rfl⟩
theorem h226 : Hold1 226 s226 := by
  intro args h r e
  unfold s226 at e
  split at e
  · split at e
    · rename_i hg
      exact hold_text (C := callL [(231, s231)]) is226 (.cons h231 Holds.nil) hg rfl ((t226_eq _ _ _ _ _).trans e)
    · cases e
  · cases e
def s227 (args : List Value) (h : Heap) : Out :=
  match args with
  | [x0] => if Nat.ble 3 h.n0 = true then t227 (callL []) x0 h else none
  | _ => none
theorem is227 : IsFn Tryz.prog 227 Tryz.f227 := ⟨by kernel_rfl, by kernel_rfl, by kernel_rfl, by kernel_rfl⟩
theorem h227 : Hold1 227 s227 := by
  intro args h r e
  unfold s227 at e
  split at e
  · split at e
    · rename_i hg
      exact hold_text (C := callL []) is227 Holds.nil hg rfl ((t227_eq _ _ _).trans e)
    · cases e
  · cases e
def s230 (args : List Value) (h : Heap) : Out :=
  match args with
  | [x0] => if Nat.ble 3 h.n0 = true then t230 (callL []) x0 h else none
  | _ => none
theorem is230 : IsFn Tryz.prog 230 Tryz.f230 := ⟨by kernel_rfl, by kernel_rfl, by kernel_rfl, by kernel_rfl⟩
theorem h230 : Hold1 230 s230 := by
  intro args h r e
  unfold s230 at e
  split at e
  · split at e
    · rename_i hg
      exact hold_text (C := callL []) is230 Holds.nil hg rfl ((t230_eq _ _ _).trans e)
    · cases e
  · cases e
def s247 (args : List Value) (h : Heap) : Out :=
  match args with
  | [x0, x1] => if Nat.ble 3 h.n0 = true then t247 (callL [(231, s231)]) x0 x1 h else none
  | _ => none
theorem is247 : IsFn Tryz.prog 247 Tryz.f247 := ⟨by kernel_rfl, by kernel_rfl, by kernel_rfl, by kernel_rfl⟩
theorem h247 : Hold1 247 s247 := by
  intro args h r e
  unfold s247 at e
  split at e
  · split at e
    · rename_i hg
      exact hold_text (C := callL [(231, s231)]) is247 (.cons h231 Holds.nil) hg rfl ((t247_eq _ _ _ _).trans e)
    · cases e
  · cases e
def s68 (args : List Value) (h : Heap) : Out :=
  match args with
  | [x0] => if Nat.ble 3 h.n0 = true then t68 (callL [(103, s103)]) x0 h else none
  | _ => none
theorem is68 : IsFn Tryz.prog 68 Tryz.f68 := ⟨by kernel_rfl, by kernel_rfl, by kernel_rfl, by kernel_rfl⟩
theorem h68 : Hold1 68 s68 := by
  intro args h r e
  unfold s68 at e
  split at e
  · split at e
    · rename_i hg
      exact hold_text (C := callL [(103, s103)]) is68 (.cons h103 Holds.nil) hg rfl ((t68_eq _ _ _).trans e)
    · cases e
  · cases e
def s72 (args : List Value) (h : Heap) : Out :=
  match args with
  | [x0] => if Nat.ble 3 h.n0 = true then t72 (callL [(107, s107), (132, s132)]) x0 h else none
  | _ => none
theorem is72 : IsFn Tryz.prog 72 Tryz.f72 := ⟨by kernel_rfl, by kernel_rfl, by kernel_rfl, by kernel_rfl⟩
theorem h72 : Hold1 72 s72 := by
  intro args h r e
  unfold s72 at e
  split at e
  · split at e
    · rename_i hg
      exact hold_text (C := callL [(107, s107), (132, s132)]) is72 (.cons h107 (.cons h132 Holds.nil)) hg rfl ((t72_eq _ _ _).trans e)
    · cases e
  · cases e
def s79 (args : List Value) (h : Heap) : Out :=
  match args with
  | [x0] => if Nat.ble 3 h.n0 = true then t79 (callL [(107, s107), (132, s132)]) x0 h else none
  | _ => none
theorem is79 : IsFn Tryz.prog 79 Tryz.f79 := ⟨by kernel_rfl, by kernel_rfl, by kernel_rfl, by kernel_rfl⟩
theorem h79 : Hold1 79 s79 := by
  intro args h r e
  unfold s79 at e
  split at e
  · split at e
    · rename_i hg
      exact hold_text (C := callL [(107, s107), (132, s132)]) is79 (.cons h107 (.cons h132 Holds.nil)) hg rfl ((t79_eq _ _ _).trans e)
    · cases e
  · cases e
def s115 (args : List Value) (h : Heap) : Out :=
  match args with
  | [x0] => if Nat.ble 3 h.n0 = true then t115 (callL [(107, s107), (132, s132)]) x0 h else none
  | _ => none
theorem is115 : IsFn Tryz.prog 115 Tryz.f115 := ⟨by kernel_rfl, by kernel_rfl, by kernel_rfl, by kernel_rfl⟩
theorem h115 : Hold1 115 s115 := by
  intro args h r e
  unfold s115 at e
  split at e
  · split at e
    · rename_i hg
      exact hold_text (C := callL [(107, s107), (132, s132)]) is115 (.cons h107 (.cons h132 Holds.nil)) hg rfl ((t115_eq _ _ _).trans e)
    · cases e
  · cases e
def s119 (args : List Value) (h : Heap) : Out :=
  match args with
  | [x0, x1] => if Nat.ble 3 h.n0 = true then t119 (callL [(181, s181)]) x0 x1 h else none
  | _ => none
theorem is119 : IsFn Tryz.prog 119 Tryz.f119 := ⟨by kernel_rfl, by kernel_rfl, by kernel_rfl, by kernel_rfl⟩
theorem h119 : Hold1 119 s119 := by
  intro args h r e
  unfold s119 at e
  split at e
  · split at e
    · rename_i hg
      exact hold_text (C := callL [(181, s181)]) is119 (.cons h181 Holds.nil) hg rfl ((t119_eq _ _ _ _).trans e)
    · cases e
  · cases e
def s120 (args : List Value) (h : Heap) : Out :=
  match args with
  | [x0, x1] => if Nat.ble 3 h.n0 = true then t120 (callL [(181, s181)]) x0 x1 h else none
  | _ => none
theorem is120 : IsFn Tryz.prog 120 Tryz.f120 := ⟨by kernel_rfl, by kernel_rfl, by kernel_rfl, by kernel_rfl⟩
theorem h120 : Hold1 120 s120 := by
  intro args h r e
  unfold s120 at e
  split at e
  · split at e
    · rename_i hg
      exact hold_text (C := callL [(181, s181)]) is120 (.cons h181 Holds.nil) hg rfl ((t120_eq _ _ _ _).trans e)
    · cases e
  · cases e
def s166 (args : List Value) (h : Heap) : Out :=
  match args with
  | [x0, x1] => if Nat.ble 3 h.n0 = true then t166 (callL [(110, s110), (167, s167), (208, s208q)]) x0 x1 h else none
  | _ => none
theorem is166 : IsFn Tryz.prog 166 Tryz.f166 := ⟨by kernel_rfl, by kernel_rfl, by kernel_rfl, by kernel_rfl⟩
theorem h166 : Hold1 166 s166 := by
  intro args h r e
  unfold s166 at e
  split at e
  · split at e
    · rename_i hg
      exact hold_text (C := callL [(110, s110), (167, s167), (208, s208q)]) is166 (.cons h110 (.cons h167 (.cons h208q Holds.nil))) hg rfl ((t166_eq _ _ _ _).trans e)
    · cases e
  · cases e
def s60 (args : List Value) (h : Heap) : Out :=
  match args with
  | [x0] => if Nat.ble 3 h.n0 = true then t60 (callL [(115, s115)]) x0 h else none
  | _ => none
theorem is60 : IsFn Tryz.prog 60 Tryz.f60 := ⟨by kernel_rfl, by kernel_rfl, by kernel_rfl, by kernel_rfl⟩
theorem h60 : Hold1 60 s60 := by
  intro args h r e
  unfold s60 at e
  split at e
  · split at e
    · rename_i hg
      exact hold_text (C := callL [(115, s115)]) is60 (.cons h115 Holds.nil) hg rfl ((t60_eq _ _ _).trans e)
    · cases e
  · cases e
def s106 (args : List Value) (h : Heap) : Out :=
  match args with
  | [x0, x1] => if Nat.ble 3 h.n0 = true then t106 (callL [(111, s111), (112, s112), (166, s166), (167, s167)]) x0 x1 h else none
  | _ => none
theorem is106 : IsFn Tryz.prog 106 Tryz.f106 := ⟨by kernel_rfl, by kernel_rfl, by kernel_rfl, by kernel_rfl⟩
theorem h106 : Hold1 106 s106 := by
  intro args h r e
  unfold s106 at e
  split at e
  · split at e
    · rename_i hg
      exact hold_text (C := callL [(111, s111), (112, s112), (166, s166), (167, s167)]) is106 (.cons h111 (.cons h112 (.cons h166 (.cons h167 Holds.nil)))) hg rfl ((t106_eq _ _ _ _).trans e)
    · cases e
  · cases e
def s108 (args : List Value) (h : Heap) : Out :=
  match args with
  | [x0, x1, x2] => if Nat.ble 3 h.n0 = true then t108 (callL [(107, s107), (112, s112), (166, s166), (167, s167), (168, s168), (169, s169), (170, s170)]) x0 x1 x2 h else none
  | _ => none
theorem is108 : IsFn Tryz.prog 108 Tryz.f108 := ⟨by kernel_rfl, by kernel_rfl, by kernel_rfl, by kernel_rfl⟩
theorem h108 : Hold1 108 s108 := by
  intro args h r e
  unfold s108 at e
  split at e
  · split at e
    · rename_i hg
      exact hold_text (C := callL [(107, s107), (112, s112), (166, s166), (167, s167), (168, s168), (169, s169), (170, s170)]) is108 (.cons h107 (.cons h112 (.cons h166 (.cons h167 (.cons h168 (.cons h169 (.cons h170 Holds.nil))))))) hg rfl ((t108_eq _ _ _ _ _).trans e)
    · cases e
  · cases e
def s23 (args : List Value) (h : Heap) : Out :=
  match args with
  | [x0, x1] => if Nat.ble 3 h.n0 = true then t23 (callL [(60, s60)]) x0 x1 h else none
  | _ => none
theorem is23 : IsFn Tryz.prog 23 Tryz.f23 := ⟨by kernel_rfl, by kernel_rfl, by kernel_rfl, by kernel_rfl⟩
theorem h23 : Hold1 23 s23 := by
  intro args h r e
  unfold s23 at e
  split at e
  · split at e
    · rename_i hg
      exact hold_text (C := callL [(60, s60)]) is23 (.cons h60 Holds.nil) hg rfl ((t23_eq _ _ _ _).trans e)
    · cases e
  · cases e
def s27 (args : List Value) (h : Heap) : Out :=
  match args with
  | [x0] => if Nat.ble 3 h.n0 = true then t27 (callL [(60, s60)]) x0 h else none
  | _ => none
theorem is27 : IsFn Tryz.prog 27 Tryz.f27 := ⟨by kernel_rfl, by kernel_rfl, by kernel_rfl, by kernel_rfl⟩
theorem h27 : Hold1 27 s27 := by
  intro args h r e
  unfold s27 at e
  split at e
  · split at e
    · rename_i hg
      exact hold_text (C := callL [(60, s60)]) is27 (.cons h60 Holds.nil) hg rfl ((t27_eq _ _ _).trans e)
    · cases e
  · cases e
def s32 (args : List Value) (h : Heap) : Out :=
  match args with
  | [x0, x1] => if Nat.ble 3 h.n0 = true then t32 (callL [(60, s60), (72, s72), (73, s73)]) x0 x1 h else none
  | _ => none
theorem is32 : IsFn Tryz.prog 32 Tryz.f32 := ⟨by kernel_rfl, by kernel_rfl, by kernel_rfl, by kernel_rfl⟩
theorem h32 : Hold1 32 s32 := by
  intro args h r e
  unfold s32 at e
  split at e
  · split at e
    · rename_i hg
      exact hold_text (C := callL [(60, s60), (72, s72), (73, s73)]) is32 (.cons h60 (.cons h72 (.cons h73 Holds.nil))) hg rfl ((t32_eq _ _ _ _).trans e)
    · cases e
  · cases e
def s38 (args : List Value) (h : Heap) : Out :=
  match args with
  | [x0] => if Nat.ble 3 h.n0 = true then t38 (callL [(60, s60), (79, s79)]) x0 h else none
  | _ => none
theorem is38 : IsFn Tryz.prog 38 Tryz.f38 := ⟨by kernel_rfl, by kernel_rfl, by kernel_rfl, by kernel_rfl⟩
theorem h38 : Hold1 38 s38 := by
  intro args h r e
  unfold s38 at e
  split at e
  · split at e
    · rename_i hg
      exact hold_text (C := callL [(60, s60), (79, s79)]) is38 (.cons h60 (.cons h79 Holds.nil)) hg rfl ((t38_eq _ _ _).trans e)
    · cases e
  · cases e
def s41 (args : List Value) (h : Heap) : Out :=
  match args with
  | [x0, x1] => if Nat.ble 3 h.n0 = true then t41 (callL [(60, s60)]) x0 x1 h else none
  | _ => none
theorem is41 : IsFn Tryz.prog 41 Tryz.f41 := ⟨by kernel_rfl, by kernel_rfl, by kernel_rfl, by kernel_rfl⟩
theorem h41 : Hold1 41 s41 := by
  intro args h r e
  unfold s41 at e
  split at e
  · split at e
    · rename_i hg
      exact hold_text (C := callL [(60, s60)]) is41 (.cons h60 Holds.nil) hg rfl ((t41_eq _ _ _ _).trans e)
    · cases e
  · cases e
end
end Go.Proofs.YtdhpgacmgebjdaaGreatDoor

namespace Go.Proofs.YtdhpgacmgebjdaaGreatDoor
open Go Go.Abs
noncomputable section
def DI : Nat → Option (List Value) := fun b => match b with
  | 1 => some roundsL
  | _ => none
noncomputable def okF (f : FuncId) : Bool := match Tryz.prog.funcs[f]? with | some fn => fnOk Tryz.prog fn | none => false
theorem okF_sound : ∀ f fn, okF f = true → Tryz.prog.funcs[f]? = some fn → fnOk Tryz.prog fn = true := by
  intro f fn h1 h2
  unfold okF at h1
  rw [h2] at h1
  exact h1
def XT : SumT := (.node 129 (.node 103 (.node 63 (.node 32 (.node 23 (.leaf 13 s13) (.node 27 (.leaf 23 s23) (.leaf 27 s27))) (.node 41 (.node 38 (.leaf 32 s32) (.leaf 38 s38)) (.node 60 (.leaf 41 s41) (.leaf 60 s60)))) (.node 72 (.node 68 (.leaf 63 s63) (.node 69 (.leaf 68 s68) (.leaf 69 s69))) (.node 79 (.node 73 (.leaf 72 s72) (.leaf 73 s73)) (.node 83 (.leaf 79 s79) (.leaf 83 s83))))) (.node 112 (.node 107 (.node 105 (.leaf 103 s103) (.node 106 (.leaf 105 s105) (.leaf 106 s106))) (.node 110 (.node 108 (.leaf 107 s107) (.leaf 108 s108)) (.node 111 (.leaf 110 s110) (.leaf 111 s111)))) (.node 119 (.node 115 (.leaf 112 s112) (.node 116 (.leaf 115 s115) (.leaf 116 s116))) (.node 121 (.node 120 (.leaf 119 s119) (.leaf 120 s120)) (.node 126 (.leaf 121 s121) (.leaf 126 s126)))))) (.node 179 (.node 168 (.node 162 (.node 132 (.leaf 129 s129) (.node 136 (.leaf 132 s132) (.leaf 136 cmpS))) (.node 166 (.node 164 (.leaf 162 s162) (.leaf 164 s164)) (.node 167 (.leaf 166 s166) (.leaf 167 s167)))) (.node 171 (.node 169 (.leaf 168 s168) (.node 170 (.leaf 169 s169) (.leaf 170 s170))) (.node 174 (.node 172 (.leaf 171 s171q) (.leaf 172 s172)) (.node 175 (.leaf 174 s174) (.leaf 175 s175))))) (.node 211 (.node 207 (.node 181 (.leaf 179 s179) (.node 187 (.leaf 181 s181) (.leaf 187 s187))) (.node 209 (.node 208 (.leaf 207 s207) (.leaf 208 s208q)) (.node 210 (.leaf 209 s209) (.leaf 210 s210)))) (.node 227 (.node 225 (.leaf 211 s211) (.node 226 (.leaf 225 s225) (.leaf 226 s226))) (.node 231 (.node 230 (.leaf 227 s227) (.leaf 230 s230)) (.node 247 (.leaf 231 s231) (.leaf 247 s247)))))))
theorem XT_ok : XT.Ok Tryz.prog := ⟨⟨⟨⟨⟨(h13.contract is13), ⟨(h23.contract is23), (h27.contract is27)⟩⟩, ⟨⟨(h32.contract is32), (h38.contract is38)⟩, ⟨(h41.contract is41), (h60.contract is60)⟩⟩⟩, ⟨⟨(h63.contract is63), ⟨(h68.contract is68), (h69.contract is69)⟩⟩, ⟨⟨(h72.contract is72), (h73.contract is73)⟩, ⟨(h79.contract is79), (h83.contract is83)⟩⟩⟩⟩, ⟨⟨⟨(h103.contract is103), ⟨(h105.contract is105), (h106.contract is106)⟩⟩, ⟨⟨(h107.contract is107), (h108.contract is108)⟩, ⟨(h110.contract is110), (h111.contract is111)⟩⟩⟩, ⟨⟨(h112.contract is112), ⟨(h115.contract is115), (h116.contract is116)⟩⟩, ⟨⟨(h119.contract is119), (h120.contract is120)⟩, ⟨(h121.contract is121), (h126.contract is126)⟩⟩⟩⟩⟩, ⟨⟨⟨⟨(h129.contract is129), ⟨(h132.contract is132), (c136)⟩⟩, ⟨⟨(h162.contract is162), (h164.contract is164)⟩, ⟨(h166.contract is166), (h167.contract is167)⟩⟩⟩, ⟨⟨(h168.contract is168), ⟨(h169.contract is169), (h170.contract is170)⟩⟩, ⟨⟨(h171q.contract is171), (h172.contract is172)⟩, ⟨(h174.contract is174), (h175.contract is175)⟩⟩⟩⟩, ⟨⟨⟨(h179.contract is179), ⟨(h181.contract is181), (c187)⟩⟩, ⟨⟨(h207.contract is207), (h208q.contract is208)⟩, ⟨(h209.contract is209), (h210.contract is210)⟩⟩⟩, ⟨⟨(h211.contract is211), ⟨(h225.contract is225), (h226.contract is226)⟩⟩, ⟨⟨(h227.contract is227), (h230.contract is230)⟩, ⟨(c231), (h247.contract is247)⟩⟩⟩⟩⟩⟩
abbrev X0 : CallF := XT.run
theorem X0_sound : CSound Tryz.prog X0 := XT.sound XT_ok
def isTrueV : Value → Bool
  | .bool true => true
  | _ => false
def smF (f : FuncId) : Bool := XT.has f
noncomputable def runQ (f : FuncId) (k : Value → Heap → Bool) : Bool := callQ Tryz.prog okF X0 smF 100000 60 f [] (bareG Tryz.prog DI) k
end
end Go.Proofs.YtdhpgacmgebjdaaGreatDoor

