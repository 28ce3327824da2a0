/-
  The swarm: the digest's table as it is laid; numbers as arguments.
  Conditions: the argument can be read as data.
-/
import Derived.Test.YtdmnphocgfnlpaaGreatDoorG16
import Derived.ProofKit
import Derived.OpenShut
namespace Go.Proofs.YtdmnphocgfnlpaaGreatDoor
open Go Go.Abs
open Go.ChangeShapes Go.WideShapes Go.ChangeAt Go.RowKit
theorem clean_nice {n : Nat} {v : Value} (h : nice n v = true) : clean n v = v := by unfold clean; rw [if_pos h]
theorem rel_int (μ : Mu) (n : Int) : VRel μ (.int .i64 n) (.int .i64 n) := .flat rfl
def litOf {H : Type} : Value → DataW H
  | .int k n => .lit (.int k n)
  | _ => .agg []
theorem litOf_inj {H : Type} {v : Value} {k : IntKind} {n : Int} (h : (litOf v : DataW H) = .lit (.int k n)) : v = .int k n := by
  cases v with
  | int k' n' =>
    have h : (DataW.lit (Lit.int k' n') : DataW H) = .lit (.int k n) := h
    have q := Lit.int.inj (DataW.lit.inj h)
    rw [q.1, q.2]
  | _ => cases h
theorem len_rounds : roundsL.length = 64 := by kernel_rfl
theorem rounds_ints : (roundsL.all fun v => match v with | .int _ _ => true | _ => false) = true := by kernel_rfl
theorem nice_rounds (n : Nat) : ∀ v ∈ roundsL, clean n v = v := by
  intro v hv
  have h := rounds_ints
  rw [List.all_eq_true] at h
  have h := h v hv
  cases v with
  | int k m => exact clean_nice rfl
  | _ => cases h
theorem rounds_clean (n : Nat) : roundsL.map (clean n) = roundsL := by
  rw [List.map_congr_left (nice_rounds n), List.map_id']
/-- What a table of 64 words that reads as the digest's words holds. -/
theorem rounds_cells {W : World} {fuel : Nat} {cs : List Value} {p : List MemPlace} {d : DataW Unit} (hd : d = .agg (roundsL.map litOf)) (h : DataW.trod (fun _ => ()) Tryz.prog W 0 (fun _ => true) false fuel 543 cs = some (d, p)) : cs = roundsL := by
  subst hd
  obtain ⟨xs, m, rfl, hx, hl, hxl, hf⟩ := DataW.trod_array Tryz.underlying543 h
  have h543 : Tryz.prog.cellsOf 543 = 64 := by kernel_rfl
  have h77 : Tryz.prog.cellsOf 77 = 1 := by kernel_rfl
  rw [h543] at hl
  have hx := congrArg Prod.fst hx
  have hx : (DataW.agg (roundsL.map litOf) : DataW Unit) = .agg (xs.map (·.1)) := hx
  have hx := DataW.agg.inj hx
  refine List.ext_getElem? fun j => ?_
  by_cases hj : j < 64
  · have e := hf j hj
    rw [List.getElem?_eq_getElem (by omega), h77, Nat.mul_one] at e
    obtain ⟨n, e1, e2, _⟩ := DataW.trod_int Tryz.underlying77 e
    have q : (roundsL.map (litOf (H := Unit)))[j]? = (xs.map (·.1))[j]? := by rw [hx]
    rw [List.getElem?_map, List.getElem?_map, List.getElem?_eq_getElem (by rw [len_rounds]; exact hj), List.getElem?_eq_getElem (by omega), e2] at q
    have q := litOf_inj (Option.some.inj q)
    have e3 : ((cs.drop j).take 1)[0]? = some (.int .u32 n) := by rw [e1]; rfl
    rw [List.getElem?_take, if_pos (by decide), List.getElem?_drop, Nat.add_zero] at e3
    rw [e3, List.getElem?_eq_getElem (by rw [len_rounds]; exact hj), q]
  · rw [List.getElem?_eq_none (by omega), List.getElem?_eq_none (by rw [len_rounds]; omega)]
end Go.Proofs.YtdmnphocgfnlpaaGreatDoor

