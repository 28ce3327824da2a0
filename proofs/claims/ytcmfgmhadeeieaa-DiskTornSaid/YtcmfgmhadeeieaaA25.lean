/-
  The abstract machine: environments as functions with few entries written anew: how loops' rounds and what comes behind them are told.
  Conditions: none (lemmas).
-/
import Derived.Test.YtcmfgmhadeeieaaA24
namespace Go.Abs

noncomputable def lkF (x : Nat → Value) (l : AL) (t : Nat) : Value :=
  List.rec (motive := fun _ => Value) (x t) (fun p _ ih => Bool.rec (motive := fun _ => Value) ih p.2 (Nat.beq p.1 t)) l
noncomputable def mkE (n : Nat) (x : Nat → Value) (l : AL) : Env := (List.range n).map (lkF x l)
def bs (l : List Value) : Nat → Value := fun i => l.getD i undef

@[simp] theorem lkF_nil (x : Nat → Value) (t : Nat) : lkF x [] t = x t := rfl
theorem lkF_cons (x : Nat → Value) (p : Nat × Value) (l : AL) (t : Nat) : lkF x (p :: l) t = if p.1 = t then p.2 else lkF x l t := by
  show Bool.rec (motive := fun _ => Value) (lkF x l t) p.2 (Nat.beq p.1 t) = _
  cases hb : Nat.beq p.1 t with
  | true => rw [if_pos (Nat.eq_of_beq_eq_true hb)]
  | false => rw [if_neg (Nat.ne_of_beq_eq_false hb)]
@[simp] theorem mkE_length (n : Nat) (x : Nat → Value) (l : AL) : (mkE n x l).length = n := by simp [mkE]
theorem mkE_getD (n : Nat) (x : Nat → Value) (l : AL) (t : Nat) (h : t < n) : (mkE n x l).getD t undef = lkF x l t := by
  unfold mkE
  rw [List.getD_eq_getElem?_getD, List.getElem?_map, List.getElem?_range h]; rfl
theorem mkE_of (e : Env) {n : Nat} (h : e.length = n) : e = mkE n (fun i => e.getD i undef) [] := by
  apply List.ext_getElem?
  intro i
  unfold mkE
  rw [List.getElem?_map]
  by_cases hi : i < n
  · rw [List.getElem?_range hi, List.getElem?_eq_getElem (by omega)]
    simp [List.getElem?_eq_getElem (show i < e.length by omega)]
  · rw [List.getElem?_eq_none (by omega), List.getElem?_eq_none (by simpa using hi)]; rfl

theorem link_round {P : Program} {C : CallF} {n : Nat} {b : Code} {T : (Nat → Value) → Heap → Option (Ex × Env × Heap)} (hT : ∀ x h, roundB P C n b (mkE n x []) h = T x h) (e : Env) (h : Heap) (he : e.length = n) :
    codeA P C b e h = T (fun i => e.getD i undef) h := by
  rw [← roundK_eq, roundB_eq P C n b e h (by rw [he]; exact Nat.beq_refl n), ← hT, ← mkE_of e he]
theorem link_part {α : Type} {P : Program} {C : CallF} {n : Nat} {b : Code} {kE rE : Env → Heap → Option α} {xE : Nat → Env → Heap → Option α} {T : (Nat → Value) → Heap → Option α}
    (hT : ∀ x h, startB P C n (mkE n x []) b h kE rE xE = T x h) (e : Env) (h : Heap) (he : e.length = n) :
    codeK P C b e h kE rE xE = T (fun i => e.getD i undef) h := by
  rw [startB_eq P C n e (by rw [he]; exact Nat.beq_refl n), ← hT, ← mkE_of e he]

end Go.Abs
