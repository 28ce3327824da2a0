/-
  The swarm: the calls' evaluator.
  Conditions: as each theorem states.
  The swarm: the bound of fair rounds.
  Conditions: as each theorem states.
-/
import Derived.Test.YtdmnphocgfnlpaaGreatDoorG15
namespace Go.Proofs.YtdmnphocgfnlpaaGreatDoor
open Go Go.Abs
noncomputable section
theorem prog_mixed : Tryz.prog.follows .mixedOrders = true := by kernel_rfl
theorem okF_sound : ∀ f fn, okF f = true → Tryz.prog.funcs[f]? = some fn → fnOk Tryz.prog fn = true := by
  intro f fn h1 h2
  unfold okF at h1
  rw [h2] at h1
  exact h1
theorem known_lt : 8 < Tryz.prog.funcs.size := Nat.le_of_ble_eq_true (by kernel_rfl)
theorem known_WB : WB (callQ Tryz.prog okF X0 smF 100000 60) 8 [] (bareG Tryz.prog DI) fun v _ => v = .bool true := by
  refine ⟨fun v _ => isTrueV v, known_runs, fun v h e => ?_⟩
  have e : isTrueV v = true := e
  unfold isTrueV at e
  split at e
  · rfl
  · cases e
def s8 (args : List Value) (h : Heap) : Out := by
  classical exact if args = [] ∧ h.get 1 = some roundsL then some (.bool true, h) else none
theorem s8_eq {h : Heap} (g : h.get 1 = some roundsL) : s8 [] h = some (.bool true, h) := by
  unfold s8
  rw [if_pos ⟨rfl, g⟩]
theorem c8 : Contract Tryz.prog 8 s8 := by
  refine Contract.closedQ (callQ_sound (sm := smF) X0_sound (by unfold rounds; omega) prog_mixed okF_sound 60) known_lt (v := .bool true) rfl DI ?_ known_WB s8 ?_
  · intro b cs e
    unfold DI at e
    split at e
    · cases e; kernel_rfl
    · cases e
  · intro args h r e
    unfold s8 at e
    split at e
    · rename_i hh
      cases e
      refine ⟨hh.1, rfl, fun b cs _ hd => ?_⟩
      unfold DI at hd
      split at hd
      · cases hd; exact hh.2
      · cases hd
    · cases e
abbrev XL : List (FuncId × (List Value → Heap → Out)) := [(8, s8)]
abbrev XX : CallF := callL XL
theorem XX_sound : CSound Tryz.prog XX := callL_sound _ (by
  intro p hp
  simp only [List.mem_cons, List.not_mem_nil, or_false] at hp
  subst hp
  exact c8)
/-- Calls of the seat's functions: what is known of some, and the bodies of all others. -/
def CW : CallF := CC Tryz.prog XX
theorem CW_body {f : FuncId} {fn : Func} (i : IsFn Tryz.prog f fn) {args : List Value} {h : Heap} {r : Value × Heap} (hg : 2 ≤ h.n0) (hX : XX f args h = none) (e : bodyK Tryz.prog CW fn args h = some r) : CW f args h = some r :=
  CC_body i (by rw [globals2]; exact hg) hX e
theorem r8 {h : Heap} (g : h.get 1 = some roundsL) : CW 8 [] h = some (.bool true, h) := CC_known (show XX 8 [] h = some (.bool true, h) from s8_eq g)
end
end Go.Proofs.YtdmnphocgfnlpaaGreatDoor

namespace Go.Proofs.YtdmnphocgfnlpaaGreatDoor
open Go Go.Abs
noncomputable section
def clampI (a : Int) : Int := if a < 0 then 0 else if a > 65535 then 65535 else a
theorem is54 : IsFn Tryz.prog 54 Tryz.f54 := ⟨by kernel_rfl, by kernel_rfl, by kernel_rfl, by kernel_rfl⟩
theorem is17 : IsFn Tryz.prog 17 Tryz.f17 := ⟨by kernel_rfl, by kernel_rfl, by kernel_rfl, by kernel_rfl⟩
theorem is18 : IsFn Tryz.prog 18 Tryz.f18 := ⟨by kernel_rfl, by kernel_rfl, by kernel_rfl, by kernel_rfl⟩
theorem is6 : IsFn Tryz.prog 6 Tryz.f6 := ⟨by kernel_rfl, by kernel_rfl, by kernel_rfl, by kernel_rfl⟩
section
variable {h : Heap} (hG : 2 ≤ h.n0)
include hG
theorem r53 (a : Int) : CW 53 [.int .i64 a] h = some (.int .i64 (clampI a), h) := by
  refine CW_body is53 hG rfl ((t53_eq _ _ _).trans ?_)
  have e1 : minmax true (.int .i64 a) [.int .i64 0] = some (.int .i64 (if 0 > a then 0 else a)) := by
    unfold minmax minmax
    simp only [if_true]
  have e2 : minmax false (.int .i64 (if 0 > a then 0 else a)) [.int .i64 65535] = some (.int .i64 (clampI a)) := by
    unfold minmax minmax clampI
    simp only [if_true, Bool.false_eq_true, if_false]
    refine congrArg (fun z => some (Value.int .i64 z)) ?_
    by_cases h1 : a < 0
    · have h1' : (0 : Int) > a := h1
      simp only [if_pos h1, if_pos h1']
      rfl
    · rw [if_neg h1, if_neg h1]
  unfold t53
  simp -implicitDefEqProofs only [thenV_some, e1, e2, pu_some]
theorem r54 (a : Int) : CW 54 [.int .i64 a] h = some (.int .i64 (clampI a), h) := by
  refine CW_body is54 hG rfl ((t54_eq _ _ _).trans ?_)
  unfold t54 clampI
  simp -implicitDefEqProofs only [thenV_some, bin_lss, bin_gtr, pu_some]
  by_cases h1 : a < 0
  · simp -implicitDefEqProofs only [decide_eq_true h1, thenV_some, if_pos h1]
  · simp -implicitDefEqProofs only [decide_eq_false h1, if_neg h1, thenV_some]
    by_cases h2 : a > 65535
    · simp -implicitDefEqProofs only [decide_eq_true h2, thenV_some, if_pos h2]
    · simp -implicitDefEqProofs only [decide_eq_false h2, if_neg h2, thenV_some]
def boundI (a b c : Int) : Int := IntKind.wrap .i64 (IntKind.wrap .i64 (IntKind.wrap .i64 (120 + IntKind.wrap .i64 (16 * clampI a)) + IntKind.wrap .i64 (IntKind.wrap .i64 (8 * clampI b) * IntKind.wrap .i64 (clampI a + 1))) + IntKind.wrap .i64 (36 * clampI c))
omit hG in
theorem lt53 : Nat.blt 53 Tryz.prog.funcs.size = true := by kernel_rfl
theorem callA53 (a : Int) : callA Tryz.prog CW (.func (.func 53) #[] #[]) [.int .i64 a] h = some (.int .i64 (clampI a), h) := by
  show (if 53 < Tryz.prog.funcs.size then CW 53 [.int .i64 a] h else none) = _
  rw [if_pos (by simpa using lt53)]
  exact r53 hG a
theorem r17 (a b c : Int) : CW 17 [.int .i64 a, .int .i64 b, .int .i64 c] h = some (.int .i64 (boundI a b c), h) := by
  refine CW_body is17 hG rfl ((t17_eq _ _ _ _ _).trans ?_)
  unfold t17 boundI
  simp -implicitDefEqProofs only [thenV_some, callA53 hG, bin_mul, bin_add, pu_some]
theorem r18 (a b c : Int) : CW 18 [.int .i64 a, .int .i64 b, .int .i64 c] h = some (.int .i64 (boundI a b c), h) := by
  refine CW_body is18 hG rfl ((t18_eq _ _ _ _ _).trans ?_)
  unfold t18 boundI
  simp -implicitDefEqProofs only [thenV_some, r54 hG, bin_mul, bin_add, pu_some]
theorem r6 (hz : h.get 1 = some roundsL) {a b c : Int} : ∃ h', CW 6 [.int .i64 a, .int .i64 b, .int .i64 c] h = some (.bool true, h') := by
  refine ⟨h, ?_⟩
  refine CW_body is6 hG rfl ((t6_eq _ _ _ _ _).trans ?_)
  unfold t6
  simp -implicitDefEqProofs only [thenV_some, r17 hG, r18 hG, bin_eql, BEq.rfl, pu_some, bOf_bool, beq_self_eq_true, guardK_true, r8 hz, if_true]
end
end
end Go.Proofs.YtdmnphocgfnlpaaGreatDoor

