/-
  The wire's known run, and the names of all kinds, by the kernel.
  Conditions: as each theorem states.
-/
import Derived.Test.YtjghlcdidopcpaaGreatDoorG4
import Derived.Test.YtjghlcdidopcpaaGreatDoorProg
import Derived.KernelRfl
namespace Go.Proofs.YtjghlcdidopcpaaGreatDoor
open Go Go.Abs

theorem mixed : Tryz.prog.follows .mixedOrders = true := by kernel_rfl
noncomputable def okF (f : FuncId) : Bool := match Tryz.prog.funcs[f]? with | some fn => fnOk Tryz.prog fn | none => false
theorem okF_ok : ∀ f fn, okF f = true → Tryz.prog.funcs[f]? = some fn → fnOk Tryz.prog fn = true := by
  intro f fn h1 h2
  unfold okF at h1
  rw [h2] at h1; exact h1
noncomputable def isTrue (o : Out) : Bool := match o with | some (.bool true, _) => true | _ => false
theorem isTrue_eq {o : Out} (h : isTrue o = true) : ∃ h1, o = some (.bool true, h1) := by
  unfold isTrue at h
  split at h
  · exact ⟨_, rfl⟩
  · cases h
noncomputable def run0 : CallF := callF Tryz.prog okF (callL []) (fun _ => false) 100000 40
theorem run0_sound : CSound Tryz.prog run0 := callF_sound (callL_sound [] (by simp)) (by decide) mixed okF_ok 40
theorem known_runs : isTrue (run0 12 [] (bare Tryz.prog)) = true := by kernel_rfl
def s12 : List Value → Heap → Out := fun args h => match args with | [] => some (.bool true, h) | _ => none
theorem c12 : Contract Tryz.prog 12 s12 := Contract.closed run0_sound rfl (isTrue_eq known_runs)
noncomputable def run1 : CallF := callF Tryz.prog okF (callL [(12, s12)]) (fun f => Nat.beq f 12) 100000 40
theorem run1_sound : CSound Tryz.prog run1 :=
  callF_sound (callL_sound _ (by intro p hp; rcases List.mem_singleton.1 hp with rfl; exact c12)) (by decide) mixed okF_ok 40
noncomputable def allB (f : Nat → Bool) (n : Nat) : Bool := Nat.rec (motive := fun _ => Bool) true (fun k ih => match f k with | true => ih | false => false) n
theorem allB_spec (f : Nat → Bool) (n : Nat) : allB f n = true → ∀ k, k < n → f k = true := by
  induction n with
  | zero => intro _ k hk; exact absurd hk (Nat.not_lt_zero k)
  | succ n ih =>
    intro h k hk
    have h : (match f n with | true => allB f n | false => false) = true := h
    cases hr : f n with
    | false => rw [hr] at h; cases h
    | true =>
      rw [hr] at h
      by_cases e : k = n
      · subst e; exact hr
      · exact ih h k (by omega)
/-- The statement's run at kind k. -/
noncomputable def kindRun (k : Nat) : Bool := isTrue (run1 4 [.int .u8 (k : Int)] (bare Tryz.prog))
noncomputable def upto (o n : Nat) : Bool := allB (fun k => kindRun (o + k)) n
theorem upto_spec (o n : Nat) (h : upto o n = true) (k : Nat) (hk : k < n) : kindRun (o + k) = true :=
  allB_spec (fun k => kindRun (o + k)) n h k hk
theorem u0 : upto 0 32 = true := by kernel_rfl
theorem u1 : upto 32 32 = true := by kernel_rfl
theorem u2 : upto 64 32 = true := by kernel_rfl
theorem u3 : upto 96 32 = true := by kernel_rfl
theorem u4 : upto 128 32 = true := by kernel_rfl
theorem u5 : upto 160 32 = true := by kernel_rfl
theorem u6 : upto 192 32 = true := by kernel_rfl
theorem u7 : upto 224 32 = true := by kernel_rfl
theorem names_run (k : Nat) (hk : k < 256) : kindRun k = true := by
  have key : ∀ o, upto o 32 = true → o ≤ k → k < o + 32 → kindRun k = true := by
    intro o h1 h2 h3
    have := upto_spec o 32 h1 (k - o) (by omega)
    rw [show o + (k - o) = k by omega] at this
    exact this
  by_cases c0 : k < 32
  · exact key 0 u0 (by omega) (by omega)
  by_cases c1 : k < 64
  · exact key 32 u1 (by omega) (by omega)
  by_cases c2 : k < 96
  · exact key 64 u2 (by omega) (by omega)
  by_cases c3 : k < 128
  · exact key 96 u3 (by omega) (by omega)
  by_cases c4 : k < 160
  · exact key 128 u4 (by omega) (by omega)
  by_cases c5 : k < 192
  · exact key 160 u5 (by omega) (by omega)
  by_cases c6 : k < 224
  · exact key 192 u6 (by omega) (by omega)
  · exact key 224 u7 (by omega) (by omega)
def S4 : List Value → Option Value
  | [.int .u8 (.ofNat k)] => if k < 256 then some (.bool true) else none
  | _ => none
theorem c4 : Contract Tryz.prog 4 fun args h => (S4 args).map fun v => (v, h) := by
  refine Contract.closed_at run1_sound S4 ?_ ⟨[.int .u8 (.ofNat 0)], .bool true, rfl⟩
  intro args v e
  unfold S4 at e
  split at e
  · split at e
    · cases e
      exact ⟨rfl, rfl, isTrue_eq (names_run _ (by assumption))⟩
    · cases e
  · cases e
end Go.Proofs.YtjghlcdidopcpaaGreatDoor

