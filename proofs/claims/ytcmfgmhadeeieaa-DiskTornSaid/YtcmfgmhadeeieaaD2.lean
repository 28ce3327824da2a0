/-
  The numbers of blocks of a record: what both functions answer; the small disk's known run.
  Conditions: as each theorem states.
-/
import Derived.Test.YtcmfgmhadeeieaaD1
import Derived.Test.YtcmfgmhadeeieaaA29
namespace Go.Proofs.Ytcmfgmhadeeieaa
open Go Go.Abs

def inI64 (n : Int) : Bool := decide (-9223372036854775808 ≤ n) && decide (n ≤ 9223372036854775807)
def cost (n : Int) : Int := if n ≤ 106 then 1 else (n - 1) / 106 + 1
def sCost : List Value → Heap → Out
  | [.int .i64 n], h => if inI64 n then some (.int .i64 (cost n), h) else none
  | _, _ => none
theorem sCost_inv {args : List Value} {h h' : Heap} {v : Value} (e : sCost args h = some (v, h')) : ∃ n, args = [.int .i64 n] ∧ inI64 n = true ∧ v = .int .i64 (cost n) ∧ h' = h := by
  unfold sCost at e
  split at e
  · split at e
    · cases e; exact ⟨_, rfl, by assumption, rfl, rfl⟩
    · cases e
  · cases e

theorem t15_is (C : CallF) (n : Int) (h : Heap) (hn : inI64 n = true) : t15 C (.int .i64 n) h = some (.int .i64 (cost n), h) := by
  simp only [inI64, Bool.and_eq_true, decide_eq_true_eq] at hn
  unfold t15 cost
  simp -implicitDefEqProofs only [bin_leq, pu_some, thenV_some]
  by_cases h1 : n ≤ 106
  · simp -implicitDefEqProofs only [h1, decide_true, if_true, thenV_some]
  · simp -implicitDefEqProofs only [h1, decide_false, if_false, bin_sub, pu_some, thenV_some, bin_quo, bin_add, ne_eq, Int.reduceEq, not_false_eq_true, not_true]
    rw [wrap_i64 (x := n - 1) (by omega) (by omega), Int.tdiv_eq_ediv_of_nonneg (by omega), wrap_i64 (x := (n-1)/106) (by omega) (by omega), wrap_i64 (by omega) (by omega)]
theorem is15 : IsFn Try.prog 15 Try.f15 := ⟨by kernel_rfl, by kernel_rfl, by kernel_rfl, by kernel_rfl⟩
theorem c15 : Contract Try.prog 15 sCost := by
  refine .quiet (callL_sound [] (by simp)) mixed is15 ?_ ?_
  · intro args h v h' e
    obtain ⟨n, rfl, hn, rfl, rfl⟩ := sCost_inv e
    exact ⟨rfl, fun _ => rfl⟩
  · intro args h v h' e _ _
    obtain ⟨n, rfl, hn, rfl, rfl⟩ := sCost_inv e
    exact ⟨h', (t15_eq _ _ _).trans (t15_is _ _ _ hn), fun _ _ h => h⟩

theorem t16_is (C : CallF) (n : Int) (h : Heap) (hn : inI64 n = true) : t16 C (.int .i64 n) h = some (.int .i64 (cost n), h) := by
  simp only [inI64, Bool.and_eq_true, decide_eq_true_eq] at hn
  unfold t16
  simp -implicitDefEqProofs only [thenV_some]
  obtain ⟨ex, x', h', h1, rfl, rfl, h2⟩ := loop_inv (t16l16_11010_eq C)
    (Inv := fun k y h1 => h = h1 ∧ ∃ s c, y 4 = .int .i64 s ∧ y 3 = .int .i64 c ∧ s ≤ n ∧ -9223372036854775808 ≤ s ∧ 1 ≤ c ∧ c + cost s = cost n + 1 ∧ (k : Int) = cost s - 1)
    (fin := fun ex y h1 => ex = .exit 0 ∧ h1 = h ∧ y 3 = .int .i64 (cost n))
    (by
      rintro k y _ ⟨rfl, s, c, i4, i3, hs1, hs2, hc1, hc2, hk⟩
      unfold t16l16_11010
      unfold cost at *
      simp -implicitDefEqProofs only [i4, i3, thenV_some, bin_gtr, pu_some]
      by_cases hz : s > 106
      · simp -implicitDefEqProofs only [hz, decide_true, thenV_some, bin_add, bin_sub, pu_some]
        refine ⟨_, _, _, rfl, .inl ⟨rfl, k - 1, ?_, rfl, s - 106, c + 1, ?_, ?_, by omega, by omega, by omega, ?_, ?_⟩⟩
        · omega
        · simp only [up_cons, up_nil, Nat.reduceEqDiff, if_false, if_true]
          rw [wrap_i64 (by omega) (by omega)]
        · simp only [up_cons, up_nil, Nat.reduceEqDiff, if_false, if_true]
          rw [wrap_i64 (by omega) (by omega)]
        · omega
        · omega
      · simp -implicitDefEqProofs only [hz, decide_false, thenV_some]
        refine ⟨_, _, _, rfl, .inr ⟨by simp, rfl, rfl, ?_⟩⟩
        simp only [up_cons, up_nil, Nat.reduceEqDiff, if_false, i3]
        congr 1
        omega)
    (k := (cost n - 1).toNat) (x := up (bs [.int .i64 n]) [(2, .int .i64 0), (3, .int .i64 1), (4, .int .i64 n), (5, .int .i64 n)]) (h := h)
    (by have : rounds = 18446744073709551616 := rfl; unfold cost; omega)
    ⟨rfl, n, 1, rfl, rfl, by omega, by omega, by omega, by omega, by unfold cost; omega⟩
  rw [h1]
  simp -implicitDefEqProofs only [endL_exit, b16_4, if_true, t16k16_2_eq]
  unfold t16k16_2
  simp -implicitDefEqProofs only [h2, thenV_some]
theorem is16 : IsFn Try.prog 16 Try.f16 := ⟨by kernel_rfl, by kernel_rfl, by kernel_rfl, by kernel_rfl⟩
theorem c16 : Contract Try.prog 16 sCost := by
  refine .quiet (callL_sound [] (by simp)) mixed is16 ?_ ?_
  · intro args h v h' e
    obtain ⟨n, rfl, hn, rfl, rfl⟩ := sCost_inv e
    exact ⟨rfl, fun _ => rfl⟩
  · intro args h v h' e _ _
    obtain ⟨n, rfl, hn, rfl, rfl⟩ := sCost_inv e
    exact ⟨h', (t16_eq _ _ _).trans (t16_is _ _ _ hn), fun _ _ h => h⟩

/-- The known run, by the kernel. -/
noncomputable def okF (f : FuncId) : Bool := match Try.prog.funcs[f]? with | some fn => fnOk Try.prog fn | none => false
theorem okF_ok : ∀ f fn, okF f = true → Try.prog.funcs[f]? = some fn → fnOk Try.prog fn = true := by
  intro f fn h1 h2
  unfold okF at h1
  rw [h2] at h1; exact h1
noncomputable def runX : CallF := callF Try.prog okF (callL [(95, s95)]) (fun f => Nat.beq f 95) 100000 20
theorem runX_sound : CSound Try.prog runX :=
  callF_sound (callL_sound _ (by intro p hp; rcases List.mem_singleton.1 hp with rfl; exact c95)) (by decide) mixed okF_ok 20
noncomputable def isTrue (o : Out) : Bool := match o with | some (.bool true, _) => true | _ => false
theorem isTrue_eq {o : Out} (h : isTrue o = true) : ∃ h1, o = some (.bool true, h1) := by
  unfold isTrue at h
  split at h
  · exact ⟨_, rfl⟩
  · cases h
theorem known_runs : isTrue (runX 14 [] (bare Try.prog)) = true := by kernel_rfl
def s14 : List Value → Heap → Out := fun args h => match args with | [] => some (.bool true, h) | _ => none
theorem c14 : Contract Try.prog 14 s14 := Contract.closed runX_sound rfl (isTrue_eq known_runs)

def s3 : List Value → Heap → Out
  | [.int .i64 n], h => if inI64 n then some (.bool true, h) else none
  | _, _ => none
theorem s3_inv {args : List Value} {h h' : Heap} {v : Value} (e : s3 args h = some (v, h')) : ∃ n, args = [.int .i64 n] ∧ inI64 n = true ∧ v = .bool true ∧ h' = h := by
  unfold s3 at e
  split at e
  · split at e
    · cases e; exact ⟨_, rfl, by assumption, rfl, rfl⟩
    · cases e
  · cases e
abbrev C3 : CallF := callL [(14, s14), (15, sCost), (16, sCost)]
theorem t3_is (n : Int) (h : Heap) (hn : inI64 n = true) : t3 C3 (.int .i64 n) h = some (.bool true, h) := by
  have h14 : C3 14 [] h = some (.bool true, h) := rfl
  have h15 : C3 15 [.int .i64 n] h = some (.int .i64 (cost n), h) := by simp [C3, callL, sCost, hn]
  have h16 : C3 16 [.int .i64 n] h = some (.int .i64 (cost n), h) := by simp [C3, callL, sCost, hn]
  simp only [inI64, Bool.and_eq_true, decide_eq_true_eq] at hn
  unfold t3
  generalize C3 = C at *
  simp -implicitDefEqProofs only [bin_gtr, pu_some, thenV_some]
  by_cases h1 : n > 16777216
  · simp -implicitDefEqProofs only [h1, decide_true, h14, thenV_some]
  · have hc : cost n ≥ 1 := by unfold cost; omega
    simp -implicitDefEqProofs only [h1, decide_false, h15, thenV_some, bin_geq, pu_some, hc, decide_true, bOf_bool, beq_self_eq_true, guardK_true, h16, bin_eql, if_true, bin_leq]
    by_cases h2 : n ≤ 106
    · simp -implicitDefEqProofs only [h2, decide_true, thenV_some, bOf_bool, show (some true == some false) = false from rfl, guardK_false, bOf_undef, show ((none : Option Bool) == some true) = false from rfl, if_true, beq_self_eq_true, guardK_true, h14]
    · have hcv : cost n = (n - 1) / 106 + 1 := by unfold cost; rw [if_neg h2]
      have w1 : IntKind.wrap .i64 (106 * cost n) = 106 * cost n := wrap_i64 (by omega) (by omega)
      have w2 : IntKind.wrap .i64 (cost n - 1) = cost n - 1 := wrap_i64 (by omega) (by omega)
      have w3 : IntKind.wrap .i64 (106 * (cost n - 1)) = 106 * (cost n - 1) := wrap_i64 (by omega) (by omega)
      have g1 : 106 * cost n ≥ n := by omega
      have g2 : 106 * (cost n - 1) < n := by omega
      simp -implicitDefEqProofs only [h2, decide_false, thenV_some, bOf_bool, beq_self_eq_true, guardK_true, bin_mul, bin_geq, bin_sub, bin_lss, pu_some, w1, w2, w3, g1, g2, decide_true, if_true, Bool.false_eq_true, if_false, h14]
theorem is3 : IsFn Try.prog 3 Try.f3 := ⟨by kernel_rfl, by kernel_rfl, by kernel_rfl, by kernel_rfl⟩
theorem C3_sound : CSound Try.prog C3 := callL_sound _ (by
  intro p hp
  simp only [List.mem_cons, List.not_mem_nil, or_false] at hp
  rcases hp with rfl | rfl | rfl
  · exact c14
  · exact c15
  · exact c16)
theorem c3 : Contract Try.prog 3 s3 := by
  refine .quiet C3_sound mixed is3 ?_ ?_
  · intro args h v h' e
    obtain ⟨n, rfl, hn, rfl, rfl⟩ := s3_inv e
    exact ⟨rfl, fun _ => rfl⟩
  · intro args h v h' e _ _
    obtain ⟨n, rfl, hn, rfl, rfl⟩ := s3_inv e
    exact ⟨h', (t3_eq _ _ _).trans (t3_is _ _ hn), fun _ _ h => h⟩
end Go.Proofs.Ytcmfgmhadeeieaa
