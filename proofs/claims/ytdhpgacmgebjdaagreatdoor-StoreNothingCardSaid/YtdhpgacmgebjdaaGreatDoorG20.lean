/-
  The store: the calls' evaluator.
  Conditions: as each theorem states.
  Printed by a program: texts of the store's functions, linked to the program.
  Conditions: none.
-/
import Derived.Test.YtdhpgacmgebjdaaGreatDoorG19
namespace Go.Proofs.YtdhpgacmgebjdaaGreatDoor
open Go Go.Abs
noncomputable section
theorem known_lt : 12 < Tryz.prog.funcs.size := Nat.le_of_ble_eq_true (by kernel_rfl)
theorem known_WB : WB (callQ Tryz.prog okF X0 smF 100000 60) 12 [] (bareG Tryz.prog DI) fun v _ => v = .bool true := by
  refine ⟨fun v _ => isTrueV v, known_runs, fun v h e => ?_⟩
  have e : isTrueV v = true := e
  unfold isTrueV at e
  split at e
  · rfl
  · cases e
def s12 (args : List Value) (h : Heap) : Out := by
  classical exact if args = [] ∧ h.get 1 = some roundsL then some (.bool true, h) else none
theorem s12_eq {h : Heap} (g : h.get 1 = some roundsL) : s12 [] h = some (.bool true, h) := by
  unfold s12
  rw [if_pos ⟨rfl, g⟩]
theorem c12 : Contract Tryz.prog 12 s12 := by
  refine Contract.closedQ (callQ_sound (sm := smF) X0_sound (by unfold rounds; omega) prog_mixed okF_sound 60) known_lt (v := .bool true) rfl DI ?_ known_WB s12 ?_
  · intro b cs e
    unfold DI at e
    split at e
    · cases e; kernel_rfl
    · cases e
  · intro args h r e
    unfold s12 at e
    split at e
    · rename_i hh
      cases e
      refine ⟨hh.1, rfl, fun b cs _ hd => ?_⟩
      unfold DI at hd
      split at hd
      · cases hd; exact hh.2
      · cases hd
    · cases e
abbrev XL : List (FuncId × (List Value → Heap → Out)) := [(12, s12)]
abbrev XX : CallF := callL XL
theorem XX_sound : CSound Tryz.prog XX := callL_sound _ (by
  intro p hp
  simp only [List.mem_cons, List.not_mem_nil, or_false] at hp
  subst hp
  exact c12)
/-- Calls of the seat's functions: what is known of some, and the bodies of all others. -/
def CW : CallF := CC Tryz.prog XX
theorem CW_body {f : FuncId} {fn : Func} (i : IsFn Tryz.prog f fn) {args : List Value} {h : Heap} {r : Value × Heap} (hg : 3 ≤ h.n0) (hX : XX f args h = none) (e : bodyK Tryz.prog CW fn args h = some r) : CW f args h = some r :=
  CC_body i (by rw [globals3]; exact hg) hX e
theorem r12 {h : Heap} (g : h.get 1 = some roundsL) : CW 12 [] h = some (.bool true, h) := CC_known (show XX 12 [] h = some (.bool true, h) from s12_eq g)
end
end Go.Proofs.YtdhpgacmgebjdaaGreatDoor

namespace Go.Proofs.YtdhpgacmgebjdaaGreatDoor
open Go Go.Abs
noncomputable def k14_12 (C : CallF) (e : Env) (h : Heap) : Out := codeK Tryz.prog C (partOf Tryz.f14 [1, 1, 1, 1, 1, 1, 1]) e h (resultsA Tryz.prog Tryz.f14.results.toList) (resultsA Tryz.prog Tryz.f14.results.toList) (fun _ _ _ => none)
noncomputable def b14_14 (C : CallF) (i : Nat) (e : Env) (h : Heap) : Out := if i = 0 then (k14_12 C) e h else (fun _ _ _ => none) i e h
/-- stolon/store.Open -/
noncomputable def t14 (C : CallF) (x0 x1 : Value) (h : Heap) : Out :=
  thenV (some ((.pointer none), h)) fun y4 h =>
  thenV (some ((.int .i64 0), h)) fun y5 h =>
  thenV (some (x0, h)) fun y13 h =>
  thenV (pu (bin Tryz.prog .eql 24 y13 (.pointer none)) h) fun y14 h =>
  (match y14 with
  | .bool true =>
  thenV (some ((.pointer none), h)) fun y4_1 h =>
  thenV (some ((.int .i64 1), h)) fun y5_1 h =>
  some (.tuple #[y4_1, y5_1], h)
  | .bool false =>
  thenV (some (x1, h)) fun y15 h =>
  thenV (pu (bin Tryz.prog .lss 3 y15 (.int .i64 0)) h) fun y16 h =>
  (match y16 with
  | .bool true =>
  thenV (some ((.pointer none), h)) fun y4_1 h =>
  thenV (some ((.int .i64 2), h)) fun y5_1 h =>
  some (.tuple #[y4_1, y5_1], h)
  | .bool false =>
  thenV (some (x0, h)) fun y18 h =>
  thenV (C 57 [y18] h) fun y19 h =>
  thenV (some (y19, h)) fun y17 h =>
  thenV (pu (extractA y17 0) h) fun y20 h =>
  thenV (pu (extractA y17 1) h) fun y21 h =>
  thenV (pu (extractA y17 2) h) fun y22 h =>
  thenV (some (y20, h)) fun y6 h =>
  thenV (some (y21, h)) fun y7 h =>
  thenV (some (y22, h)) fun y8 h =>
  thenV (some (y8, h)) fun y23 h =>
  thenV (pu (bin Tryz.prog .neq 25 y23 (.int .i64 0)) h) fun y24 h =>
  (match y24 with
  | .bool true =>
  thenV (some (y8, h)) fun y25 h =>
  thenV (some ((.pointer none), h)) fun y4_1 h =>
  thenV (some (y25, h)) fun y5_1 h =>
  some (.tuple #[y4_1, y5_1], h)
  | .bool false =>
  thenV (some (y6, h)) fun y26 h =>
  thenV (some (x1, h)) fun y27 h =>
  thenV (makeMapA none Tryz.prog 123 h) fun y28 h =>
  thenV (makeMapA none Tryz.prog 124 h) fun y29 h =>
  thenV (pu (bldR [(.int .u64 0), (.map none), (.map none)] [(1, 1, y28), (2, 1, y29)]) h) fun y30 h =>
  thenV (pu (bldR [(.pointer none), (.int .i64 0), (.int .u64 0), (.map none), (.map none), (.pointer none)] [(0, 1, y26), (1, 1, y27), (2, 3, y30)]) h) fun y31 h =>
  thenV (box y31 h) fun y32 h =>
  thenV (some (y32, h)) fun y9 h =>
  thenV (some (y7, h)) fun y33 h =>
  thenV (pu (lenL y33) h) fun y34 h =>
  thenV (some ((.int .i64 0), h)) fun y35 h =>
  endL (iter (codeA Tryz.prog C (partOf Tryz.f14 [1, 1, 1, 1, 1, 1, 0, 1, 0, 0])) rounds (mkF 69 (up (bs [x0, x1]) [(4, y4), (5, y5), (6, y6), (7, y7), (8, y8), (9, y9), (13, y13), (14, y14), (15, y15), (16, y16), (17, y17), (18, y18), (19, y19), (20, y20), (21, y21), (22, y22), (23, y23), (24, y24), (26, y26), (27, y27), (28, y28), (29, y29), (30, y30), (31, y31), (32, y32), (33, y33), (34, y34), (35, y35)])) h) (resultsA Tryz.prog Tryz.f14.results.toList) (b14_14 C)
  | _ => none)
  | _ => none)
  | _ => none)
theorem t14_eq (C : CallF) (x0 x1 : Value) (h : Heap) : bodyK Tryz.prog C Tryz.f14 [x0, x1] h = t14 C x0 x1 h :=
  (bodyB_eq Tryz.prog C Tryz.f14 [x0, x1] h (by kernel_rfl)).trans (by kernel_rfl)
/-- (*stolon/store.Store).Put -/
noncomputable def t17 (C : CallF) (x0 x1 x2 : Value) (h : Heap) : Out :=
  thenV (box x1 h) fun y4 h =>
  thenV (box x2 h) fun y5 h =>
  thenV (some ((.int .i64 0), h)) fun y6 h =>
  thenV (some (x0, h)) fun y17 h =>
  thenV (C 60 [y17] h) fun y18 h =>
  thenV (some (y18, h)) fun y7 h =>
  thenV (some (y7, h)) fun y19 h =>
  thenV (pu (bin Tryz.prog .neq 25 y19 (.int .i64 0)) h) fun y20 h =>
  (match y20 with
  | .bool true =>
  thenV (some (y7, h)) fun y21 h =>
  thenV (some (y21, h)) fun y6_1 h =>
  some (y6_1, h)
  | .bool false =>
  thenV (ldN 37 y4 h) fun y22 h =>
  thenV (ldN 2 y5 h) fun y23 h =>
  thenV (C 25 [y22, y23] h) fun y24 h =>
  thenV (some (y24, h)) fun y8 h =>
  thenV (some (y8, h)) fun y25 h =>
  thenV (pu (bin Tryz.prog .neq 25 y25 (.int .i64 0)) h) fun y26 h =>
  (match y26 with
  | .bool true =>
  thenV (some (y8, h)) fun y27 h =>
  thenV (some (y27, h)) fun y6_1 h =>
  some (y6_1, h)
  | .bool false =>
  thenV (ldN 37 y4 h) fun y29 h =>
  thenV (C 24 [y29] h) fun y30 h =>
  thenV (some (y30, h)) fun y28 h =>
  thenV (pu (extractA y28 0) h) fun y31 h =>
  thenV (pu (extractA y28 1) h) fun y32 h =>
  thenV (newC (List.replicate 32 (.int .u8 0)) h) fun y9 h =>
  thenV (stN 32 y9 y31 h) fun _ h =>
  thenV (some (y32, h)) fun y10 h =>
  thenV (some (x0, h)) fun y33 h =>
  thenV (pu (nilCheckA y33) h) fun y34 h =>
  thenV (pu (addP y34 2) h) fun y35 h =>
  thenV (pu (addP y35 2) h) fun y36 h =>
  thenV (ld1 y36 h) fun y37 h =>
  thenV (ldN 32 y9 h) fun y38 h =>
  thenV (lookupA Tryz.prog 124 y37 y38 false h) fun y39 h =>
  (match y39 with
  | .bool true =>
  thenV (some ((.int .i64 41), h)) fun y6_1 h =>
  some (y6_1, h)
  | .bool false =>
  thenV (some (x0, h)) fun y41 h =>
  thenV (pu (nilCheckA y41) h) fun y42 h =>
  thenV (pu (addP y42 2) h) fun y43 h =>
  thenV (pu (addP y43 1) h) fun y44 h =>
  thenV (ld1 y44 h) fun y45 h =>
  thenV (ldN 32 y9 h) fun y46 h =>
  thenV (lookupA Tryz.prog 123 y45 y46 true h) fun y47 h =>
  thenV (some (y47, h)) fun y40 h =>
  thenV (pu (extractA y40 0) h) fun y48 h =>
  thenV (pu (extractA y40 1) h) fun y49 h =>
  thenV (newC [(.int .i64 0), (.int .i64 0), (.int .i64 0)] h) fun y11 h =>
  thenV (stN 3 y11 y48 h) fun _ h =>
  thenV (some (y49, h)) fun y12 h =>
  thenV (some (y12, h)) fun y50 h =>
  (match y50 with
  | .bool true =>
  thenV (some ((.int .i64 7), h)) fun y6_1 h =>
  some (y6_1, h)
  | .bool false =>
  let g19_0 := h
  thenV (pu (addP y5 1) g19_0) fun y51 g19_1 =>
  thenV (ld1 y51 g19_1) fun y52 g19_2 =>
  thenV (pu (lenL y52) g19_2) fun y53 g19_3 =>
  thenV (some (x0, g19_3)) fun y54 g19_4 =>
  thenV (pu (nilCheckA y54) g19_4) fun y55 g19_5 =>
  thenV (pu (addP y55 1) g19_5) fun y56 g19_6 =>
  thenV (ld1 y56 g19_6) fun y57 g19_7 =>
  thenV (some (x0, g19_7)) fun y58 g19_8 =>
  thenV (C 37 [y58] g19_8) fun y59 g19_9 =>
  thenV (pu (bin Tryz.prog .sub 3 y57 y59) g19_9) fun y60 g19_10 =>
  thenV (pu (bin Tryz.prog .gtr 3 y53 y60) g19_10) fun y61 g19_11 =>
  (match (chkR true (ld1 y51 g19_9) y52 && (chkR true (pu (lenL y52) g19_9) y53 && (chkR true (ld1 y56 g19_9) y57 && true))) with
  | true =>
  let h := g19_11
  (match y61 with
  | .bool true =>
  thenV (some ((.int .i64 40), h)) fun y6_1 h =>
  some (y6_1, h)
  | .bool false =>
  thenV (ldN 37 y4 h) fun y62 h =>
  thenV (ldN 2 y5 h) fun y63 h =>
  thenV (C 61 [y62, y63] h) fun y64 h =>
  thenV (some (y64, h)) fun y13 h =>
  thenV (some (y13, h)) fun y65 h =>
  thenV (pu (lenL y65) h) fun y66 h =>
  thenV (pu (addP y5 1) h) fun y67 h =>
  thenV (ld1 y67 h) fun y68 h =>
  thenV (pu (lenL y68) h) fun y69 h =>
  thenV (pu (bldR [(.int .i64 0), (.int .i64 0), (.int .i64 0)] [(0, 1, (.int .i64 (-1))), (1, 1, y66), (2, 1, y69)]) h) fun y70 h =>
  thenV (newC [(.int .i64 0), (.int .i64 0), (.int .i64 0)] h) fun y14 h =>
  thenV (stN 3 y14 y70 h) fun _ h =>
  thenV (some (x0, h)) fun y72 h =>
  thenV (some (y13, h)) fun y73 h =>
  thenV (some (.func (.func 63) #[] #[y14, y9], h)) fun y74 h =>
  thenV (C 62 [y72, y73, y74] h) fun y75 h =>
  thenV (some (y75, h)) fun y71 h =>
  thenV (pu (extractA y71 0) h) fun y76 h =>
  thenV (pu (extractA y71 1) h) fun y77 h =>
  thenV (some (y76, h)) fun y15 h =>
  thenV (some (y77, h)) fun y16 h =>
  thenV (some (y16, h)) fun y78 h =>
  thenV (pu (bin Tryz.prog .eql 25 y78 (.int .i64 0)) h) fun y79 h =>
  thenV (some (y79, h)) fun y80 h =>
  thenV (guardK (bOf y80 == some true) (some (y15, h)) h) fun y81 h =>
  thenV (guardK (bOf y80 == some true) (pu (bin Tryz.prog .geq 3 y81 (.int .i64 0)) h) h) fun y82 h =>
  thenV (match y80 with | .bool t => some (if t then y82 else (.bool false), h) | _ => none) fun y83 h =>
  (match y83 with
  | .bool true =>
  thenV (some (y15, h)) fun y84 h =>
  thenV (pu (addP y14 0) h) fun y85 h =>
  thenV (stN 1 y85 y84 h) fun _ h =>
  thenV (some (x0, h)) fun y86 h =>
  thenV (pu (nilCheckA y86) h) fun y87 h =>
  thenV (pu (addP y87 2) h) fun y88 h =>
  thenV (pu (addP y88 1) h) fun y89 h =>
  thenV (ld1 y89 h) fun y90 h =>
  thenV (ldN 32 y9 h) fun y91 h =>
  thenV (ldN 3 y14 h) fun y92 h =>
  thenV (mapUpdateA Tryz.prog 123 y90 y91 y92 h) fun _ h =>
  thenV (some (y16, h)) fun y93 h =>
  thenV (some (y93, h)) fun y6_1 h =>
  some (y6_1, h)
  | .bool false =>
  thenV (some (y16, h)) fun y93 h =>
  thenV (some (y93, h)) fun y6_1 h =>
  some (y6_1, h)
  | _ => none)
  | _ => none)
  | false => none)
  | _ => none)
  | _ => none)
  | _ => none)
  | _ => none)
theorem t17_eq (C : CallF) (x0 x1 x2 : Value) (h : Heap) : bodyK Tryz.prog C Tryz.f17 [x0, x1, x2] h = t17 C x0 x1 x2 h :=
  (bodyB_eq Tryz.prog C Tryz.f17 [x0, x1, x2] h (by kernel_rfl)).trans (by kernel_rfl)


/-- (*stolon/store.Store).Held -/
noncomputable def t18 (C : CallF) (x0 : Value) (h : Heap) : Out :=
  thenV (some ((.slice none 0 0), h)) fun y2 h =>
  thenV (some (x0, h)) fun y3 h =>
  thenV (C 60 [y3] h) fun y4 h =>
  thenV (pu (bin Tryz.prog .neq 25 y4 (.int .i64 0)) h) fun y5 h =>
  (match y5 with
  | .bool true =>
  thenV (some ((.slice none 0 0), h)) fun y2_1 h =>
  some (y2_1, h)
  | .bool false =>
  thenV (some (x0, h)) fun y6 h =>
  thenV (pu (nilCheckA y6) h) fun y7 h =>
  thenV (pu (addP y7 2) h) fun y8 h =>
  thenV (pu (addP y8 1) h) fun y9 h =>
  thenV (ld1 y9 h) fun y10 h =>
  thenV (C 64 [y10] h) fun y11 h =>
  thenV (some (y11, h)) fun y2_1 h =>
  some (y2_1, h)
  | _ => none)
theorem t18_eq (C : CallF) (x0 : Value) (h : Heap) : bodyK Tryz.prog C Tryz.f18 [x0] h = t18 C x0 h :=
  (bodyB_eq Tryz.prog C Tryz.f18 [x0] h (by kernel_rfl)).trans (by kernel_rfl)


/-- (*stolon/store.Store).Raise -/
noncomputable def t33 (C : CallF) (x0 x1 : Value) (h : Heap) : Out :=
  thenV (box x1 h) fun y3 h =>
  thenV (some ((.int .i64 0), h)) fun y4 h =>
  thenV (some (x0, h)) fun y8 h =>
  thenV (C 60 [y8] h) fun y9 h =>
  thenV (some (y9, h)) fun y5 h =>
  thenV (some (y5, h)) fun y10 h =>
  thenV (pu (bin Tryz.prog .neq 25 y10 (.int .i64 0)) h) fun y11 h =>
  (match y11 with
  | .bool true =>
  thenV (some (y5, h)) fun y12 h =>
  thenV (some (y12, h)) fun y4_1 h =>
  some (y4_1, h)
  | .bool false =>
  thenV (some (x0, h)) fun y13 h =>
  thenV (pu (nilCheckA y13) h) fun y14 h =>
  thenV (pu (addP y14 2) h) fun y15 h =>
  thenV (pu (addP y15 0) h) fun y16 h =>
  thenV (ld1 y16 h) fun y17 h =>
  thenV (ld1 y3 h) fun y18 h =>
  thenV (pu (bin Tryz.prog .gtr 52 y17 y18) h) fun y19 h =>
  (match y19 with
  | .bool true =>
  thenV (some ((.int .i64 0), h)) fun y4_1 h =>
  some (y4_1, h)
  | .bool false =>
  thenV (ld1 y3 h) fun y20 h =>
  thenV (pu (bin Tryz.prog .eql 52 y20 (.int .u64 18446744073709551615)) h) fun y21 h =>
  (match y21 with
  | .bool true =>
  thenV (some ((.int .i64 8), h)) fun y4_1 h =>
  some (y4_1, h)
  | .bool false =>
  thenV (some (x0, h)) fun y23 h =>
  thenV (ld1 y3 h) fun y24 h =>
  thenV (pu (bin Tryz.prog .add 52 y24 (.int .u64 1)) h) fun y25 h =>
  thenV (C 74 [y25] h) fun y26 h =>
  thenV (some (.func (.func 75) #[] #[y3], h)) fun y27 h =>
  thenV (C 62 [y23, y26, y27] h) fun y28 h =>
  thenV (some (y28, h)) fun y22 h =>
  thenV (pu (extractA y22 0) h) fun y29 h =>
  thenV (pu (extractA y22 1) h) fun y30 h =>
  thenV (some (y29, h)) fun y6 h =>
  thenV (some (y30, h)) fun y7 h =>
  thenV (some (y7, h)) fun y31 h =>
  thenV (some (y31, h)) fun y4_1 h =>
  some (y4_1, h)
  | _ => none)
  | _ => none)
  | _ => none)
theorem t33_eq (C : CallF) (x0 x1 : Value) (h : Heap) : bodyK Tryz.prog C Tryz.f33 [x0, x1] h = t33 C x0 x1 h :=
  (bodyB_eq Tryz.prog C Tryz.f33 [x0, x1] h (by kernel_rfl)).trans (by kernel_rfl)


/-- (*stolon/store.Store).Drop -/
noncomputable def t34 (C : CallF) (x0 x1 : Value) (h : Heap) : Out :=
  thenV (box x1 h) fun y3 h =>
  thenV (some ((.int .i64 0), h)) fun y4 h =>
  thenV (some (x0, h)) fun y10 h =>
  thenV (C 60 [y10] h) fun y11 h =>
  thenV (some (y11, h)) fun y5 h =>
  thenV (some (y5, h)) fun y12 h =>
  thenV (pu (bin Tryz.prog .neq 25 y12 (.int .i64 0)) h) fun y13 h =>
  (match y13 with
  | .bool true =>
  thenV (some (y5, h)) fun y14 h =>
  thenV (some (y14, h)) fun y4_1 h =>
  some (y4_1, h)
  | .bool false =>
  thenV (some (x0, h)) fun y16 h =>
  thenV (pu (nilCheckA y16) h) fun y17 h =>
  thenV (pu (addP y17 2) h) fun y18 h =>
  thenV (pu (addP y18 1) h) fun y19 h =>
  thenV (ld1 y19 h) fun y20 h =>
  thenV (ldN 32 y3 h) fun y21 h =>
  thenV (lookupA Tryz.prog 123 y20 y21 true h) fun y22 h =>
  thenV (some (y22, h)) fun y15 h =>
  thenV (pu (extractA y15 0) h) fun y23 h =>
  thenV (pu (extractA y15 1) h) fun y24 h =>
  thenV (newC [(.int .i64 0), (.int .i64 0), (.int .i64 0)] h) fun y6 h =>
  thenV (stN 3 y6 y23 h) fun _ h =>
  thenV (some (y24, h)) fun y7 h =>
  thenV (some (y7, h)) fun y25 h =>
  thenV (pu (unA .not y25) h) fun y26 h =>
  (match y26 with
  | .bool true =>
  thenV (some ((.int .i64 6), h)) fun y4_1 h =>
  some (y4_1, h)
  | .bool false =>
  thenV (some (x0, h)) fun y28 h =>
  thenV (ldN 32 y3 h) fun y29 h =>
  thenV (C 76 [(.int .u8 3), y29] h) fun y30 h =>
  thenV (some (.func (.func 77) #[] #[y3], h)) fun y31 h =>
  thenV (C 62 [y28, y30, y31] h) fun y32 h =>
  thenV (some (y32, h)) fun y27 h =>
  thenV (pu (extractA y27 0) h) fun y33 h =>
  thenV (pu (extractA y27 1) h) fun y34 h =>
  thenV (some (y33, h)) fun y8 h =>
  thenV (some (y34, h)) fun y9 h =>
  thenV (some (y9, h)) fun y35 h =>
  thenV (some (y35, h)) fun y4_1 h =>
  some (y4_1, h)
  | _ => none)
  | _ => none)
theorem t34_eq (C : CallF) (x0 x1 : Value) (h : Heap) : bodyK Tryz.prog C Tryz.f34 [x0, x1] h = t34 C x0 x1 h :=
  (bodyB_eq Tryz.prog C Tryz.f34 [x0, x1] h (by kernel_rfl)).trans (by kernel_rfl)


/-- (*stolon/store.Store).Bury -/
noncomputable def t35 (C : CallF) (x0 x1 : Value) (h : Heap) : Out :=
  thenV (box x1 h) fun y3 h =>
  thenV (some ((.int .i64 0), h)) fun y4 h =>
  thenV (some (x0, h)) fun y8 h =>
  thenV (C 60 [y8] h) fun y9 h =>
  thenV (some (y9, h)) fun y5 h =>
  thenV (some (y5, h)) fun y10 h =>
  thenV (pu (bin Tryz.prog .neq 25 y10 (.int .i64 0)) h) fun y11 h =>
  (match y11 with
  | .bool true =>
  thenV (some (y5, h)) fun y12 h =>
  thenV (some (y12, h)) fun y4_1 h =>
  some (y4_1, h)
  | .bool false =>
  thenV (some (x0, h)) fun y13 h =>
  thenV (pu (nilCheckA y13) h) fun y14 h =>
  thenV (pu (addP y14 2) h) fun y15 h =>
  thenV (pu (addP y15 2) h) fun y16 h =>
  thenV (ld1 y16 h) fun y17 h =>
  thenV (ldN 32 y3 h) fun y18 h =>
  thenV (lookupA Tryz.prog 124 y17 y18 false h) fun y19 h =>
  (match y19 with
  | .bool true =>
  thenV (some ((.int .i64 0), h)) fun y4_1 h =>
  some (y4_1, h)
  | .bool false =>
  thenV (some (x0, h)) fun y21 h =>
  thenV (ldN 32 y3 h) fun y22 h =>
  thenV (C 76 [(.int .u8 4), y22] h) fun y23 h =>
  thenV (some (.func (.func 78) #[] #[y3], h)) fun y24 h =>
  thenV (C 62 [y21, y23, y24] h) fun y25 h =>
  thenV (some (y25, h)) fun y20 h =>
  thenV (pu (extractA y20 0) h) fun y26 h =>
  thenV (pu (extractA y20 1) h) fun y27 h =>
  thenV (some (y26, h)) fun y6 h =>
  thenV (some (y27, h)) fun y7 h =>
  thenV (some (y7, h)) fun y28 h =>
  thenV (some (y28, h)) fun y4_1 h =>
  some (y4_1, h)
  | _ => none)
  | _ => none)
theorem t35_eq (C : CallF) (x0 x1 : Value) (h : Heap) : bodyK Tryz.prog C Tryz.f35 [x0, x1] h = t35 C x0 x1 h :=
  (bodyB_eq Tryz.prog C Tryz.f35 [x0, x1] h (by kernel_rfl)).trans (by kernel_rfl)


/-- (*stolon/store.Store).Compact -/
noncomputable def t36 (C : CallF) (x0 : Value) (h : Heap) : Out :=
  thenV (some ((.int .i64 0), h)) fun y2 h =>
  thenV (some (x0, h)) fun y4 h =>
  thenV (C 60 [y4] h) fun y5 h =>
  thenV (some (y5, h)) fun y3 h =>
  thenV (some (y3, h)) fun y6 h =>
  thenV (pu (bin Tryz.prog .neq 25 y6 (.int .i64 0)) h) fun y7 h =>
  (match y7 with
  | .bool true =>
  thenV (some (y3, h)) fun y8 h =>
  thenV (some (y8, h)) fun y2_1 h =>
  some (y2_1, h)
  | .bool false =>
  thenV (some (x0, h)) fun y9 h =>
  thenV (some (x0, h)) fun y10 h =>
  thenV (pu (nilCheckA y10) h) fun y11 h =>
  thenV (pu (addP y11 2) h) fun y12 h =>
  thenV (C 59 [y9, y12, (.slice none 0 0)] h) fun y13 h =>
  thenV (some (y13, h)) fun y2_1 h =>
  some (y2_1, h)
  | _ => none)
theorem t36_eq (C : CallF) (x0 : Value) (h : Heap) : bodyK Tryz.prog C Tryz.f36 [x0] h = t36 C x0 h :=
  (bodyB_eq Tryz.prog C Tryz.f36 [x0] h (by kernel_rfl)).trans (by kernel_rfl)


/-- (*stolon/store.Store).Graves -/
noncomputable def t39 (C : CallF) (x0 : Value) (h : Heap) : Out :=
  thenV (some ((.slice none 0 0), h)) fun y2 h =>
  thenV (some (x0, h)) fun y3 h =>
  thenV (C 60 [y3] h) fun y4 h =>
  thenV (pu (bin Tryz.prog .neq 25 y4 (.int .i64 0)) h) fun y5 h =>
  (match y5 with
  | .bool true =>
  thenV (some ((.slice none 0 0), h)) fun y2_1 h =>
  some (y2_1, h)
  | .bool false =>
  thenV (some (x0, h)) fun y6 h =>
  thenV (pu (nilCheckA y6) h) fun y7 h =>
  thenV (pu (addP y7 2) h) fun y8 h =>
  thenV (pu (addP y8 2) h) fun y9 h =>
  thenV (ld1 y9 h) fun y10 h =>
  thenV (C 80 [y10] h) fun y11 h =>
  thenV (some (y11, h)) fun y2_1 h =>
  some (y2_1, h)
  | _ => none)
theorem t39_eq (C : CallF) (x0 : Value) (h : Heap) : bodyK Tryz.prog C Tryz.f39 [x0] h = t39 C x0 h :=
  (bodyB_eq Tryz.prog C Tryz.f39 [x0] h (by kernel_rfl)).trans (by kernel_rfl)


noncomputable def k40_10 (C : CallF) (e : Env) (h : Heap) : Out := codeK Tryz.prog C (partOf Tryz.f40 [1, 1, 1, 1, 1, 1, 1]) e h (resultsA Tryz.prog Tryz.f40.results.toList) (resultsA Tryz.prog Tryz.f40.results.toList) (fun _ _ _ => none)
noncomputable def b40_12 (C : CallF) (i : Nat) (e : Env) (h : Heap) : Out := if i = 0 then (k40_10 C) e h else (fun _ _ _ => none) i e h
/-- (*stolon/store.Store).Scrub -/
noncomputable def t40 (C : CallF) (x0 x1 : Value) (h : Heap) : Out :=
  thenV (box x0 h) fun y2 h =>
  thenV (some ((.slice none 0 0), h)) fun y4 h =>
  thenV (ld1 y2 h) fun y13 h =>
  thenV (C 60 [y13] h) fun y14 h =>
  thenV (pu (bin Tryz.prog .neq 25 y14 (.int .i64 0)) h) fun y15 h =>
  (match y15 with
  | .bool true =>
  thenV (some ((.slice none 0 0), h)) fun y4_1 h =>
  some (y4_1, h)
  | .bool false =>
  thenV (ld1 y2 h) fun y16 h =>
  thenV (pu (nilCheckA y16) h) fun y17 h =>
  thenV (pu (addP y17 2) h) fun y18 h =>
  thenV (pu (addP y18 1) h) fun y19 h =>
  thenV (ld1 y19 h) fun y20 h =>
  thenV (C 64 [y20] h) fun y21 h =>
  thenV (some (y21, h)) fun y5 h =>
  thenV (some ((.int .i64 0), h)) fun y6 h =>
  thenV (ld1 y2 h) fun y22 h =>
  thenV (pu (nilCheckA y22) h) fun y23 h =>
  thenV (pu (addP y23 5) h) fun y24 h =>
  thenV (ld1 y24 h) fun y25 h =>
  thenV (pu (bin Tryz.prog .neq 127 y25 (.pointer none)) h) fun y26 h =>
  (match y26 with
  | .bool true =>
  thenV (some (y5, h)) fun y27 h =>
  thenV (some (.func (.func 82) #[] #[y2], h)) fun y28 h =>
  thenV (C 81 [y27, y28] h) fun y29 h =>
  thenV (some (y29, h)) fun y6_1 h =>
  thenV (some (y6_1, h)) fun y30 h =>
  thenV (pu (minmax true y30 [(.int .i64 0)]) h) fun y31 h =>
  thenV (some (y31, h)) fun y6_2 h =>
  thenV (some ((.slice none 0 0), h)) fun y7 h =>
  thenV (some (x1, h)) fun y32 h =>
  thenV (pu (minmax true y32 [(.int .i64 0)]) h) fun y33 h =>
  thenV (some (y5, h)) fun y34 h =>
  thenV (pu (lenL y34) h) fun y35 h =>
  thenV (pu (minmax false y33 [y35]) h) fun y36 h =>
  thenV (some ((.int .i64 0), h)) fun y37 h =>
  endL (iter (codeA Tryz.prog C (partOf Tryz.f40 [1, 1, 1, 1, 1, 1, 0, 1, 0, 0])) rounds (mkF 67 (up (bs [x0, x1]) [(2, y2), (4, y4), (5, y5), (6, y6_2), (7, y7), (13, y13), (14, y14), (15, y15), (16, y16), (17, y17), (18, y18), (19, y19), (20, y20), (21, y21), (22, y22), (23, y23), (24, y24), (25, y25), (26, y26), (27, y27), (28, y28), (29, y29), (30, y30), (31, y31), (32, y32), (33, y33), (34, y34), (35, y35), (36, y36), (37, y37)])) h) (resultsA Tryz.prog Tryz.f40.results.toList) (b40_12 C)
  | .bool false =>
  thenV (some ((.slice none 0 0), h)) fun y7 h =>
  thenV (some (x1, h)) fun y32 h =>
  thenV (pu (minmax true y32 [(.int .i64 0)]) h) fun y33 h =>
  thenV (some (y5, h)) fun y34 h =>
  thenV (pu (lenL y34) h) fun y35 h =>
  thenV (pu (minmax false y33 [y35]) h) fun y36 h =>
  thenV (some ((.int .i64 0), h)) fun y37 h =>
  endL (iter (codeA Tryz.prog C (partOf Tryz.f40 [1, 1, 1, 1, 1, 1, 0, 1, 0, 0])) rounds (mkF 67 (up (bs [x0, x1]) [(2, y2), (4, y4), (5, y5), (6, y6), (7, y7), (13, y13), (14, y14), (15, y15), (16, y16), (17, y17), (18, y18), (19, y19), (20, y20), (21, y21), (22, y22), (23, y23), (24, y24), (25, y25), (26, y26), (32, y32), (33, y33), (34, y34), (35, y35), (36, y36), (37, y37)])) h) (resultsA Tryz.prog Tryz.f40.results.toList) (b40_12 C)
  | _ => none)
  | _ => none)
theorem t40_eq (C : CallF) (x0 x1 : Value) (h : Heap) : bodyK Tryz.prog C Tryz.f40 [x0, x1] h = t40 C x0 x1 h :=
  (bodyB_eq Tryz.prog C Tryz.f40 [x0, x1] h (by kernel_rfl)).trans (by kernel_rfl)
noncomputable def k31_4 (C : CallF) (e : Env) (h : Heap) : Out := codeK Tryz.prog C (partOf Tryz.f31 [1, 1, 1]) e h (resultsA Tryz.prog Tryz.f31.results.toList) (resultsA Tryz.prog Tryz.f31.results.toList) (fun _ _ _ => none)
noncomputable def b31_6 (C : CallF) (i : Nat) (e : Env) (h : Heap) : Out := if i = 0 then (k31_4 C) e h else (fun _ _ _ => none) i e h
/-- stolon/stolonlaw04.heavy -/
noncomputable def t31 (C : CallF) (x0 : Value) (h : Heap) : Out :=
  thenV (some ((.bool false), h)) fun y2 h =>
  thenV (some (x0, h)) fun y4 h =>
  thenV (pu (lenL y4) h) fun y5 h =>
  thenV (pu (bin Tryz.prog .gtr 3 y5 (.int .i64 60)) h) fun y6 h =>
  (match y6 with
  | .bool true =>
  thenV (some ((.bool true), h)) fun y2_1 h =>
  some (y2_1, h)
  | .bool false =>
  thenV (some ((.int .i64 0), h)) fun y3 h =>
  endL (iter (codeA Tryz.prog C (partOf Tryz.f31 [1, 1, 0, 1, 0, 0])) rounds (mkF 31 (up (bs [x0]) [(2, y2), (3, y3), (4, y4), (5, y5), (6, y6)])) h) (resultsA Tryz.prog Tryz.f31.results.toList) (b31_6 C)
  | _ => none)
noncomputable def t31k31_4 (C : CallF) (x : Nat → Value) (h : Heap) : Out :=
  thenV (some ((.bool false), h)) fun y2 h =>
  some (y2, h)
noncomputable def t31l31_11010 (C : CallF) (x : Nat → Value) (h : Heap) : Option (Ex × Env × Heap) :=
  thenV (some ((x 3), h)) fun y7 h =>
  thenV (some ((x 0), h)) fun y8 h =>
  thenV (pu (lenL y8) h) fun y9 h =>
  thenV (pu (bin Tryz.prog .lss 3 y7 y9) h) fun y10 h =>
  (match y10 with
  | .bool true =>
  thenV (some ((x 0), h)) fun y13 h =>
  thenV (some ((x 3), h)) fun y14 h =>
  thenV (pu (idxS 76 y13 y14) h) fun y15 h =>
  thenV (pu (addP y15 36) h) fun y16 h =>
  thenV (pu (addP y16 36) h) fun y17 h =>
  thenV (ld1 y17 h) fun y18 h =>
  thenV (pu (lenL y18) h) fun y19 h =>
  thenV (pu (bin Tryz.prog .gtr 3 y19 (.int .i64 60)) h) fun y20 h =>
  thenV (some (y20, h)) fun y21 h =>
  thenV (guardK (bOf y21 == some false) (some ((x 0), h)) h) fun y22 h =>
  thenV (guardK (bOf y21 == some false) (some ((x 3), h)) h) fun y23 h =>
  thenV (guardK (bOf y21 == some false) (pu (idxS 76 y22 y23) h) h) fun y24 h =>
  thenV (guardK (bOf y21 == some false) (pu (addP y24 73) h) h) fun y25 h =>
  thenV (guardK (bOf y21 == some false) (pu (addP y25 1) h) h) fun y26 h =>
  thenV (guardK (bOf y21 == some false) (ld1 y26 h) h) fun y27 h =>
  thenV (guardK (bOf y21 == some false) (pu (lenL y27) h) h) fun y28 h =>
  thenV (guardK (bOf y21 == some false) (pu (bin Tryz.prog .gtr 3 y28 (.int .i64 2000)) h) h) fun y29 h =>
  thenV (match y21 with | .bool t => some (if t then (.bool true) else y29, h) | _ => none) fun y30 h =>
  (match y30 with
  | .bool true =>
  thenV (some ((.bool true), h)) fun y2 h =>
  some (.ret, (mkF 31 (up x [(2, y2), (7, y7), (8, y8), (9, y9), (10, y10), (13, y13), (14, y14), (15, y15), (16, y16), (17, y17), (18, y18), (19, y19), (20, y20), (21, y21), (22, y22), (23, y23), (24, y24), (25, y25), (26, y26), (27, y27), (28, y28), (29, y29), (30, y30)])), h)
  | .bool false =>
  thenV (some ((x 3), h)) fun y11 h =>
  thenV (pu (bin Tryz.prog .add 3 y11 (.int .i64 1)) h) fun y12 h =>
  thenV (some (y12, h)) fun y3 h =>
  some (.normal, (mkF 31 (up x [(3, y3), (7, y7), (8, y8), (9, y9), (10, y10), (11, y11), (12, y12), (13, y13), (14, y14), (15, y15), (16, y16), (17, y17), (18, y18), (19, y19), (20, y20), (21, y21), (22, y22), (23, y23), (24, y24), (25, y25), (26, y26), (27, y27), (28, y28), (29, y29), (30, y30)])), h)
  | _ => none)
  | .bool false =>
  some (.exit 0, (mkF 31 (up x [(7, y7), (8, y8), (9, y9), (10, y10)])), h)
  | _ => none)
theorem t31_eq (C : CallF) (x0 : Value) (h : Heap) : bodyK Tryz.prog C Tryz.f31 [x0] h = t31 C x0 h :=
  (bodyB_eq Tryz.prog C Tryz.f31 [x0] h (by kernel_rfl)).trans (by kernel_rfl)
theorem t31k31_4_eq (C : CallF) (x : Nat → Value) (h : Heap) : k31_4 C (mkF 31 x) h = t31k31_4 C x h :=
  link_partF (b := (partOf Tryz.f31 [1, 1, 1])) (kE := (resultsA Tryz.prog Tryz.f31.results.toList)) (rE := (resultsA Tryz.prog Tryz.f31.results.toList)) (xE := (fun _ _ _ => none)) (T := t31k31_4 C) (fun x h => by kernel_rfl) x h
theorem t31l31_11010_eq (C : CallF) (x : Nat → Value) (h : Heap) : codeA Tryz.prog C (partOf Tryz.f31 [1, 1, 0, 1, 0, 0]) (mkF 31 x) h = t31l31_11010 C x h :=
  link_roundF (T := t31l31_11010 C) (fun x h => by kernel_rfl) x h


/-- stolon/stolonlaw04.own -/
noncomputable def t16 (C : CallF) (x0 x1 : Value) (h : Heap) : Out :=
  thenV (box x0 h) fun y2 h =>
  thenV (box x1 h) fun y3 h =>
  thenV (newC [(.int .i64 0), (.int .i64 0), (.int .i64 0), (.int .i64 0), (.int .u8 0), (.int .u8 0), (.int .u8 0), (.int .u8 0), (.int .u8 0), (.int .u8 0), (.int .u8 0), (.int .u8 0), (.int .u8 0), (.int .u8 0), (.int .u8 0), (.int .u8 0), (.int .u8 0), (.int .u8 0), (.int .u8 0), (.int .u8 0), (.int .u8 0), (.int .u8 0), (.int .u8 0), (.int .u8 0), (.int .u8 0), (.int .u8 0), (.int .u8 0), (.int .u8 0), (.int .u8 0), (.int .u8 0), (.int .u8 0), (.int .u8 0), (.int .u8 0), (.int .u8 0), (.int .u8 0), (.int .u8 0), (.slice none 0 0)] h) fun y4 h =>
  thenV (newC [(.int .i64 0), (.slice none 0 0)] h) fun y5 h =>
  thenV (bslR 32 (.agg (List.replicate 32 (.int .u8 0)).toArray) 0 [] h) fun y6 h =>
  thenV (pu (addP y2 36) h) fun y7 h =>
  thenV (ld1 y7 h) fun y8 h =>
  thenV (appendA 32 32 y6 y8 h) fun y9 h =>
  thenV (pu (addP y2 36) h) fun y10 h =>
  thenV (stN 1 y10 y9 h) fun _ h =>
  thenV (bslR 1 (.int .u8 0) 0 [] h) fun y11 h =>
  thenV (pu (addP y3 1) h) fun y12 h =>
  thenV (ld1 y12 h) fun y13 h =>
  thenV (appendA 1 1 y11 y13 h) fun y14 h =>
  thenV (pu (addP y3 1) h) fun y15 h =>
  thenV (stN 1 y15 y14 h) fun _ h =>
  let g4_0 := h
  thenV (ldN 37 y2 g4_0) fun y16 g4_1 =>
  thenV (ldN 2 y3 g4_1) fun y17 g4_2 =>
  thenV (stN 37 y4 y16 g4_2) fun _ g4_3 =>
  thenV (stN 2 y5 y17 g4_3) fun _ g4_4 =>
  (match (chkR true (ldN 2 y3 g4_3) y17 && true) with
  | true =>
  let h := g4_4
  resultsA Tryz.prog Tryz.f16.results.toList (mkF 18 (up (bs [x0, x1]) [(2, y2), (3, y3), (4, y4), (5, y5), (6, y6), (7, y7), (8, y8), (9, y9), (10, y10), (11, y11), (12, y12), (13, y13), (14, y14), (15, y15), (16, y16), (17, y17)])) h
  | false => none)
theorem t16_eq (C : CallF) (x0 x1 : Value) (h : Heap) : bodyK Tryz.prog C Tryz.f16 [x0, x1] h = t16 C x0 x1 h :=
  (bodyB_eq Tryz.prog C Tryz.f16 [x0, x1] h (by kernel_rfl)).trans (by kernel_rfl)


/-- stolon/stolonlaw04.StoreNothing -/
noncomputable def t6 (C : CallF) (x0 : Value) (h : Heap) : Out :=
  thenV (box x0 h) fun y1 h =>
  thenV (some ((.bool false), h)) fun y2 h =>
  thenV (ldN 76 y1 h) fun y12 h =>
  thenV (bslR 76 (.agg #[(.int .i64 0), (.int .i64 0), (.int .i64 0), (.int .u64 0), (.int .u8 0), (.int .u8 0), (.int .u8 0), (.int .u8 0), (.int .u8 0), (.int .u8 0), (.int .u8 0), (.int .u8 0), (.int .u8 0), (.int .u8 0), (.int .u8 0), (.int .u8 0), (.int .u8 0), (.int .u8 0), (.int .u8 0), (.int .u8 0), (.int .u8 0), (.int .u8 0), (.int .u8 0), (.int .u8 0), (.int .u8 0), (.int .u8 0), (.int .u8 0), (.int .u8 0), (.int .u8 0), (.int .u8 0), (.int .u8 0), (.int .u8 0), (.int .u8 0), (.int .u8 0), (.int .u8 0), (.int .u8 0), (.int .i64 0), (.int .i64 0), (.int .i64 0), (.int .i64 0), (.int .u8 0), (.int .u8 0), (.int .u8 0), (.int .u8 0), (.int .u8 0), (.int .u8 0), (.int .u8 0), (.int .u8 0), (.int .u8 0), (.int .u8 0), (.int .u8 0), (.int .u8 0), (.int .u8 0), (.int .u8 0), (.int .u8 0), (.int .u8 0), (.int .u8 0), (.int .u8 0), (.int .u8 0), (.int .u8 0), (.int .u8 0), (.int .u8 0), (.int .u8 0), (.int .u8 0), (.int .u8 0), (.int .u8 0), (.int .u8 0), (.int .u8 0), (.int .u8 0), (.int .u8 0), (.int .u8 0), (.int .u8 0), (.slice none 0 0), (.int .i64 0), (.slice none 0 0), (.int .u8 0)]) 1 [(0, y12)] h) fun y13 h =>
  thenV (C 31 [y13] h) fun y14 h =>
  (match y14 with
  | .bool true =>
  thenV (C 12 [] h) fun y15 h =>
  thenV (some (y15, h)) fun y2_1 h =>
  some (y2_1, h)
  | .bool false =>
  thenV (some ((.pointer none), h)) fun y3 h =>
  thenV (pu (addP y1 1) h) fun y17 h =>
  thenV (ld1 y17 h) fun y18 h =>
  thenV (C 14 [(.pointer none), y18] h) fun y19 h =>
  thenV (some (y19, h)) fun y16 h =>
  thenV (pu (extractA y16 0) h) fun y20 h =>
  thenV (pu (extractA y16 1) h) fun y21 h =>
  thenV (some (y20, h)) fun y4 h =>
  thenV (some (y21, h)) fun y5 h =>
  thenV (some (y3, h)) fun y23 h =>
  thenV (pu (addP y1 4) h) fun y24 h =>
  thenV (ldN 32 y24 h) fun y25 h =>
  thenV (C 19 [y23, y25] h) fun y26 h =>
  thenV (some (y26, h)) fun y22 h =>
  thenV (pu (extractA y22 0) h) fun y27 h =>
  thenV (pu (extractA y22 1) h) fun y28 h =>
  thenV (pu (extractA y22 2) h) fun y29 h =>
  thenV (newC [(.int .i64 0), (.int .i64 0), (.int .i64 0), (.int .i64 0), (.int .u8 0), (.int .u8 0), (.int .u8 0), (.int .u8 0), (.int .u8 0), (.int .u8 0), (.int .u8 0), (.int .u8 0), (.int .u8 0), (.int .u8 0), (.int .u8 0), (.int .u8 0), (.int .u8 0), (.int .u8 0), (.int .u8 0), (.int .u8 0), (.int .u8 0), (.int .u8 0), (.int .u8 0), (.int .u8 0), (.int .u8 0), (.int .u8 0), (.int .u8 0), (.int .u8 0), (.int .u8 0), (.int .u8 0), (.int .u8 0), (.int .u8 0), (.int .u8 0), (.int .u8 0), (.int .u8 0), (.int .u8 0), (.slice none 0 0)] h) fun y6 h =>
  thenV (newC [(.int .i64 0), (.slice none 0 0)] h) fun y7 h =>
  thenV (stN 37 y6 y27 h) fun _ h =>
  thenV (stN 2 y7 y28 h) fun _ h =>
  thenV (some (y29, h)) fun y8 h =>
  thenV (some (y3, h)) fun y31 h =>
  thenV (pu (addP y1 4) h) fun y32 h =>
  thenV (ldN 32 y32 h) fun y33 h =>
  thenV (C 32 [y31, y33] h) fun y34 h =>
  thenV (some (y34, h)) fun y30 h =>
  thenV (pu (extractA y30 0) h) fun y35 h =>
  thenV (pu (extractA y30 1) h) fun y36 h =>
  thenV (pu (extractA y30 2) h) fun y37 h =>
  thenV (some (y35, h)) fun y9 h =>
  thenV (some (y36, h)) fun y10 h =>
  thenV (some (y37, h)) fun y11 h =>
  thenV (some (y5, h)) fun y38 h =>
  thenV (pu (bin Tryz.prog .neq 25 y38 (.int .i64 1)) h) fun y39 h =>
  thenV (some (y39, h)) fun y40 h =>
  thenV (guardK (bOf y40 == some false) (some (y8, h)) h) fun y41 h =>
  thenV (guardK (bOf y40 == some false) (pu (bin Tryz.prog .neq 25 y41 (.int .i64 1)) h) h) fun y42 h =>
  thenV (match y40 with | .bool t => some (if t then (.bool true) else y42, h) | _ => none) fun y43 h =>
  thenV (some (y43, h)) fun y44 h =>
  thenV (guardK (bOf y44 == some false) (some (y11, h)) h) fun y45 h =>
  thenV (guardK (bOf y44 == some false) (pu (bin Tryz.prog .neq 25 y45 (.int .i64 1)) h) h) fun y46 h =>
  thenV (match y44 with | .bool t => some (if t then (.bool true) else y46, h) | _ => none) fun y47 h =>
  thenV (some (y47, h)) fun y48 h =>
  thenV (guardK (bOf y48 == some false) (some (y3, h)) h) fun y49 h =>
  thenV (guardK (bOf y48 == some false) (pu (addP y1 3) h) h) fun y50 h =>
  thenV (guardK (bOf y48 == some false) (ld1 y50 h) h) fun y51 h =>
  thenV (guardK (bOf y48 == some false) (C 33 [y49, y51] h) h) fun y52 h =>
  thenV (guardK (bOf y48 == some false) (pu (bin Tryz.prog .neq 25 y52 (.int .i64 1)) h) h) fun y53 h =>
  thenV (match y48 with | .bool t => some (if t then (.bool true) else y53, h) | _ => none) fun y54 h =>
  thenV (some (y54, h)) fun y55 h =>
  thenV (guardK (bOf y55 == some false) (some (y3, h)) h) fun y56 h =>
  thenV (guardK (bOf y55 == some false) (pu (addP y1 4) h) h) fun y57 h =>
  thenV (guardK (bOf y55 == some false) (ldN 32 y57 h) h) fun y58 h =>
  thenV (guardK (bOf y55 == some false) (C 34 [y56, y58] h) h) fun y59 h =>
  thenV (guardK (bOf y55 == some false) (pu (bin Tryz.prog .neq 25 y59 (.int .i64 1)) h) h) fun y60 h =>
  thenV (match y55 with | .bool t => some (if t then (.bool true) else y60, h) | _ => none) fun y61 h =>
  thenV (some (y61, h)) fun y62 h =>
  thenV (guardK (bOf y62 == some false) (some (y3, h)) h) fun y63 h =>
  thenV (guardK (bOf y62 == some false) (pu (addP y1 4) h) h) fun y64 h =>
  thenV (guardK (bOf y62 == some false) (ldN 32 y64 h) h) fun y65 h =>
  thenV (guardK (bOf y62 == some false) (C 35 [y63, y65] h) h) fun y66 h =>
  thenV (guardK (bOf y62 == some false) (pu (bin Tryz.prog .neq 25 y66 (.int .i64 1)) h) h) fun y67 h =>
  thenV (match y62 with | .bool t => some (if t then (.bool true) else y67, h) | _ => none) fun y68 h =>
  thenV (some (y68, h)) fun y69 h =>
  thenV (guardK (bOf y69 == some false) (some (y3, h)) h) fun y70 h =>
  thenV (guardK (bOf y69 == some false) (C 36 [y70] h) h) fun y71 h =>
  thenV (guardK (bOf y69 == some false) (pu (bin Tryz.prog .neq 25 y71 (.int .i64 1)) h) h) fun y72 h =>
  thenV (match y69 with | .bool t => some (if t then (.bool true) else y72, h) | _ => none) fun y73 h =>
  thenV (some (y73, h)) fun y74 h =>
  thenV (guardK (bOf y74 == some false) (some (y3, h)) h) fun y75 h =>
  thenV (guardK (bOf y74 == some false) (pu (addP y1 36) h) h) fun y76 h =>
  thenV (guardK (bOf y74 == some false) (ldN 37 y76 h) h) fun y77 h =>
  thenV (guardK (bOf y74 == some false) (pu (addP y1 73) h) h) fun y78 h =>
  thenV (guardK (bOf y74 == some false) (ldN 2 y78 h) h) fun y79 h =>
  thenV (guardK (bOf y74 == some false) (C 16 [y77, y79] h) h) fun y80 h =>
  thenV (guardK (bOf y74 == some false) (pu (extractA y80 0) h) h) fun y81 h =>
  thenV (guardK (bOf y74 == some false) (pu (extractA y80 1) h) h) fun y82 h =>
  thenV (guardK (bOf y74 == some false) (C 17 [y75, y81, y82] h) h) fun y83 h =>
  thenV (guardK (bOf y74 == some false) (pu (bin Tryz.prog .neq 25 y83 (.int .i64 1)) h) h) fun y84 h =>
  thenV (match y74 with | .bool t => some (if t then (.bool true) else y84, h) | _ => none) fun y85 h =>
  (match y85 with
  | .bool true =>
  thenV (some ((.bool false), h)) fun y2_1 h =>
  some (y2_1, h)
  | .bool false =>
  thenV (some (y3, h)) fun y86 h =>
  thenV (C 27 [y86] h) fun y87 h =>
  thenV (pu (bin Tryz.prog .eql 52 y87 (.int .u64 0)) h) fun y88 h =>
  thenV (some (y88, h)) fun y89 h =>
  thenV (guardK (bOf y89 == some true) (some (y3, h)) h) fun y90 h =>
  thenV (guardK (bOf y89 == some true) (C 37 [y90] h) h) fun y91 h =>
  thenV (guardK (bOf y89 == some true) (pu (bin Tryz.prog .eql 3 y91 (.int .i64 0)) h) h) fun y92 h =>
  thenV (match y89 with | .bool t => some (if t then y92 else (.bool false), h) | _ => none) fun y93 h =>
  thenV (some (y93, h)) fun y94 h =>
  thenV (guardK (bOf y94 == some true) (some (y3, h)) h) fun y95 h =>
  thenV (guardK (bOf y94 == some true) (C 38 [y95] h) h) fun y96 h =>
  thenV (guardK (bOf y94 == some true) (pu (bin Tryz.prog .eql 3 y96 (.int .i64 0)) h) h) fun y97 h =>
  thenV (match y94 with | .bool t => some (if t then y97 else (.bool false), h) | _ => none) fun y98 h =>
  thenV (some (y98, h)) fun y99 h =>
  thenV (guardK (bOf y99 == some true) (some (y3, h)) h) fun y100 h =>
  thenV (guardK (bOf y99 == some true) (C 18 [y100] h) h) fun y101 h =>
  thenV (guardK (bOf y99 == some true) (pu (lenL y101) h) h) fun y102 h =>
  thenV (guardK (bOf y99 == some true) (pu (bin Tryz.prog .eql 3 y102 (.int .i64 0)) h) h) fun y103 h =>
  thenV (match y99 with | .bool t => some (if t then y103 else (.bool false), h) | _ => none) fun y104 h =>
  thenV (some (y104, h)) fun y105 h =>
  thenV (guardK (bOf y105 == some true) (some (y3, h)) h) fun y106 h =>
  thenV (guardK (bOf y105 == some true) (C 39 [y106] h) h) fun y107 h =>
  thenV (guardK (bOf y105 == some true) (pu (lenL y107) h) h) fun y108 h =>
  thenV (guardK (bOf y105 == some true) (pu (bin Tryz.prog .eql 3 y108 (.int .i64 0)) h) h) fun y109 h =>
  thenV (match y105 with | .bool t => some (if t then y109 else (.bool false), h) | _ => none) fun y110 h =>
  thenV (some (y110, h)) fun y111 h =>
  thenV (guardK (bOf y111 == some true) (some (y3, h)) h) fun y112 h =>
  thenV (guardK (bOf y111 == some true) (pu (addP y1 1) h) h) fun y113 h =>
  thenV (guardK (bOf y111 == some true) (ld1 y113 h) h) fun y114 h =>
  thenV (guardK (bOf y111 == some true) (C 40 [y112, y114] h) h) fun y115 h =>
  thenV (guardK (bOf y111 == some true) (pu (lenL y115) h) h) fun y116 h =>
  thenV (guardK (bOf y111 == some true) (pu (bin Tryz.prog .eql 3 y116 (.int .i64 0)) h) h) fun y117 h =>
  thenV (match y111 with | .bool t => some (if t then y117 else (.bool false), h) | _ => none) fun y118 h =>
  thenV (some (y118, h)) fun y119 h =>
  thenV (guardK (bOf y119 == some true) (some (y3, h)) h) fun y120 h =>
  thenV (guardK (bOf y119 == some true) (pu (addP y1 4) h) h) fun y121 h =>
  thenV (guardK (bOf y119 == some true) (ldN 32 y121 h) h) fun y122 h =>
  thenV (guardK (bOf y119 == some true) (C 23 [y120, y122] h) h) fun y123 h =>
  thenV (guardK (bOf y119 == some true) (pu (unA .not y123) h) h) fun y124 h =>
  thenV (match y119 with | .bool t => some (if t then y124 else (.bool false), h) | _ => none) fun y125 h =>
  thenV (some (y125, h)) fun y126 h =>
  thenV (guardK (bOf y126 == some true) (some (y3, h)) h) fun y127 h =>
  thenV (guardK (bOf y126 == some true) (pu (addP y1 4) h) h) fun y128 h =>
  thenV (guardK (bOf y126 == some true) (ldN 32 y128 h) h) fun y129 h =>
  thenV (guardK (bOf y126 == some true) (C 41 [y127, y129] h) h) fun y130 h =>
  thenV (guardK (bOf y126 == some true) (pu (unA .not y130) h) h) fun y131 h =>
  thenV (match y126 with | .bool t => some (if t then y131 else (.bool false), h) | _ => none) fun y132 h =>
  thenV (some (y132, h)) fun y133 h =>
  thenV (guardK (bOf y133 == some true) (C 12 [] h) h) fun y134 h =>
  thenV (match y133 with | .bool t => some (if t then y134 else (.bool false), h) | _ => none) fun y135 h =>
  thenV (some (y135, h)) fun y2_1 h =>
  some (y2_1, h)
  | _ => none)
  | _ => none)
theorem t6_eq (C : CallF) (x0 : Value) (h : Heap) : bodyK Tryz.prog C Tryz.f6 [x0] h = t6 C x0 h :=
  (bodyB_eq Tryz.prog C Tryz.f6 [x0] h (by kernel_rfl)).trans (by kernel_rfl)


noncomputable def t19p19_0 (C : CallF) (x : Nat → Value) (h : Heap) : Option (Ex × Env × Heap) :=
  thenV (box (x 1) h) fun y3 h =>
  thenV (newC [(.int .i64 0), (.int .i64 0), (.int .i64 0), (.int .i64 0), (.int .u8 0), (.int .u8 0), (.int .u8 0), (.int .u8 0), (.int .u8 0), (.int .u8 0), (.int .u8 0), (.int .u8 0), (.int .u8 0), (.int .u8 0), (.int .u8 0), (.int .u8 0), (.int .u8 0), (.int .u8 0), (.int .u8 0), (.int .u8 0), (.int .u8 0), (.int .u8 0), (.int .u8 0), (.int .u8 0), (.int .u8 0), (.int .u8 0), (.int .u8 0), (.int .u8 0), (.int .u8 0), (.int .u8 0), (.int .u8 0), (.int .u8 0), (.int .u8 0), (.int .u8 0), (.int .u8 0), (.int .u8 0), (.slice none 0 0)] h) fun y4 h =>
  thenV (newC [(.int .i64 0), (.slice none 0 0)] h) fun y5 h =>
  thenV (some ((.int .i64 0), h)) fun y6 h =>
  some (.normal, (mkF 56 (up x [(3, y3), (4, y4), (5, y5), (6, y6)])), h)
noncomputable def t19p19_10 (C : CallF) (x : Nat → Value) (h : Heap) : Option (Ex × Env × Heap) :=
  thenV (some ((x 0), h)) fun y14 h =>
  thenV (C 60 [y14] h) fun y15 h =>
  thenV (some (y15, h)) fun y7 h =>
  thenV (some (y7, h)) fun y16 h =>
  thenV (pu (bin Tryz.prog .neq 25 y16 (.int .i64 0)) h) fun y17 h =>
  (match y17 with
  | .bool true =>
  thenV (pu (bldR [(.int .i64 0), (.int .i64 0), (.int .i64 0), (.int .i64 0), (.int .u8 0), (.int .u8 0), (.int .u8 0), (.int .u8 0), (.int .u8 0), (.int .u8 0), (.int .u8 0), (.int .u8 0), (.int .u8 0), (.int .u8 0), (.int .u8 0), (.int .u8 0), (.int .u8 0), (.int .u8 0), (.int .u8 0), (.int .u8 0), (.int .u8 0), (.int .u8 0), (.int .u8 0), (.int .u8 0), (.int .u8 0), (.int .u8 0), (.int .u8 0), (.int .u8 0), (.int .u8 0), (.int .u8 0), (.int .u8 0), (.int .u8 0), (.int .u8 0), (.int .u8 0), (.int .u8 0), (.int .u8 0), (.slice none 0 0)] []) h) fun y18 h =>
  thenV (pu (bldR [(.int .i64 0), (.slice none 0 0)] []) h) fun y19 h =>
  thenV (some (y7, h)) fun y20 h =>
  thenV (stN 37 (x 4) y18 h) fun _ h =>
  thenV (stN 2 (x 5) y19 h) fun _ h =>
  thenV (some (y20, h)) fun y6 h =>
  some (.ret, (mkF 56 (up x [(6, y6), (7, y7), (14, y14), (15, y15), (16, y16), (17, y17), (18, y18), (19, y19), (20, y20)])), h)
  | .bool false =>
  some (.normal, (mkF 56 (up x [(7, y7), (14, y14), (15, y15), (16, y16), (17, y17)])), h)
  | _ => none)
theorem t19p19_0_eq (C : CallF) (x : Nat → Value) (h : Heap) : codeA Tryz.prog C (partOf Tryz.f19 [0]) (mkF 56 x) h = t19p19_0 C x h :=
  link_roundF (T := t19p19_0 C) (fun x h => by kernel_rfl) x h
theorem t19p19_10_eq (C : CallF) (x : Nat → Value) (h : Heap) : codeA Tryz.prog C (partOf Tryz.f19 [1, 0]) (mkF 56 x) h = t19p19_10 C x h :=
  link_roundF (T := t19p19_10 C) (fun x h => by kernel_rfl) x h
noncomputable def t37p37_0 (C : CallF) (x : Nat → Value) (h : Heap) : Option (Ex × Env × Heap) :=
  thenV (some ((.int .i64 0), h)) fun y2 h =>
  some (.normal, (mkF 24 (up x [(2, y2)])), h)
noncomputable def t37p37_10 (C : CallF) (x : Nat → Value) (h : Heap) : Option (Ex × Env × Heap) :=
  thenV (some ((x 0), h)) fun y6 h =>
  thenV (C 60 [y6] h) fun y7 h =>
  thenV (pu (bin Tryz.prog .neq 25 y7 (.int .i64 0)) h) fun y8 h =>
  (match y8 with
  | .bool true =>
  thenV (some ((.int .i64 0), h)) fun y2 h =>
  some (.ret, (mkF 24 (up x [(2, y2), (6, y6), (7, y7), (8, y8)])), h)
  | .bool false =>
  some (.normal, (mkF 24 (up x [(6, y6), (7, y7), (8, y8)])), h)
  | _ => none)
theorem t37p37_0_eq (C : CallF) (x : Nat → Value) (h : Heap) : codeA Tryz.prog C (partOf Tryz.f37 [0]) (mkF 24 x) h = t37p37_0 C x h :=
  link_roundF (T := t37p37_0 C) (fun x h => by kernel_rfl) x h
theorem t37p37_10_eq (C : CallF) (x : Nat → Value) (h : Heap) : codeA Tryz.prog C (partOf Tryz.f37 [1, 0]) (mkF 24 x) h = t37p37_10 C x h :=
  link_roundF (T := t37p37_10 C) (fun x h => by kernel_rfl) x h
end Go.Proofs.YtdhpgacmgebjdaaGreatDoor

