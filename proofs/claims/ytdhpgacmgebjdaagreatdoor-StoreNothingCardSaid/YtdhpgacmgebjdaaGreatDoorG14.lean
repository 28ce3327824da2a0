/-
  The field's tables: what build leaves, and its summary.
  Conditions: as each theorem states.
-/
import Derived.Test.YtdhpgacmgebjdaaGreatDoorG13
namespace Go.Proofs.YtdhpgacmgebjdaaGreatDoor
open Go Go.Abs
noncomputable def b232_2 (C : CallF) (i : Nat) (e : Env) (h : Heap) : Out := if i = 0 then (resultsA Tryz.prog Tryz.f232.results.toList) e h else (fun _ _ _ => none) i e h
/-- (*stolon/rs.Field).build -/
noncomputable def t232 (C : CallF) (x0 : Value) (h : Heap) : Out :=
  thenV (some ((.int .i64 1), h)) fun y2 h =>
  thenV (some ((.int .i64 0), h)) fun y3 h =>
  endL (iter (codeA Tryz.prog C (partOf Tryz.f232 [1, 1, 0, 0])) rounds (mkF 35 (up (bs [x0]) [(2, y2), (3, y3)])) h) (resultsA Tryz.prog Tryz.f232.results.toList) (b232_2 C)
noncomputable def t232l232_110 (C : CallF) (x : Nat → Value) (h : Heap) : Option (Ex × Env × Heap) :=
  thenV (some ((x 3), h)) fun y4 h =>
  thenV (pu (bin Tryz.prog .lss 3 y4 (.int .i64 255)) h) fun y5 h =>
  (match y5 with
  | .bool true =>
  thenV (some ((x 0), h)) fun y8 h =>
  thenV (some ((x 3), h)) fun y9 h =>
  thenV (some ((x 2), h)) fun y10 h =>
  thenV (cvI .u8 y10 h) fun y11 h =>
  thenV (pu (nilCheckA y8) h) fun y12 h =>
  thenV (pu (addP y12 3) h) fun y13 h =>
  thenV (pu (idxA 510 1 y13 y9) h) fun y14 h =>
  thenV (stN 1 y14 y11 h) fun _ h =>
  thenV (some ((x 0), h)) fun y15 h =>
  thenV (some ((x 3), h)) fun y16 h =>
  thenV (pu (bin Tryz.prog .add 3 y16 (.int .i64 255)) h) fun y17 h =>
  thenV (some ((x 2), h)) fun y18 h =>
  thenV (cvI .u8 y18 h) fun y19 h =>
  thenV (pu (nilCheckA y15) h) fun y20 h =>
  thenV (pu (addP y20 3) h) fun y21 h =>
  thenV (pu (idxA 510 1 y21 y17) h) fun y22 h =>
  thenV (stN 1 y22 y19 h) fun _ h =>
  thenV (some ((x 0), h)) fun y23 h =>
  thenV (some ((x 2), h)) fun y24 h =>
  thenV (some ((x 3), h)) fun y25 h =>
  thenV (pu (nilCheckA y23) h) fun y26 h =>
  thenV (pu (addP y26 513) h) fun y27 h =>
  thenV (pu (idxA 256 1 y27 y24) h) fun y28 h =>
  thenV (stN 1 y28 y25 h) fun _ h =>
  thenV (some ((x 2), h)) fun y29 h =>
  thenV (pu (bin Tryz.prog .shl 3 y29 (.int .u64 1)) h) fun y30 h =>
  thenV (some (y30, h)) fun y2 h =>
  thenV (some (y2, h)) fun y31 h =>
  thenV (pu (bin Tryz.prog .geq 3 y31 (.int .i64 256)) h) fun y32 h =>
  (match y32 with
  | .bool true =>
  thenV (some (y2, h)) fun y33 h =>
  thenV (pu (bin Tryz.prog .xor 3 y33 (.int .i64 285)) h) fun y34 h =>
  thenV (some (y34, h)) fun y2_1 h =>
  thenV (some ((x 3), h)) fun y6 h =>
  thenV (pu (bin Tryz.prog .add 3 y6 (.int .i64 1)) h) fun y7 h =>
  thenV (some (y7, h)) fun y3 h =>
  some (.normal, (mkF 35 (up x [(2, y2_1), (3, y3), (4, y4), (5, y5), (6, y6), (7, y7), (8, y8), (9, y9), (10, y10), (11, y11), (12, y12), (13, y13), (14, y14), (15, y15), (16, y16), (17, y17), (18, y18), (19, y19), (20, y20), (21, y21), (22, y22), (23, y23), (24, y24), (25, y25), (26, y26), (27, y27), (28, y28), (29, y29), (30, y30), (31, y31), (32, y32), (33, y33), (34, y34)])), h)
  | .bool false =>
  thenV (some ((x 3), h)) fun y6 h =>
  thenV (pu (bin Tryz.prog .add 3 y6 (.int .i64 1)) h) fun y7 h =>
  thenV (some (y7, h)) fun y3 h =>
  some (.normal, (mkF 35 (up x [(2, y2), (3, y3), (4, y4), (5, y5), (6, y6), (7, y7), (8, y8), (9, y9), (10, y10), (11, y11), (12, y12), (13, y13), (14, y14), (15, y15), (16, y16), (17, y17), (18, y18), (19, y19), (20, y20), (21, y21), (22, y22), (23, y23), (24, y24), (25, y25), (26, y26), (27, y27), (28, y28), (29, y29), (30, y30), (31, y31), (32, y32)])), h)
  | _ => none)
  | .bool false =>
  some (.exit 0, (mkF 35 (up x [(4, y4), (5, y5)])), h)
  | _ => none)
theorem t232_eq (C : CallF) (x0 : Value) (h : Heap) : bodyK Tryz.prog C Tryz.f232 [x0] h = t232 C x0 h :=
  (bodyB_eq Tryz.prog C Tryz.f232 [x0] h (by kernel_rfl)).trans (by kernel_rfl)
theorem t232l232_110_eq (C : CallF) (x : Nat → Value) (h : Heap) : codeA Tryz.prog C (partOf Tryz.f232 [1, 1, 0, 0]) (mkF 35 x) h = t232l232_110 C x h :=
  link_roundF (T := t232l232_110 C) (fun x h => by kernel_rfl) x h


attribute [local congr] thenV_congr
noncomputable def allB (f : Nat → Bool) (n : Nat) : Bool := Nat.rec (motive := fun _ => Bool) true (fun k ih => match f k with | true => ih | false => false) n
theorem allB_spec (f : Nat → Bool) (n : Nat) : allB f n = true → ∀ k, k < n → f k = true := by
  induction n with
  | zero => intro _ k hk; exact absurd hk (Nat.not_lt_zero k)
  | succ n ih =>
    intro e k hk
    have e : (match f n with | true => allB f n | false => false) = true := e
    cases hn : f n with
    | false => rw [hn] at e; cases e
    | true =>
      rw [hn] at e
      by_cases h : k = n
      · subst h; exact hn
      · exact ih e k (by omega)
def stepX (x : Nat) : Nat := if 256 ≤ 2 * x then Nat.xor (2 * x) 285 else 2 * x
def isV (o : Option Value) (n : Nat) : Bool :=
  match o with
  | some v => match isInt v with
    | some m => Nat.beq m n
    | none => false
  | none => false
theorem isV_eq {o : Option Value} {n : Nat} (h : isV o n = true) : o = some (i64n n) := by
  unfold isV at h
  split at h
  · split at h
    · rename_i m hm
      have := Nat.eq_of_beq_eq_true h
      subst this
      rw [isInt_eq hm]
    · cases h
  · cases h
theorem steps_ok : allB (fun x => isV (bin Tryz.prog .shl 3 (i64n x) (.int .u64 1)) (2 * x) && (isV (bin Tryz.prog .xor 3 (i64n (2 * x)) (.int .i64 285)) (Nat.xor (2 * x) 285) && (Nat.blt (stepX x) 256 && (Nat.ble x 0 || Nat.blt 0 (stepX x))))) 256 = true := by kernel_rfl
theorem step_ok {x : Nat} (h : x < 256) : bin Tryz.prog .shl 3 (i64n x) (.int .u64 1) = some (i64n (2 * x)) ∧ bin Tryz.prog .xor 3 (i64n (2 * x)) (.int .i64 285) = some (i64n (Nat.xor (2 * x) 285)) ∧ stepX x < 256 ∧ (0 < x → 0 < stepX x) := by
  have := allB_spec _ _ steps_ok x h
  simp only [Bool.and_eq_true, Bool.or_eq_true] at this
  obtain ⟨h1, h2, h3, h4⟩ := this
  refine ⟨isV_eq h1, isV_eq h2, by simpa using h3, fun hx => ?_⟩
  rcases h4 with h4 | h4
  · have := Nat.le_of_ble_eq_true h4; omega
  · simpa using h4
def xs : Nat → Nat
  | 0 => 1
  | n + 1 => stepX (xs n)
theorem xs_lt : ∀ n, xs n < 256 ∧ 0 < xs n
  | 0 => ⟨by decide, by decide⟩
  | n + 1 => by
    obtain ⟨h1, h2⟩ := xs_lt n
    obtain ⟨_, _, h3, h4⟩ := step_ok h1
    exact ⟨h3, h4 h2⟩
def expL : Nat → List Nat
  | 0 => List.replicate 510 0
  | n + 1 => ((expL n).set n (xs n)).set (n + 255) (xs n)
def logL : Nat → List Nat
  | 0 => List.replicate 256 0
  | n + 1 => (logL n).set (xs n) n
theorem expL_len : ∀ n, (expL n).length = 510
  | 0 => List.length_replicate
  | n + 1 => by rw [expL, List.length_set, List.length_set, expL_len n]
theorem logL_len : ∀ n, (logL n).length = 256
  | 0 => List.length_replicate
  | n + 1 => by rw [logL, List.length_set, logL_len n]
/-- A field's cells. -/
def fC (c : List Value) (e l : List Nat) : List Value := c ++ (e.map u8 ++ l.map i64n)
theorem setR {A B : List Value} {x : Value} : ∀ (o i : Nat), A.length = o → (A ++ B).set (o + i) x = A ++ B.set i x := by
  intro o i h
  subst h
  induction A with
  | nil => simp
  | cons a A ih => rw [List.cons_append, List.length_cons, show A.length + 1 + i = (A.length + i) + 1 by omega, List.set_cons_succ, ih, List.cons_append]
theorem setL {A B : List Value} {x : Value} : ∀ (i : Nat), i < A.length → (A ++ B).set i x = A.set i x ++ B := by
  induction A with
  | nil => intro i h; cases h
  | cons a A ih =>
    intro i h
    cases i with
    | zero => rfl
    | succ i => rw [List.cons_append, List.set_cons_succ, ih i (by simpa using h), List.set_cons_succ, List.cons_append]
theorem fC_exp {c : List Value} {e l : List Nat} {i x : Nat} (hc : c.length = 3) (hi : i < e.length) : (fC c e l).set (3 + i) (u8 x) = fC c (e.set i x) l := by
  unfold fC
  rw [setR 3 i hc, setL i (by rw [List.length_map]; exact hi), ← List.map_set]
theorem fC_log {c : List Value} {e l : List Nat} {i x : Nat} (hc : c.length = 3) (he : e.length = 510) : (fC c e l).set (513 + i) (i64n x) = fC c e (l.set i x) := by
  unfold fC
  rw [show 513 + i = 3 + (510 + i) by omega, setR 3 _ hc, setR 510 i (by rw [List.length_map]; exact he), ← List.map_set]
theorem fC_len {c : List Value} {e l : List Nat} (hc : c.length = 3) (he : e.length = 510) (hl : l.length = 256) : (fC c e l).length = 769 := by
  unfold fC
  rw [List.length_append, List.length_append, List.length_map, List.length_map, hc, he, hl]
theorem byte_of {x : Nat} (h : x < 256) (g : Heap) : cvI .u8 (i64n x) g = some (u8 x, g) := by
  rw [cvI_int, wrap_u8 (by omega) (by omega)]
theorem build_loop {h : Heap} {p : Nat} {c : List Value} (hc : c.length = 3) (hp : h.get p = some (fC c (expL 0) (logL 0))) (h0 : h.n0 ≤ p) (C : CallF) {x : Nat → Value} (x0 : x 0 = ptr p 0) (x2 : x 2 = i64n 1) (x3 : x 3 = i64n 0) :
    Fin 35 (fun ex y g => ex = .exit 0 ∧ Kept h g (· = p) ∧ g.get p = some (fC c (expL 255) (logL 255))) (iter (codeA Tryz.prog C (partOf Tryz.f232 [1, 1, 0, 0])) rounds (mkF 35 x) h) := by
  refine loop_fin (t232l232_110_eq C) (Inv := fun k y g => ∃ i, i + k = 255 ∧ y 0 = ptr p 0 ∧ y 2 = i64n (xs i) ∧ y 3 = i64n i ∧ Kept h g (· = p) ∧ g.get p = some (fC c (expL i) (logL i))) ?_ 255 (by have : rounds = 18446744073709551616 := rfl; omega) ⟨0, rfl, x0, x2, x3, Kept.refl _ _, hp⟩
  rintro k y g ⟨i, hik, y0, y2, y3, K, gp⟩
  unfold t232l232_110
  have ls : bin Tryz.prog .lss 3 (i64n i) (.int .i64 255) = some (.bool (decide (i < 255))) := lss3 i 255
  simp -implicitDefEqProofs only [y3, ls, thenV_some, pu_some]
  by_cases hi : i < 255
  · obtain ⟨hx, hx0⟩ := xs_lt i
    obtain ⟨q1, q2, q3, q4⟩ := step_ok hx
    have n0p : g.n0 ≤ p := by rw [K.n0]; exact h0
    have le : (expL i).length = 510 := expL_len i
    have ll : (logL i).length = 256 := logL_len i
    obtain ⟨g1, e1, k1, t1, m1, _⟩ := stored (o := 3 + i) (v := u8 (xs i)) gp n0p (by rw [fC_len hc le ll]; omega) rfl rfl
    rw [fC_exp hc (by omega)] at t1
    obtain ⟨g2, e2, k2, t2, m2, _⟩ := stored (o := 3 + (i + 255)) (v := u8 (xs i)) t1 m1 (by rw [fC_len hc (by rw [List.length_set, le]) ll]; omega) rfl rfl
    rw [fC_exp hc (by rw [List.length_set]; omega)] at t2
    obtain ⟨g3, e3, k3, t3, m3, _⟩ := stored (o := 513 + xs i) (v := i64n i) t2 m2 (by rw [fC_len hc (by rw [List.length_set, List.length_set, le]) ll]; omega) rfl rfl
    rw [fC_log hc (by rw [List.length_set, List.length_set, le])] at t3
    have K3 : Kept h g3 (· = p) := ((K.trans k1).trans k2).trans k3
    have ad : bin Tryz.prog .add 3 (i64n i) (.int .i64 255) = some (i64n (i + 255)) := addc (c := 255) (by omega)
    have i1 : idxA 510 1 (ptr p 3) (i64n i) = some (ptr p (3 + i)) := idxN (by omega)
    have i2 : idxA 510 1 (ptr p 3) (i64n (i + 255)) = some (ptr p (3 + (i + 255))) := idxN (by omega)
    have i3 : idxA 256 1 (ptr p 513) (i64n (xs i)) = some (ptr p (513 + xs i)) := idxN hx
    have gq : bin Tryz.prog .geq 3 (i64n (2 * xs i)) (.int .i64 256) = some (.bool (decide (256 ≤ 2 * xs i))) := by
      rw [bin_geq]
      refine congrArg (fun b => some (Value.bool b)) (decide_eq_decide.2 ?_)
      omega
    simp -implicitDefEqProofs only [decide_eq_true hi, y0, y2, y3, byte_of hx, nilCheck_ptr, addP_ptr, Nat.zero_add, i1, e1, ad, i2, e2, i3, e3, q1, gq, add31 (show i + 1 ≤ 9223372036854775807 by omega), thenV_some, pu_some]
    by_cases hb : 256 ≤ 2 * xs i
    · simp -implicitDefEqProofs only [decide_eq_true hb, q2, thenV_some, pu_some]
      refine Rnd.next (k - 1) (by omega) ⟨i + 1, by omega, y0, ?_, rfl, K3, t3⟩
      show i64n _ = i64n (stepX (xs i))
      unfold stepX
      rw [if_pos hb]
    · simp -implicitDefEqProofs only [decide_eq_false hb, thenV_some, pu_some]
      refine Rnd.next (k - 1) (by omega) ⟨i + 1, by omega, y0, ?_, rfl, K3, t3⟩
      show i64n _ = i64n (stepX (xs i))
      unfold stepX
      rw [if_neg hb]
  · have : i = 255 := by omega
    subst this
    simp -implicitDefEqProofs only [decide_eq_false hi, thenV_some, pu_some]
    exact Rnd.out 0 ⟨rfl, K, gp⟩
def expV : List Nat := [1, 2, 4, 8, 16, 32, 64, 128, 29, 58, 116, 232, 205, 135, 19, 38, 76, 152, 45, 90, 180, 117, 234, 201, 143, 3, 6, 12, 24, 48, 96, 192, 157, 39, 78, 156, 37, 74, 148, 53, 106, 212, 181, 119, 238, 193, 159, 35, 70, 140, 5, 10, 20, 40, 80, 160, 93, 186, 105, 210, 185, 111, 222, 161, 95, 190, 97, 194, 153, 47, 94, 188, 101, 202, 137, 15, 30, 60, 120, 240, 253, 231, 211, 187, 107, 214, 177, 127, 254, 225, 223, 163, 91, 182, 113, 226, 217, 175, 67, 134, 17, 34, 68, 136, 13, 26, 52, 104, 208, 189, 103, 206, 129, 31, 62, 124, 248, 237, 199, 147, 59, 118, 236, 197, 151, 51, 102, 204, 133, 23, 46, 92, 184, 109, 218, 169, 79, 158, 33, 66, 132, 21, 42, 84, 168, 77, 154, 41, 82, 164, 85, 170, 73, 146, 57, 114, 228, 213, 183, 115, 230, 209, 191, 99, 198, 145, 63, 126, 252, 229, 215, 179, 123, 246, 241, 255, 227, 219, 171, 75, 150, 49, 98, 196, 149, 55, 110, 220, 165, 87, 174, 65, 130, 25, 50, 100, 200, 141, 7, 14, 28, 56, 112, 224, 221, 167, 83, 166, 81, 162, 89, 178, 121, 242, 249, 239, 195, 155, 43, 86, 172, 69, 138, 9, 18, 36, 72, 144, 61, 122, 244, 245, 247, 243, 251, 235, 203, 139, 11, 22, 44, 88, 176, 125, 250, 233, 207, 131, 27, 54, 108, 216, 173, 71, 142, 1, 2, 4, 8, 16, 32, 64, 128, 29, 58, 116, 232, 205, 135, 19, 38, 76, 152, 45, 90, 180, 117, 234, 201, 143, 3, 6, 12, 24, 48, 96, 192, 157, 39, 78, 156, 37, 74, 148, 53, 106, 212, 181, 119, 238, 193, 159, 35, 70, 140, 5, 10, 20, 40, 80, 160, 93, 186, 105, 210, 185, 111, 222, 161, 95, 190, 97, 194, 153, 47, 94, 188, 101, 202, 137, 15, 30, 60, 120, 240, 253, 231, 211, 187, 107, 214, 177, 127, 254, 225, 223, 163, 91, 182, 113, 226, 217, 175, 67, 134, 17, 34, 68, 136, 13, 26, 52, 104, 208, 189, 103, 206, 129, 31, 62, 124, 248, 237, 199, 147, 59, 118, 236, 197, 151, 51, 102, 204, 133, 23, 46, 92, 184, 109, 218, 169, 79, 158, 33, 66, 132, 21, 42, 84, 168, 77, 154, 41, 82, 164, 85, 170, 73, 146, 57, 114, 228, 213, 183, 115, 230, 209, 191, 99, 198, 145, 63, 126, 252, 229, 215, 179, 123, 246, 241, 255, 227, 219, 171, 75, 150, 49, 98, 196, 149, 55, 110, 220, 165, 87, 174, 65, 130, 25, 50, 100, 200, 141, 7, 14, 28, 56, 112, 224, 221, 167, 83, 166, 81, 162, 89, 178, 121, 242, 249, 239, 195, 155, 43, 86, 172, 69, 138, 9, 18, 36, 72, 144, 61, 122, 244, 245, 247, 243, 251, 235, 203, 139, 11, 22, 44, 88, 176, 125, 250, 233, 207, 131, 27, 54, 108, 216, 173, 71, 142]
def logV : List Nat := [0, 0, 1, 25, 2, 50, 26, 198, 3, 223, 51, 238, 27, 104, 199, 75, 4, 100, 224, 14, 52, 141, 239, 129, 28, 193, 105, 248, 200, 8, 76, 113, 5, 138, 101, 47, 225, 36, 15, 33, 53, 147, 142, 218, 240, 18, 130, 69, 29, 181, 194, 125, 106, 39, 249, 185, 201, 154, 9, 120, 77, 228, 114, 166, 6, 191, 139, 98, 102, 221, 48, 253, 226, 152, 37, 179, 16, 145, 34, 136, 54, 208, 148, 206, 143, 150, 219, 189, 241, 210, 19, 92, 131, 56, 70, 64, 30, 66, 182, 163, 195, 72, 126, 110, 107, 58, 40, 84, 250, 133, 186, 61, 202, 94, 155, 159, 10, 21, 121, 43, 78, 212, 229, 172, 115, 243, 167, 87, 7, 112, 192, 247, 140, 128, 99, 13, 103, 74, 222, 237, 49, 197, 254, 24, 227, 165, 153, 119, 38, 184, 180, 124, 17, 68, 146, 217, 35, 32, 137, 46, 55, 63, 209, 91, 149, 188, 207, 205, 144, 135, 151, 178, 220, 252, 190, 97, 242, 86, 211, 171, 20, 42, 93, 158, 132, 60, 57, 83, 71, 109, 65, 162, 31, 45, 67, 216, 183, 123, 164, 118, 196, 23, 73, 236, 127, 12, 111, 246, 108, 161, 59, 82, 41, 157, 85, 170, 251, 96, 134, 177, 187, 204, 62, 90, 203, 89, 95, 176, 156, 169, 160, 81, 11, 245, 22, 235, 122, 117, 44, 215, 79, 174, 213, 233, 230, 231, 173, 232, 116, 214, 244, 234, 168, 80, 88, 175]
theorem expV_eq : expL 255 = expV := by kernel_rfl
theorem logV_eq : logL 255 = logV := by kernel_rfl
theorem results232 : Tryz.f232.results.toList = [] := by kernel_rfl
theorem build_text {h : Heap} {p : Nat} {c : List Value} (hc : c.length = 3) (hp : h.get p = some (fC c (expL 0) (logL 0))) (h0 : h.n0 ≤ p) (C : CallF) :
    ∃ h', bodyK Tryz.prog C Tryz.f232 [ptr p 0] h = some (.tuple #[], h') ∧ Kept h h' (· = p) ∧ h'.get p = some (fC c expV logV) := by
  have key : ∃ o : Out, t232 C (ptr p 0) h = o ∧ ∃ h', o = some (.tuple #[], h') ∧ Kept h h' (· = p) ∧ h'.get p = some (fC c expV logV) := by
    refine ⟨_, rfl, ?_⟩
    unfold t232
    simp -implicitDefEqProofs only [thenV_some]
    refine endL_fin (Q := fun o : Out => ∃ h', o = some (.tuple #[], h') ∧ Kept h h' (· = p) ∧ h'.get p = some (fC c expV logV)) (build_loop hc hp h0 C rfl rfl rfl) ?_
    rintro _ y g ⟨rfl, K, G⟩
    rw [expV_eq, logV_eq] at G
    simp -implicitDefEqProofs only [endL_exit, b232_2, if_true]
    refine ⟨g, ?_, K, G⟩
    rw [results232]
    rfl
  obtain ⟨o, e, h', e', k, g⟩ := key
  exact ⟨h', (t232_eq _ _ _).trans (e.trans e'), k, g⟩
/-! The summary. -/
def z8s : Nat → List Value → Option (List Value)
  | 0, l => some l
  | n + 1, v :: l => match v with
    | .int .u8 (.ofNat 0) => z8s n l
    | _ => none
  | _ + 1, [] => none
theorem z8s_eq : ∀ {n : Nat} {l r : List Value}, z8s n l = some r → l = (List.replicate n 0).map u8 ++ r
  | 0, l, r, h => by cases h; rfl
  | n + 1, [], r, h => by cases h
  | n + 1, v :: l, r, h => by
    unfold z8s at h
    split at h
    · rw [List.replicate_succ, List.map_cons, List.cons_append, ← z8s_eq h]; rfl
    · cases h
def z64s : Nat → List Value → Bool
  | 0, [] => true
  | n + 1, v :: l => match v with
    | .int .i64 (.ofNat 0) => z64s n l
    | _ => false
  | _, _ => false
theorem z64s_eq : ∀ {n : Nat} {l : List Value}, z64s n l = true → l = (List.replicate n 0).map i64n
  | 0, [], _ => rfl
  | 0, _ :: _, h => by cases h
  | n + 1, [], h => by cases h
  | n + 1, v :: l, h => by
    unfold z64s at h
    split at h
    · rw [List.replicate_succ, List.map_cons, ← z64s_eq h]; rfl
    · cases h
noncomputable def s232 (args : List Value) (h : Heap) : Out :=
  match args with
  | [.pointer (some ⟨p, 0, none⟩)] => match Nat.ble h.n0 p with
    | true => match h.get p with
      | some (.int ka a :: .int kb b :: .int kc c :: r) => match z8s 510 r with
        | some r' => match z64s 256 r' with
          | true => some (.tuple #[], h.set p (fC [.int ka a, .int kb b, .int kc c] expV logV))
          | false => none
        | none => none
      | _ => none
    | false => none
  | _ => none
theorem is232 : IsFn Tryz.prog 232 Tryz.f232 := ⟨by kernel_rfl, by kernel_rfl, by kernel_rfl, by kernel_rfl⟩
theorem flat_map {f : Nat → Value} (hf : ∀ n, flat (f n) = true) (l : List Nat) : (l.map f).all flat = true := by
  rw [List.all_eq_true]
  intro x hx
  obtain ⟨n, _, rfl⟩ := List.mem_map.1 hx
  exact hf n
theorem fC_flat {ka kb kc : IntKind} {a b c : Int} (e l : List Nat) : flatAll (fC [.int ka a, .int kb b, .int kc c] e l) = true := by
  unfold fC flatAll
  rw [List.all_append, List.all_append, flat_map (fun _ => rfl), flat_map (fun _ => rfl)]
  rfl
theorem c232 : Contract Tryz.prog 232 s232 := by
  have key : ∀ args h v h', s232 args h = some (v, h') → ∃ p ka a kb b kc c, args = [ptr p 0] ∧ h.n0 ≤ p ∧ h.get p = some (fC [.int ka a, .int kb b, .int kc c] (expL 0) (logL 0)) ∧ v = .tuple #[] ∧ h' = h.set p (fC [.int ka a, .int kb b, .int kc c] expV logV) := by
    intro args h v h' e
    unfold s232 at e
    split at e
    · rename_i p
      split at e
      · rename_i hc
        split at e
        · rename_i ka a kb b kc c r hk
          split at e
          · rename_i r' hr
            split at e
            · rename_i hz
              cases e
              refine ⟨p, ka, a, kb, b, kc, c, rfl, Nat.le_of_ble_eq_true hc, ?_, rfl, rfl⟩
              rw [hk, z8s_eq hr, z64s_eq hz]
              rfl
            · cases e
          · cases e
        · cases e
      · cases e
    · cases e
  refine .mk' (C := callL []) (callL_sound [] (by simp)) mixed is232 ?_ ?_
  · intro args h v h' e
    obtain ⟨p, ka, a, kb, b, kc, c, rfl, h0, hp, rfl, rfl⟩ := key _ _ _ _ e
    refine ⟨⟨Nat.le_refl _, rfl, rfl⟩, fun _ hb => ⟨rfl, ?_⟩⟩
    exact HeapBd.put (x := some _) hb h0 (h.lt_of_get hp) fun k e => by cases e; exact bdL_flat (fC_flat _ _)
  · intro args h v h' e _ hh
    obtain ⟨p, ka, a, kb, b, kc, c, rfl, h0, hp, rfl, rfl⟩ := key _ _ _ _ e
    obtain ⟨g, h1, h2, h3⟩ := build_text rfl hp h0 (callL [])
    refine ⟨_, g, id, h1, .sub rfl (HeapBd.put (x := some _) hh h0 (h.lt_of_get hp) fun k e => by cases e; exact bdL_flat (fC_flat _ _)) (fun d q _ hb => ?_)⟩
    by_cases hbp : d = p
    · subst hbp
      rw [Heap.getB_set_same h0 hp] at hb
      cases hb
      exact Heap.getB_of_get _ h3
    · rw [Heap.getB_set_other h0 (h.lt_of_get hp) _ hbp] at hb
      exact (h2.getB d (h.lt_of_getB hb) hbp).trans hb
end Go.Proofs.YtdhpgacmgebjdaaGreatDoor

