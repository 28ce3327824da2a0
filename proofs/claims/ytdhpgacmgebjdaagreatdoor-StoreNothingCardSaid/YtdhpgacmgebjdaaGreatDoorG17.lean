/-
  Printed by a program: the texts of the Reader's take and number, and of Clone, linked to the program.
  Conditions: as each theorem states.
  The store: the calls of the known run; take, number and Clone as summaries.
  Conditions: as each theorem states.
  The store: faster summaries for the closed run: bytes of a long row are found by steps of 128, and rows of zeros are known.
  Conditions: as each theorem states.
  Printed by a program: texts of functions without loops, linked to the program.
  Conditions: as each theorem states.
-/
import Derived.Test.YtdhpgacmgebjdaaGreatDoorG16
namespace Go.Proofs.YtdhpgacmgebjdaaGreatDoor
open Go Go.Abs
/-- (*stolon/digest.Reader).take -/
noncomputable def t209 (C : CallF) (x0 x1 : Value) (h : Heap) : Out :=
  thenV (some ((.slice none 0 0), h)) fun _y4 h =>
  thenV (some (x0, h)) fun y6 h =>
  thenV (pu (bin Tryz.prog .eql 210 y6 (.pointer none)) h) fun y7 h =>
  thenV (some (y7, h)) fun y8 h =>
  thenV (guardK (bOf y8 == some false) (some (x0, h)) h) fun y9 h =>
  thenV (guardK (bOf y8 == some false) (pu (nilCheckA y9) h) h) fun y10 h =>
  thenV (guardK (bOf y8 == some false) (pu (addP y10 1) h) h) fun y11 h =>
  thenV (guardK (bOf y8 == some false) (ld1 y11 h) h) fun y12 h =>
  thenV (guardK (bOf y8 == some false) (pu (bin Tryz.prog .neq 25 y12 (.int .i64 0)) h) h) fun y13 h =>
  thenV (match y8 with | .bool t => some (if t then (.bool true) else y13, h) | _ => none) fun y14 h =>
  (match y14 with
  | .bool true =>
  thenV (some ((.slice none 0 0), h)) fun y4_1 h =>
  some (y4_1, h)
  | .bool false =>
  thenV (some (x1, h)) fun y16 h =>
  thenV (pu (bin Tryz.prog .lss 3 y16 (.int .i64 0)) h) fun y17 h =>
  thenV (some (y17, h)) fun y15 h =>
  (match y15 with
  | .bool true =>
  thenV (some (x0, h)) fun y18 h =>
  thenV (pu (nilCheckA y18) h) fun y19 h =>
  thenV (pu (addP y19 1) h) fun y20 h =>
  thenV (stN 1 y20 (.int .i64 2) h) fun _ h =>
  thenV (some ((.slice none 0 0), h)) fun y4_1 h =>
  some (y4_1, h)
  | .bool false =>
  thenV (some (x1, h)) fun y22 h =>
  thenV (some (x0, h)) fun y23 h =>
  thenV (pu (nilCheckA y23) h) fun y24 h =>
  thenV (pu (addP y24 0) h) fun y25 h =>
  thenV (ld1 y25 h) fun y26 h =>
  thenV (pu (lenL y26) h) fun y27 h =>
  thenV (pu (bin Tryz.prog .gtr 3 y22 y27) h) fun y28 h =>
  thenV (some (y28, h)) fun y21 h =>
  (match y21 with
  | .bool true =>
  thenV (some (x0, h)) fun y29 h =>
  thenV (pu (nilCheckA y29) h) fun y30 h =>
  thenV (pu (addP y30 1) h) fun y31 h =>
  thenV (stN 1 y31 (.int .i64 4) h) fun _ h =>
  thenV (some ((.slice none 0 0), h)) fun y4_1 h =>
  some (y4_1, h)
  | .bool false =>
  thenV (some (x0, h)) fun y32 h =>
  thenV (pu (nilCheckA y32) h) fun y33 h =>
  thenV (pu (addP y33 0) h) fun y34 h =>
  thenV (ld1 y34 h) fun y35 h =>
  thenV (some (x1, h)) fun y36 h =>
  thenV (pu (slR 1 y35 none (some y36) none) h) fun y37 h =>
  thenV (some (y37, h)) fun y5 h =>
  thenV (some (x0, h)) fun y38 h =>
  thenV (some (x0, h)) fun y39 h =>
  thenV (pu (nilCheckA y39) h) fun y40 h =>
  thenV (pu (addP y40 0) h) fun y41 h =>
  thenV (ld1 y41 h) fun y42 h =>
  thenV (some (x1, h)) fun y43 h =>
  thenV (pu (slR 1 y42 (some y43) none none) h) fun y44 h =>
  thenV (pu (nilCheckA y38) h) fun y45 h =>
  thenV (pu (addP y45 0) h) fun y46 h =>
  thenV (stN 1 y46 y44 h) fun _ h =>
  thenV (some (y5, h)) fun y47 h =>
  thenV (some (y47, h)) fun y4_1 h =>
  some (y4_1, h)
  | _ => none)
  | _ => none)
  | _ => none)
theorem t209_eq (C : CallF) (x0 x1 : Value) (h : Heap) : bodyK Tryz.prog C Tryz.f209 [x0, x1] h = t209 C x0 x1 h :=
  (bodyB_eq Tryz.prog C Tryz.f209 [x0, x1] h (by kernel_rfl)).trans (by kernel_rfl)


noncomputable def k172_2 (C : CallF) (e : Env) (h : Heap) : Out := codeK Tryz.prog C (partOf Tryz.f172 [1, 1, 1]) e h (resultsA Tryz.prog Tryz.f172.results.toList) (resultsA Tryz.prog Tryz.f172.results.toList) (fun _ _ _ => none)
noncomputable def b172_4 (C : CallF) (i : Nat) (e : Env) (h : Heap) : Out := if i = 0 then (k172_2 C) e h else (fun _ _ _ => none) i e h
/-- (*stolon/digest.Reader).number -/
noncomputable def t172 (C : CallF) (x0 x1 : Value) (h : Heap) : Out :=
  thenV (some ((.int .u64 0), h)) fun y4 h =>
  thenV (some ((.int .u64 0), h)) fun y5 h =>
  thenV (some (x0, h)) fun y8 h =>
  thenV (some (x1, h)) fun y9 h =>
  thenV (C 209 [y8, y9] h) fun y10 h =>
  thenV (pu (lenL y10) h) fun y11 h =>
  thenV (some ((.int .i64 0), h)) fun y12 h =>
  endL (iter (codeA Tryz.prog C (partOf Tryz.f172 [1, 1, 0, 1, 0, 0])) rounds (mkF 23 (up (bs [x0, x1]) [(4, y4), (5, y5), (8, y8), (9, y9), (10, y10), (11, y11), (12, y12)])) h) (resultsA Tryz.prog Tryz.f172.results.toList) (b172_4 C)
noncomputable def t172k172_2 (C : CallF) (x : Nat → Value) (h : Heap) : Out :=
  thenV (some ((x 5), h)) fun y22 h =>
  thenV (some (y22, h)) fun y4 h =>
  some (y4, h)
noncomputable def t172l172_11010 (C : CallF) (x : Nat → Value) (h : Heap) : Option (Ex × Env × Heap) :=
  thenV (pu (bin Tryz.prog .lss 3 (x 12) (x 11)) h) fun y13 h =>
  (match y13 with
  | .bool true =>
  thenV (pu (idxS 1 (x 10) (x 12)) h) fun y14 h =>
  thenV (ld1 y14 h) fun y15 h =>
  thenV (some (y15, h)) fun y7 h =>
  thenV (some ((x 5), h)) fun y16 h =>
  thenV (pu (bin Tryz.prog .shl 52 y16 (.int .u64 8)) h) fun y17 h =>
  thenV (some (y7, h)) fun y18 h =>
  thenV (cvI .u64 y18 h) fun y19 h =>
  thenV (pu (bin Tryz.prog .or 52 y17 y19) h) fun y20 h =>
  thenV (some (y20, h)) fun y5 h =>
  thenV (pu (bin Tryz.prog .add 3 (x 12) (.int .i64 1)) h) fun y21 h =>
  thenV (some (y21, h)) fun y12 h =>
  some (.normal, (mkF 23 (up x [(5, y5), (7, y7), (12, y12), (13, y13), (14, y14), (15, y15), (16, y16), (17, y17), (18, y18), (19, y19), (20, y20), (21, y21)])), h)
  | .bool false =>
  some (.exit 0, (mkF 23 (up x [(13, y13)])), h)
  | _ => none)
theorem t172_eq (C : CallF) (x0 x1 : Value) (h : Heap) : bodyK Tryz.prog C Tryz.f172 [x0, x1] h = t172 C x0 x1 h :=
  (bodyB_eq Tryz.prog C Tryz.f172 [x0, x1] h (by kernel_rfl)).trans (by kernel_rfl)
theorem t172k172_2_eq (C : CallF) (x : Nat → Value) (h : Heap) : k172_2 C (mkF 23 x) h = t172k172_2 C x h :=
  link_partF (b := (partOf Tryz.f172 [1, 1, 1])) (kE := (resultsA Tryz.prog Tryz.f172.results.toList)) (rE := (resultsA Tryz.prog Tryz.f172.results.toList)) (xE := (fun _ _ _ => none)) (T := t172k172_2 C) (fun x h => by kernel_rfl) x h
theorem t172l172_11010_eq (C : CallF) (x : Nat → Value) (h : Heap) : codeA Tryz.prog C (partOf Tryz.f172 [1, 1, 0, 1, 0, 0]) (mkF 23 x) h = t172l172_11010 C x h :=
  link_roundF (T := t172l172_11010 C) (fun x h => by kernel_rfl) x h


/-- slices.Clone[[]byte,byte] -/
noncomputable def t171 (C : CallF) (x0 : Value) (h : Heap) : Out :=
  thenV (some ((.slice none 0 0), h)) fun _y2 h =>
  thenV (some (x0, h)) fun y3 h =>
  thenV (pu (bin Tryz.prog .eql 22 y3 (.slice none 0 0)) h) fun y4 h =>
  (match y4 with
  | .bool true =>
  thenV (some ((.slice none 0 0), h)) fun y2_1 h =>
  some (y2_1, h)
  | .bool false =>
  thenV (bslR 1 (.int .u8 0) 0 [] h) fun y5 h =>
  thenV (some (x0, h)) fun y6 h =>
  thenV (appendA 1 1 y5 y6 h) fun y7 h =>
  thenV (some (y7, h)) fun y2_1 h =>
  some (y2_1, h)
  | _ => none)
theorem t171_eq (C : CallF) (x0 : Value) (h : Heap) : bodyK Tryz.prog C Tryz.f171 [x0] h = t171 C x0 h :=
  (bodyB_eq Tryz.prog C Tryz.f171 [x0] h (by kernel_rfl)).trans (by kernel_rfl)


end Go.Proofs.YtdhpgacmgebjdaaGreatDoor

namespace Go.Proofs.YtdhpgacmgebjdaaGreatDoor
open Go Go.Abs
noncomputable section
theorem prog_mixed : Tryz.prog.follows .mixedOrders = true := by kernel_rfl
theorem c136 : Contract Tryz.prog 136 cmpS := cmp_contract (fn := Tryz.f136) (by kernel_rfl) (by kernel_rfl) (by kernel_rfl) (by kernel_rfl) (by kernel_rfl)
/-- The call that runs within Once.Do. -/
def COnce : CallF := callL [(232, s232)]
theorem COnce_sound : CSound Tryz.prog COnce := callL_sound _ (by
  intro p hp
  simp only [List.mem_cons, List.not_mem_nil, or_false] at hp
  subst hp
  exact c232)
def s231 : List Value → Heap → Out := onceS COnce
theorem c231 : Contract Tryz.prog 231 s231 := once_contract COnce_sound (Nat.le_of_ble_eq_true (by kernel_rfl))
abbrev XL0 : List (FuncId × (List Value → Heap → Out)) := [(208, s208), (187, s187), (136, cmpS), (231, s231)]
abbrev XB : CallF := callL XL0
theorem XB_sound : CSound Tryz.prog XB := callL_sound _ (by
  intro p hp
  simp only [List.mem_cons, List.not_mem_nil, or_false] at hp
  rcases hp with rfl | rfl | rfl | rfl
  · exact c208
  · exact c187
  · exact c136
  · exact c231)
abbrev C0 : CallF := CC Tryz.prog XB
theorem C0_body {f : FuncId} {fn : Func} (i : IsFn Tryz.prog f fn) {args : List Value} {h : Heap} {r : Value × Heap} (hg : 3 ≤ h.n0) (hX : XB f args h = none) (e : bodyK Tryz.prog C0 fn args h = some r) : C0 f args h = some r :=
  CC_body i (by rw [globals3]; exact hg) hX e
/-- take: the text itself. -/
noncomputable def s209 (args : List Value) (h : Heap) : Out :=
  match args with
  | [x, y] => if Nat.ble 3 h.n0 then t209 (callL []) x y h else none
  | _ => none
theorem is209 : IsFn Tryz.prog 209 Tryz.f209 := ⟨by kernel_rfl, by kernel_rfl, by kernel_rfl, by kernel_rfl⟩
theorem s209_run {args : List Value} {h : Heap} {r : Value × Heap} (e : s209 args h = some r) : C0 209 args h = some r := by
  unfold s209 at e
  split at e
  · split at e
    · rename_i hg
      exact C0_body is209 (Nat.le_of_ble_eq_true hg) rfl ((t209_eq _ _ _ _).trans e)
    · cases e
  · cases e
def be (l : List Nat) : Nat := l.foldl (fun v x => v * 256 + x) 0
theorem be_snoc (l : List Nat) (x : Nat) : be (l ++ [x]) = be l * 256 + x := by simp [be]
theorem be_lt : ∀ (n : Nat) (l : List Nat), l.length = n → (∀ x ∈ l, x < 256) → be l < 256 ^ n
  | 0, l, hl, _ => by
    have : l = [] := List.length_eq_zero_iff.1 hl
    subst this; decide
  | n + 1, l, hl, hb => by
    rcases List.eq_nil_or_concat l with h0 | ⟨m, x, h0⟩
    · subst h0; cases hl
    · rw [List.concat_eq_append] at h0
      subst h0
      have hm : m.length = n := by simpa using hl
      have := be_lt n m hm (fun y hy => hb y (List.mem_append_left _ hy))
      have hx := hb x (by simp)
      rw [be_snoc, Nat.pow_succ]
      omega
theorem take_snocN {l : List Nat} {i : Nat} (h : i < l.length) : l.take (i + 1) = l.take i ++ [l.getD i 0] := by
  rw [List.take_add_one, List.getElem?_eq_getElem h, List.getD_eq_getElem?_getD, List.getElem?_eq_getElem h]; rfl
theorem shl_or {v x : Nat} (hv : v < 72057594037927936) (hx : x < 256) : bin Tryz.prog .shl 52 (.int .u64 (v : Int)) (.int .u64 8) = some (.int .u64 ((v * 256 : Nat) : Int)) ∧
    bin Tryz.prog .or 52 (.int .u64 ((v * 256 : Nat) : Int)) (.int .u64 (x : Int)) = some (.int .u64 ((v * 256 + x : Nat) : Int)) := by
  constructor
  · rw [bin_int]
    have h2 : min (8 : Int).toNat (IntKind.bits .u64) = 8 := by decide
    simp only [binI, show ¬ ((8 : Int) < 0) by decide, if_false, h2]
    have h3 : (2 : Int) ^ 8 = 256 := by decide
    rw [h3, show (v : Int) * 256 = ((v * 256 : Nat) : Int) by omega, wrap_u64 (by omega) (by omega)]
  · rw [bin_or_nat Tryz.prog 52 (k := .u64) rfl (by show _ < 2 ^ 64; omega) (by show _ < 2 ^ 64; omega)]
    have := Nat.two_pow_add_eq_or_of_lt (i := 8) (b := x) (by omega) v
    rw [show v * 256 = 2 ^ 8 * v by omega, ← this]
theorem byte_at {h : Heap} {a : Option Addr} {n c i : Nat} {l : List Nat} (e : sliceBytes a n h = some l) (hi : i < n) : ∃ b p, a.map (·.block) = some b ∧ idxS 1 (.slice a n c) (i64n i) = some (ptr b p) ∧ ld1 (ptr b p) h = some (u8 (l.getD i 0), h) := by
  obtain ⟨h1, h2, h3⟩ := sliceBytes_spec e
  obtain ⟨b, off, s, k, rfl, hk, hlen, hc⟩ := h3 (by omega)
  refine ⟨b, off + i, rfl, ?_, ld1_at hk (hc i hi) rfl⟩
  unfold idxS
  simp only []
  rw [if_pos (by omega), Int.toNat_natCast, Nat.mul_one]
/-- number: take, and the bytes' number. -/
noncomputable def s172 (args : List Value) (h : Heap) : Out :=
  match args with
  | [x, y] => match s209 [x, y] h with
    | some (.slice a n _, g) => match sliceBytes a n g with
      | some l => if Nat.ble 3 h.n0 && Nat.ble n 8 then some (.int .u64 (be l : Nat), g) else none
      | none => none
    | _ => none
  | _ => none
theorem is172 : IsFn Tryz.prog 172 Tryz.f172 := ⟨by kernel_rfl, by kernel_rfl, by kernel_rfl, by kernel_rfl⟩
theorem num172 {x y : Value} {h h1 : Heap} {a : Option Addr} {n c : Nat} {l : List Nat} (e1 : C0 209 [x, y] h = some (.slice a n c, h1)) (e : sliceBytes a n h1 = some l) (hn : n ≤ 8) : t172 C0 x y h = some (.int .u64 ((be l : Nat) : Int), h1) := by
  obtain ⟨hl, hb, _⟩ := sliceBytes_spec e
  have hll : lenL (.slice a n c) = some (i64n n) := rfl
  unfold t172
  simp -implicitDefEqProofs only [thenV_some, e1, hll, pu_some]
  refine endL_fin (n := 23) (fin := fun ex y g => ex = .exit 0 ∧ g = h1 ∧ y 5 = .int .u64 ((be l : Nat) : Int)) (Q := fun o : Out => o = some (Value.int .u64 ((be l : Nat) : Int), h1))
    (loop_fin (t172l172_11010_eq C0) (Inv := fun k y g => ∃ i, i + k = n ∧ y 10 = .slice a n c ∧ y 11 = i64n n ∧ y 12 = i64n i ∧ g = h1 ∧ y 5 = .int .u64 ((be (l.take i) : Nat) : Int)) ?_ n (by have : rounds = 18446744073709551616 := rfl; omega) ⟨0, Nat.zero_add _, rfl, rfl, rfl, rfl, rfl⟩) ?_
  · rintro k y g ⟨i, hik, y10, y11, y12, rfl, y5⟩
    unfold t172l172_11010
    simp -implicitDefEqProofs only [y12, y11, thenV_some, pu_some, lss3]
    by_cases hi : i < n
    · obtain ⟨b, p, _, i1, i2⟩ := byte_at (c := c) e hi
      have hv : l.getD i 0 < 256 := by
        rw [List.getD_eq_getElem?_getD, List.getElem?_eq_getElem (by omega)]
        exact hb _ (List.getElem_mem _)
      have hbe := be_lt i (l.take i) (by simp; omega) (fun x hx => hb x (List.mem_of_mem_take hx))
      have hbe2 : be (l.take i) < 72057594037927936 := Nat.lt_of_lt_of_le hbe (Nat.le_trans (Nat.pow_le_pow_right (by decide) (show i ≤ 7 by omega)) (by decide))
      obtain ⟨b1, b2⟩ := shl_or hbe2 hv
      have hw : IntKind.wrap .u64 ((l.getD i 0 : Nat) : Int) = ((l.getD i 0 : Nat) : Int) := wrap_u64 (by omega) (by omega)
      simp -implicitDefEqProofs only [decide_eq_true hi, thenV_some, y10, y5, b1, pu_some, i1, i2, u8, cvI_int, hw, b2, add31 (show i + 1 ≤ 9223372036854775807 by omega)]
      refine Rnd.next (k - 1) (by omega) ⟨i + 1, by omega, y10, y11, rfl, rfl, ?_⟩
      rw [take_snocN (by omega), be_snoc]; rfl
    · have : i = n := by omega
      subst this
      simp -implicitDefEqProofs only [decide_eq_false hi]
      exact Rnd.out 0 ⟨rfl, rfl, by rw [List.take_of_length_le (by omega)] at y5; exact y5⟩
  · rintro ex z g ⟨rfl, rfl, z5⟩
    simp -implicitDefEqProofs only [endL_exit, b172_4, if_true, t172k172_2_eq]
    unfold t172k172_2
    rw [z5]
    rfl
theorem s172_run {args : List Value} {h : Heap} {r : Value × Heap} (e : s172 args h = some r) : C0 172 args h = some r := by
  unfold s172 at e
  split at e
  · rename_i x y
    split at e
    · rename_i a n c g h209
      split at e
      · rename_i l hl
        split at e
        · rename_i hc
          cases e
          rw [Bool.and_eq_true] at hc
          exact C0_body is172 (Nat.le_of_ble_eq_true hc.1) rfl ((t172_eq _ _ _ _).trans (num172 (s209_run h209) hl (Nat.le_of_ble_eq_true hc.2)))
        · cases e
      · cases e
    · cases e
  · cases e
def lateOne : Late Unit := ⟨fun q => q (), fun h => h (), fun a b h => h () a b⟩
theorem _root_.Go.Abs.bodyK_mono {P : Program} {C D : CallF} (hc : ∀ f args h r, C f args h = some r → D f args h = some r) {fn : Func} {args : List Value} {h : Heap} {r : Value × Heap} (e : bodyK P C fn args h = some r) : bodyK P D fn args h = some r := by
  rw [bodyK_eq] at e ⊢
  exact bodyA_late lateOne (D := fun _ => D) (fun f args h r e => hc f args h r e) fn args h r e
/-- The summaries hold of the calls. -/
def Holds (C : CallF) : Prop := ∀ f args h r, C f args h = some r → C0 f args h = some r
def Hold1 (f : FuncId) (s : List Value → Heap → Out) : Prop := ∀ args h r, s args h = some r → C0 f args h = some r
theorem Holds.nil : Holds (callL []) := fun _ _ _ _ e => by cases e
theorem Holds.cons {L : List (FuncId × (List Value → Heap → Out))} {f : FuncId} {s : List Value → Heap → Out} (h : Hold1 f s) (H : Holds (callL L)) : Holds (callL ((f, s) :: L)) := by
  intro g args h' r e
  simp only [callL] at e
  split at e
  · rename_i hg; subst hg; exact h _ _ _ e
  · exact H _ _ _ _ e
theorem h208 : Hold1 208 s208 := fun args h r e => CC_known (show XB 208 args h = some r from e)
theorem h136 : Hold1 136 cmpS := fun args h r e => CC_known (show XB 136 args h = some r from e)
theorem h231 : Hold1 231 s231 := fun args h r e => CC_known (show XB 231 args h = some r from e)
theorem h172 : Hold1 172 s172 := fun _ _ _ e => s172_run e
theorem h209 : Hold1 209 s209 := fun _ _ _ e => s209_run e
theorem hold_text {f : FuncId} {fn : Func} {C : CallF} (i : IsFn Tryz.prog f fn) (H : Holds C) {args : List Value} {h : Heap} {r : Value × Heap} (hg : Nat.ble 3 h.n0 = true) (hX : XB f args h = none) (e : bodyK Tryz.prog C fn args h = some r) : C0 f args h = some r :=
  C0_body i (Nat.le_of_ble_eq_true hg) hX (bodyK_mono H e)
theorem Hold1.contract {f : FuncId} {fn : Func} {s : List Value → Heap → Out} (i : IsFn Tryz.prog f fn) (h : Hold1 f s) : Contract Tryz.prog f s := (Contract.of_CC mixed XB_sound i).weaker fun _ _ _ e => h _ _ _ e
noncomputable def s171 (args : List Value) (h : Heap) : Out :=
  match args with
  | [x] => if Nat.ble 3 h.n0 = true then t171 (callL []) x h else none
  | _ => none
theorem is171 : IsFn Tryz.prog 171 Tryz.f171 := ⟨by kernel_rfl, by kernel_rfl, by kernel_rfl, by kernel_rfl⟩
theorem h171 : Hold1 171 s171 := by
  intro args h r e
  unfold s171 at e
  split at e
  · split at e
    · rename_i hg
      exact hold_text (C := callL []) is171 Holds.nil hg rfl ((t171_eq _ _ _).trans e)
    · cases e
  · cases e
end
end Go.Proofs.YtdhpgacmgebjdaaGreatDoor

namespace Go.Proofs.YtdhpgacmgebjdaaGreatDoor
open Go Go.Abs
noncomputable section
def dropK (n : Nat) (l : List Value) : List Value :=
  Nat.rec (motive := fun _ => List Value → List Value) (fun l => l) (fun _ ih l => List.rec (motive := fun _ => List Value) [] (fun _ t _ => ih t) l) n l
theorem dropK_eq : ∀ (n : Nat) (l : List Value), dropK n l = l.drop n
  | 0, _l => rfl
  | n + 1, [] => rfl
  | n + 1, _ :: t => dropK_eq n t
def dropQ (q : Nat) (k : List Value) : List Value := Nat.rec (motive := fun _ => List Value) k (fun _ ih => dropK 128 ih) q
theorem dropQ_eq (k : List Value) : ∀ q, dropQ q k = k.drop (128 * q)
  | 0 => rfl
  | q + 1 => by
    show dropK 128 (dropQ q k) = _
    rw [dropK_eq, dropQ_eq k q, List.drop_drop]
    rfl
def cutQ (off n : Nat) (k : List Value) : List Value := (dropK (Nat.mod off 128) (dropQ (Nat.div off 128) k)).take n
theorem cutQ_eq (off n : Nat) (k : List Value) : cutQ off n k = (k.drop off).take n := by
  unfold cutQ
  rw [dropK_eq, dropQ_eq, List.drop_drop]
  have : 128 * Nat.div off 128 + Nat.mod off 128 = off := Nat.div_add_mod off 128
  rw [this]
/-- Rows of zero bytes. -/
def isZ (v : Value) : Bool :=
  match v with
  | .int .u8 (.ofNat m) => Nat.beq m 0
  | _ => false
theorem isZ_eq {v : Value} (h : isZ v = true) : v = u8 0 := by
  unfold isZ at h
  split at h
  · have := Nat.eq_of_beq_eq_true h
    subst this; rfl
  · cases h
def zeroRow (n : Nat) (l : List Value) : Bool :=
  Nat.rec (motive := fun _ => List Value → Bool) (fun l => List.rec (motive := fun _ => Bool) true (fun _ _ _ => false) l)
    (fun _ ih l => List.rec (motive := fun _ => Bool) false (fun v t _ => Bool.rec (motive := fun _ => Bool) false (ih t) (isZ v)) l) n l
theorem zeroRow_eq : ∀ (n : Nat) (l : List Value), zeroRow n l = true → l = (List.replicate n 0).map u8
  | 0, [], _ => rfl
  | 0, _ :: _, h => by cases h
  | n + 1, [], h => by cases h
  | n + 1, v :: t, h => by
    have h : Bool.rec (motive := fun _ => Bool) false (zeroRow n t) (isZ v) = true := h
    cases hz : isZ v with
    | false => rw [hz] at h; cases h
    | true =>
      rw [hz] at h
      rw [isZ_eq hz, zeroRow_eq n t h]; rfl
theorem sliceBytes_cut {b off n : Nat} {s : Option Nat} {h : Heap} {k : List Value} {l : List Nat} (hk : h.get b = some k) (hn : 0 < n) (hl : l.length = n) (hb : ∀ x ∈ l, x < 256) (e : cutQ off n k = l.map u8) : sliceBytes (some ⟨b, off, s⟩) n h = some l := by
  rw [cutQ_eq] at e
  have hlen : off + n ≤ k.length := by
    have := congrArg List.length e
    rw [List.length_take, List.length_drop, List.length_map, hl] at this
    omega
  have hf : firstA 1 n (.slice (some ⟨b, off, s⟩) n n) h = some (l.map u8) := by
    unfold firstA
    simp only [Nat.mul_one, hk]
    rw [if_neg (by omega), e, if_pos ⟨hlen, by rw [noHoles_u8]⟩]
  unfold sliceBytes
  rw [hf]
  exact bytesOf_map hb
def crcZ : Nat := crcN (List.replicate 124 0)
/-- CRC32C: blocks of zeros are known. -/
def s208q (args : List Value) (h : Heap) : Out :=
  match args with
  | [.slice (some ⟨b, off, s⟩) n c] => match Nat.beq n 124 with
    | true => match h.get b with
      | some k => match zeroRow 124 (cutQ off 124 k) with
        | true => some (u32 crcZ, h)
        | false => s208 [.slice (some ⟨b, off, s⟩) n c] h
      | none => none
    | false => s208 [.slice (some ⟨b, off, s⟩) n c] h
  | _ => none
theorem h208q : Hold1 208 s208q := by
  intro args h r e
  unfold s208q at e
  split at e
  · rename_i b off s n c
    split at e
    · rename_i hn
      have hn := Nat.eq_of_beq_eq_true hn
      subst hn
      split at e
      · rename_i k hk
        split at e
        · rename_i hz
          have := sliceBytes_cut (s := s) hk (by decide) (by simp) (by intro x hx; rw [List.eq_of_mem_replicate hx]; decide) (zeroRow_eq _ _ hz)
          cases e
          refine h208 _ _ _ ?_
          show (match sliceBytes (some ⟨b, off, s⟩) 124 h with
            | some l => if 124 < 9223372036854775807 then some (u32 (crcN l), h) else none
            | none => none) = _
          rw [this]
          rfl
        · exact h208 _ _ _ e
      · cases e
    · exact h208 _ _ _ e
  · cases e
/-- Rows of integers. -/
def isI (v : Value) : Bool :=
  match v with
  | .int _ _ => true
  | _ => false
def keepB (b : Bool) : Bool := b
def intRow (n : Nat) (l : List Value) : Bool :=
  Nat.rec (motive := fun _ => List Value → Bool) (fun l => List.rec (motive := fun _ => Bool) true (fun _ _ _ => false) l)
    (fun _ ih l => List.rec (motive := fun _ => Bool) false (fun v t _ => Bool.rec (motive := fun _ => Bool) false (keepB (ih t)) (isI v)) l) n l
theorem intRow_eq : ∀ (n : Nat) (l : List Value), intRow n l = true → l.length = n ∧ oneCells l = true ∧ noHoles l = true
  | 0, [], _ => ⟨rfl, rfl, rfl⟩
  | 0, _ :: _, h => by cases h
  | n + 1, [], h => by cases h
  | n + 1, v :: t, h => by
    have h : Bool.rec (motive := fun _ => Bool) false (intRow n t) (isI v) = true := h
    cases hz : isI v with
    | false => rw [hz] at h; cases h
    | true =>
      rw [hz] at h
      obtain ⟨h1, h2, h3⟩ := intRow_eq n t h
      unfold isI at hz
      split at hz
      · refine ⟨by rw [List.length_cons, h1], ?_, ?_⟩
        · unfold oneCells at h2 ⊢
          rw [List.all_cons, h2]; rfl
        · unfold noHoles at h3 ⊢
          rw [List.all_cons, h3]; rfl
      · cases hz
theorem eqs22 (a : Addr) (n c : Nat) : bin Tryz.prog .eql 22 (.slice (some a) n c) (.slice none 0 0) = some (.bool false) := by kernel_rfl
/-- Clone of a row of integers. -/
def s171q (args : List Value) (h : Heap) : Out :=
  match args with
  | [.slice (some ⟨b, off, s⟩) n c] => match Nat.ble 3 h.n0 && (Nat.blt 0 n && Nat.ble n 1000000) with
    | true => match h.get b with
      | some k => match intRow n (cutQ off n k) with
        | true => some (.slice (some ⟨h.next + 1, 0, some 1⟩) n n, (h.alloc []).alloc (cutQ off n k))
        | false => none
      | none => none
    | false => s171 [.slice (some ⟨b, off, s⟩) n c] h
  | args => s171 args h
theorem h171q : Hold1 171 s171q := by
  intro args h r e
  unfold s171q at e
  split at e
  · rename_i b off s n c
    split at e
    · rename_i hc
      simp only [Bool.and_eq_true] at hc
      obtain ⟨hg, h0, h1⟩ := hc
      have h0 : 0 < n := by simpa using h0
      have h1 : n ≤ 1000000 := Nat.le_of_ble_eq_true h1
      split at e
      · rename_i k hk
        split at e
        · rename_i hr
          cases e
          obtain ⟨e1, e2, e3⟩ := intRow_eq _ _ hr
          refine h171 _ _ _ ?_
          unfold s171
          simp only [hg, if_true]
          rw [cutQ_eq] at e1 e2 e3 ⊢
          have hlen : off + n ≤ k.length := by
            rw [List.length_take, List.length_drop] at e1
            omega
          have hf : firstA 1 n (.slice (some ⟨b, off, s⟩) n c) (h.alloc []) = some ((k.drop off).take n) := by
            unfold firstA
            simp only [Nat.mul_one, Heap.get_alloc_some hk]
            rw [if_neg (by omega), if_pos ⟨hlen, e3⟩]
          have ha : appendA 1 1 (.slice (some ⟨h.next, 0, none⟩) 0 0) (.slice (some ⟨b, off, s⟩) n c) (h.alloc []) = some (.slice (some ⟨h.next + 1, 0, some 1⟩) n n, (h.alloc []).alloc ((k.drop off).take n)) := by
            unfold appendA
            simp only [lenA, hf]
            rw [if_neg (by simp [e2]; omega), if_neg (by omega)]
            simp only [firstA, Nat.zero_mul, if_true, List.length_nil, Nat.zero_add, List.nil_append, Heap.next_alloc]
            simp
          unfold t171
          simp -implicitDefEqProofs only [thenV_some, eqs22, pu_some]
          rw [show bslR 1 (.int .u8 0) 0 [] h = some (.slice (some ⟨h.next, 0, none⟩) 0 0, h.alloc []) from rfl]
          simp -implicitDefEqProofs only [thenV_some, ha]
        · cases e
      · cases e
    · exact h171 _ _ _ e
  · exact h171 _ _ _ e
end
end Go.Proofs.YtdhpgacmgebjdaaGreatDoor

namespace Go.Proofs.YtdhpgacmgebjdaaGreatDoor
open Go Go.Abs
/-- stolon/disk.NewDisk -/
noncomputable def t13 (C : CallF) (x0 : Value) (h : Heap) : Out :=
  thenV (some ((.pointer none), h)) fun _y2 h =>
  thenV (some ((.int .i64 0), h)) fun _y3 h =>
  thenV (some (x0, h)) fun y4 h =>
  thenV (pu (bin Tryz.prog .lss 3 y4 (.int .i64 4)) h) fun y5 h =>
  thenV (some (y5, h)) fun y6 h =>
  thenV (guardK (bOf y6 == some false) (some (x0, h)) h) fun y7 h =>
  thenV (guardK (bOf y6 == some false) (pu (bin Tryz.prog .gtr 3 y7 (.int .i64 4096)) h) h) fun y8 h =>
  thenV (match y6 with | .bool t => some (if t then (.bool true) else y8, h) | _ => none) fun y9 h =>
  (match y9 with
  | .bool true =>
  thenV (some ((.pointer none), h)) fun y2_1 h =>
  thenV (some ((.int .i64 2), h)) fun y3_1 h =>
  some (.tuple #[y2_1, y3_1], h)
  | .bool false =>
  thenV (some (x0, h)) fun y10 h =>
  thenV (mkR 128 128 (.agg (List.replicate 128 (.int .u8 0)).toArray) y10 y10 h) fun y11 h =>
  thenV (pu (bldR [(.slice none 0 0), (.bool false), (.bool false), (.int .i64 0), (.int .i64 0), (.int .i64 0)] [(0, 1, y11)]) h) fun y12 h =>
  thenV (box y12 h) fun y13 h =>
  thenV (some (y13, h)) fun y2_1 h =>
  thenV (some ((.int .i64 0), h)) fun y3_1 h =>
  some (.tuple #[y2_1, y3_1], h)
  | _ => none)
theorem t13_eq (C : CallF) (x0 : Value) (h : Heap) : bodyK Tryz.prog C Tryz.f13 [x0] h = t13 C x0 h :=
  (bodyB_eq Tryz.prog C Tryz.f13 [x0] h (by kernel_rfl)).trans (by kernel_rfl)


/-- (*stolon/store.Store).Put$1 -/
noncomputable def t63 (C : CallF) (x0 x1 x2 : Value) (h : Heap) : Out :=
  thenV (some (x0, h)) fun y4 h =>
  thenV (pu (nilCheckA y4) h) fun y5 h =>
  thenV (pu (addP y5 1) h) fun y6 h =>
  thenV (ld1 y6 h) fun y7 h =>
  thenV (ldN 32 x2 h) fun y8 h =>
  thenV (ldN 3 x1 h) fun y9 h =>
  thenV (mapUpdateA Tryz.prog 123 y7 y8 y9 h) fun _ h =>
  some (.tuple #[], h)
theorem t63_eq (C : CallF) (x0 x1 x2 : Value) (h : Heap) : bodyK Tryz.prog C Tryz.f63 [x0, x1, x2] h = t63 C x0 x1 x2 h :=
  (bodyB_eq Tryz.prog C Tryz.f63 [x0, x1, x2] h (by kernel_rfl)).trans (by kernel_rfl)


/-- stolon/rs.PieceSize -/
noncomputable def t69 (C : CallF) (x0 x1 : Value) (h : Heap) : Out :=
  thenV (some ((.int .i64 0), h)) fun _y4 h =>
  thenV (some ((.int .i64 0), h)) fun _y5 h =>
  thenV (some (x0, h)) fun y6 h =>
  thenV (pu (bin Tryz.prog .lss 3 y6 (.int .i64 1)) h) fun y7 h =>
  thenV (some (y7, h)) fun y8 h =>
  thenV (guardK (bOf y8 == some false) (some (x0, h)) h) fun y9 h =>
  thenV (guardK (bOf y8 == some false) (pu (bin Tryz.prog .gtr 3 y9 (.int .i64 255)) h) h) fun y10 h =>
  thenV (match y8 with | .bool t => some (if t then (.bool true) else y10, h) | _ => none) fun y11 h =>
  thenV (some (y11, h)) fun y12 h =>
  thenV (guardK (bOf y12 == some false) (some (x1, h)) h) fun y13 h =>
  thenV (guardK (bOf y12 == some false) (pu (bin Tryz.prog .lss 3 y13 (.int .i64 0)) h) h) fun y14 h =>
  thenV (match y12 with | .bool t => some (if t then (.bool true) else y14, h) | _ => none) fun y15 h =>
  thenV (some (y15, h)) fun y16 h =>
  thenV (guardK (bOf y16 == some false) (some (x1, h)) h) fun y17 h =>
  thenV (guardK (bOf y16 == some false) (pu (bin Tryz.prog .gtr 3 y17 (.int .i64 8192)) h) h) fun y18 h =>
  thenV (match y16 with | .bool t => some (if t then (.bool true) else y18, h) | _ => none) fun y19 h =>
  (match y19 with
  | .bool true =>
  thenV (some ((.int .i64 0), h)) fun y4_1 h =>
  thenV (some ((.int .i64 2), h)) fun y5_1 h =>
  some (.tuple #[y4_1, y5_1], h)
  | .bool false =>
  thenV (some (x1, h)) fun y20 h =>
  thenV (some (x0, h)) fun y21 h =>
  thenV (pu (bin Tryz.prog .add 3 y20 y21) h) fun y22 h =>
  thenV (pu (bin Tryz.prog .sub 3 y22 (.int .i64 1)) h) fun y23 h =>
  thenV (some (x0, h)) fun y24 h =>
  thenV (pu (bin Tryz.prog .quo 3 y23 y24) h) fun y25 h =>
  thenV (some (y25, h)) fun y4_1 h =>
  thenV (some ((.int .i64 0), h)) fun y5_1 h =>
  some (.tuple #[y4_1, y5_1], h)
  | _ => none)
theorem t69_eq (C : CallF) (x0 x1 : Value) (h : Heap) : bodyK Tryz.prog C Tryz.f69 [x0, x1] h = t69 C x0 x1 h :=
  (bodyB_eq Tryz.prog C Tryz.f69 [x0, x1] h (by kernel_rfl)).trans (by kernel_rfl)


/-- stolon/disk.Cost -/
noncomputable def t73 (C : CallF) (x0 : Value) (h : Heap) : Out :=
  thenV (some ((.int .i64 0), h)) fun _y2 h =>
  thenV (some (x0, h)) fun y3 h =>
  thenV (pu (bin Tryz.prog .leq 3 y3 (.int .i64 106)) h) fun y4 h =>
  (match y4 with
  | .bool true =>
  thenV (some ((.int .i64 1), h)) fun y2_1 h =>
  some (y2_1, h)
  | .bool false =>
  thenV (some (x0, h)) fun y5 h =>
  thenV (pu (bin Tryz.prog .sub 3 y5 (.int .i64 1)) h) fun y6 h =>
  thenV (pu (bin Tryz.prog .quo 3 y6 (.int .i64 106)) h) fun y7 h =>
  thenV (pu (bin Tryz.prog .add 3 y7 (.int .i64 1)) h) fun y8 h =>
  thenV (some (y8, h)) fun y2_1 h =>
  some (y2_1, h)
  | _ => none)
theorem t73_eq (C : CallF) (x0 : Value) (h : Heap) : bodyK Tryz.prog C Tryz.f73 [x0] h = t73 C x0 h :=
  (bodyB_eq Tryz.prog C Tryz.f73 [x0] h (by kernel_rfl)).trans (by kernel_rfl)


/-- bytes.Compare -/
noncomputable def t83 (C : CallF) (x0 x1 : Value) (h : Heap) : Out :=
  thenV (some ((.int .i64 0), h)) fun _y4 h =>
  thenV (some (x0, h)) fun y5 h =>
  thenV (some (x1, h)) fun y6 h =>
  thenV (C 136 [y5, y6] h) fun y7 h =>
  thenV (some (y7, h)) fun y4_1 h =>
  some (y4_1, h)
theorem t83_eq (C : CallF) (x0 x1 : Value) (h : Heap) : bodyK Tryz.prog C Tryz.f83 [x0, x1] h = t83 C x0 x1 h :=
  (bodyB_eq Tryz.prog C Tryz.f83 [x0, x1] h (by kernel_rfl)).trans (by kernel_rfl)


/-- stolon/digest.sizes -/
noncomputable def t103 (C : CallF) (x0 x1 x2 : Value) (h : Heap) : Out :=
  thenV (some ((.bool false), h)) fun _y6 h =>
  thenV (some (x0, h)) fun y7 h =>
  thenV (pu (bin Tryz.prog .leq 3 (.int .i64 1) y7) h) fun y8 h =>
  thenV (some (y8, h)) fun y9 h =>
  thenV (guardK (bOf y9 == some true) (some (x0, h)) h) fun y10 h =>
  thenV (guardK (bOf y9 == some true) (some (x1, h)) h) fun y11 h =>
  thenV (guardK (bOf y9 == some true) (pu (bin Tryz.prog .leq 3 y10 y11) h) h) fun y12 h =>
  thenV (match y9 with | .bool t => some (if t then y12 else (.bool false), h) | _ => none) fun y13 h =>
  thenV (some (y13, h)) fun y14 h =>
  thenV (guardK (bOf y14 == some true) (some (x1, h)) h) fun y15 h =>
  thenV (guardK (bOf y14 == some true) (some (x2, h)) h) fun y16 h =>
  thenV (guardK (bOf y14 == some true) (pu (bin Tryz.prog .leq 3 y15 y16) h) h) fun y17 h =>
  thenV (match y14 with | .bool t => some (if t then y17 else (.bool false), h) | _ => none) fun y18 h =>
  thenV (some (y18, h)) fun y19 h =>
  thenV (guardK (bOf y19 == some true) (some (x2, h)) h) fun y20 h =>
  thenV (guardK (bOf y19 == some true) (pu (bin Tryz.prog .leq 3 y20 (.int .i64 255)) h) h) fun y21 h =>
  thenV (match y19 with | .bool t => some (if t then y21 else (.bool false), h) | _ => none) fun y22 h =>
  thenV (some (y22, h)) fun y6_1 h =>
  some (y6_1, h)
theorem t103_eq (C : CallF) (x0 x1 x2 : Value) (h : Heap) : bodyK Tryz.prog C Tryz.f103 [x0, x1, x2] h = t103 C x0 x1 x2 h :=
  (bodyB_eq Tryz.prog C Tryz.f103 [x0, x1, x2] h (by kernel_rfl)).trans (by kernel_rfl)


/-- (*stolon/disk.Disk).fault -/
noncomputable def t105 (C : CallF) (x0 x1 : Value) (h : Heap) : Out :=
  thenV (some ((.int .i64 0), h)) fun _y4 h =>
  thenV (some (x0, h)) fun y6 h =>
  thenV (pu (bin Tryz.prog .eql 24 y6 (.pointer none)) h) fun y7 h =>
  thenV (some (y7, h)) fun y5 h =>
  (match y5 with
  | .bool true =>
  thenV (some ((.int .i64 1), h)) fun y4_1 h =>
  some (y4_1, h)
  | .bool false =>
  thenV (some (x0, h)) fun y9 h =>
  thenV (pu (nilCheckA y9) h) fun y10 h =>
  thenV (pu (addP y10 1) h) fun y11 h =>
  thenV (ld1 y11 h) fun y12 h =>
  thenV (some (y12, h)) fun y8 h =>
  (match y8 with
  | .bool true =>
  thenV (some ((.int .i64 9), h)) fun y4_1 h =>
  some (y4_1, h)
  | .bool false =>
  thenV (some (x1, h)) fun y14 h =>
  thenV (pu (bin Tryz.prog .lss 3 y14 (.int .i64 0)) h) fun y15 h =>
  thenV (some (y15, h)) fun y16 h =>
  thenV (guardK (bOf y16 == some false) (some (x1, h)) h) fun y17 h =>
  thenV (guardK (bOf y16 == some false) (some (x0, h)) h) fun y18 h =>
  thenV (guardK (bOf y16 == some false) (pu (nilCheckA y18) h) h) fun y19 h =>
  thenV (guardK (bOf y16 == some false) (pu (addP y19 0) h) h) fun y20 h =>
  thenV (guardK (bOf y16 == some false) (ld1 y20 h) h) fun y21 h =>
  thenV (guardK (bOf y16 == some false) (pu (lenL y21) h) h) fun y22 h =>
  thenV (guardK (bOf y16 == some false) (pu (bin Tryz.prog .geq 3 y17 y22) h) h) fun y23 h =>
  thenV (match y16 with | .bool t => some (if t then (.bool true) else y23, h) | _ => none) fun y24 h =>
  thenV (some (y24, h)) fun y13 h =>
  (match y13 with
  | .bool true =>
  thenV (some ((.int .i64 2), h)) fun y4_1 h =>
  some (y4_1, h)
  | .bool false =>
  thenV (some ((.int .i64 0), h)) fun y4_1 h =>
  some (y4_1, h)
  | _ => none)
  | _ => none)
  | _ => none)
theorem t105_eq (C : CallF) (x0 x1 : Value) (h : Heap) : bodyK Tryz.prog C Tryz.f105 [x0, x1] h = t105 C x0 x1 h :=
  (bodyB_eq Tryz.prog C Tryz.f105 [x0, x1] h (by kernel_rfl)).trans (by kernel_rfl)


/-- (*stolon/disk.Disk).area -/
noncomputable def t107 (C : CallF) (x0 : Value) (h : Heap) : Out :=
  thenV (some ((.int .i64 0), h)) fun _y2 h =>
  thenV (some (x0, h)) fun y3 h =>
  thenV (pu (nilCheckA y3) h) fun y4 h =>
  thenV (pu (addP y4 0) h) fun y5 h =>
  thenV (ld1 y5 h) fun y6 h =>
  thenV (pu (lenL y6) h) fun y7 h =>
  thenV (pu (bin Tryz.prog .sub 3 y7 (.int .i64 2)) h) fun y8 h =>
  thenV (pu (bin Tryz.prog .quo 3 y8 (.int .i64 2)) h) fun y9 h =>
  thenV (some (y9, h)) fun y2_1 h =>
  some (y2_1, h)
theorem t107_eq (C : CallF) (x0 : Value) (h : Heap) : bodyK Tryz.prog C Tryz.f107 [x0] h = t107 C x0 h :=
  (bodyB_eq Tryz.prog C Tryz.f107 [x0] h (by kernel_rfl)).trans (by kernel_rfl)


/-- stolon/digest.NewReader -/
noncomputable def t110 (C : CallF) (x0 : Value) (h : Heap) : Out :=
  thenV (some ((.pointer none), h)) fun _y2 h =>
  thenV (some (x0, h)) fun y3 h =>
  thenV (C 171 [y3] h) fun y4 h =>
  thenV (pu (bldR [(.slice none 0 0), (.int .i64 0)] [(0, 1, y4)]) h) fun y5 h =>
  thenV (box y5 h) fun y6 h =>
  thenV (some (y6, h)) fun y2_1 h =>
  some (y2_1, h)
theorem t110_eq (C : CallF) (x0 : Value) (h : Heap) : bodyK Tryz.prog C Tryz.f110 [x0] h = t110 C x0 h :=
  (bodyB_eq Tryz.prog C Tryz.f110 [x0] h (by kernel_rfl)).trans (by kernel_rfl)


/-- (*stolon/digest.Reader).U8 -/
noncomputable def t111 (C : CallF) (x0 : Value) (h : Heap) : Out :=
  thenV (some ((.int .u8 0), h)) fun _y2 h =>
  thenV (some (x0, h)) fun y3 h =>
  thenV (C 172 [y3, (.int .i64 1)] h) fun y4 h =>
  thenV (cvI .u8 y4 h) fun y5 h =>
  thenV (some (y5, h)) fun y2_1 h =>
  some (y2_1, h)
theorem t111_eq (C : CallF) (x0 : Value) (h : Heap) : bodyK Tryz.prog C Tryz.f111 [x0] h = t111 C x0 h :=
  (bodyB_eq Tryz.prog C Tryz.f111 [x0] h (by kernel_rfl)).trans (by kernel_rfl)


/-- (*stolon/digest.Reader).U64 -/
noncomputable def t112 (C : CallF) (x0 : Value) (h : Heap) : Out :=
  thenV (some ((.int .u64 0), h)) fun _y2 h =>
  thenV (some (x0, h)) fun y3 h =>
  thenV (C 172 [y3, (.int .i64 8)] h) fun y4 h =>
  thenV (some (y4, h)) fun y2_1 h =>
  some (y2_1, h)
theorem t112_eq (C : CallF) (x0 : Value) (h : Heap) : bodyK Tryz.prog C Tryz.f112 [x0] h = t112 C x0 h :=
  (bodyB_eq Tryz.prog C Tryz.f112 [x0] h (by kernel_rfl)).trans (by kernel_rfl)


/-- stolon/digest.NewWriter -/
noncomputable def t116 (C : CallF) (x0 : Value) (h : Heap) : Out :=
  thenV (some ((.pointer none), h)) fun _y2 h =>
  thenV (some (x0, h)) fun y3 h =>
  thenV (pu (minmax true (.int .i64 0) [y3]) h) fun y4 h =>
  thenV (pu (bldR [(.int .i64 0), (.bool false), (.slice none 0 0)] [(0, 1, y4)]) h) fun y5 h =>
  thenV (box y5 h) fun y6 h =>
  thenV (some (y6, h)) fun y2_1 h =>
  some (y2_1, h)
theorem t116_eq (C : CallF) (x0 : Value) (h : Heap) : bodyK Tryz.prog C Tryz.f116 [x0] h = t116 C x0 h :=
  (bodyB_eq Tryz.prog C Tryz.f116 [x0] h (by kernel_rfl)).trans (by kernel_rfl)


/-- (*stolon/digest.Writer).Bytes -/
noncomputable def t121 (C : CallF) (x0 : Value) (h : Heap) : Out :=
  thenV (some ((.slice none 0 0), h)) fun _y2 h =>
  thenV (some ((.int .i64 0), h)) fun _y3 h =>
  thenV (some (x0, h)) fun y5 h =>
  thenV (pu (bin Tryz.prog .eql 218 y5 (.pointer none)) h) fun y6 h =>
  thenV (some (y6, h)) fun y4 h =>
  (match y4 with
  | .bool true =>
  thenV (some ((.slice none 0 0), h)) fun y2_1 h =>
  thenV (some ((.int .i64 1), h)) fun y3_1 h =>
  some (.tuple #[y2_1, y3_1], h)
  | .bool false =>
  thenV (some (x0, h)) fun y8 h =>
  thenV (pu (nilCheckA y8) h) fun y9 h =>
  thenV (pu (addP y9 1) h) fun y10 h =>
  thenV (ld1 y10 h) fun y11 h =>
  thenV (some (y11, h)) fun y7 h =>
  (match y7 with
  | .bool true =>
  thenV (some ((.slice none 0 0), h)) fun y2_1 h =>
  thenV (some ((.int .i64 3), h)) fun y3_1 h =>
  some (.tuple #[y2_1, y3_1], h)
  | .bool false =>
  thenV (some (x0, h)) fun y12 h =>
  thenV (pu (nilCheckA y12) h) fun y13 h =>
  thenV (pu (addP y13 2) h) fun y14 h =>
  thenV (ld1 y14 h) fun y15 h =>
  thenV (C 171 [y15] h) fun y16 h =>
  thenV (some (y16, h)) fun y2_1 h =>
  thenV (some ((.int .i64 0), h)) fun y3_1 h =>
  some (.tuple #[y2_1, y3_1], h)
  | _ => none)
  | _ => none)
theorem t121_eq (C : CallF) (x0 : Value) (h : Heap) : bodyK Tryz.prog C Tryz.f121 [x0] h = t121 C x0 h :=
  (bodyB_eq Tryz.prog C Tryz.f121 [x0] h (by kernel_rfl)).trans (by kernel_rfl)


/-- maps.Keys[map[stolon/api.Digest]stolon/store.item,stolon/api.Digest,stolon/store.item] -/
noncomputable def t126 (C : CallF) (x0 : Value) (h : Heap) : Out :=
  thenV (box x0 h) fun y1 h =>
  thenV (some (.nilFunc, h)) fun _y2 h =>
  thenV (some (.func (.func 186) #[] #[y1], h)) fun y3 h =>
  thenV (some (y3, h)) fun y2_1 h =>
  some (y2_1, h)
theorem t126_eq (C : CallF) (x0 : Value) (h : Heap) : bodyK Tryz.prog C Tryz.f126 [x0] h = t126 C x0 h :=
  (bodyB_eq Tryz.prog C Tryz.f126 [x0] h (by kernel_rfl)).trans (by kernel_rfl)


/-- stolon/digest.NewHash -/
noncomputable def t129 (C : CallF) (h : Heap) : Out :=
  thenV (some ((.pointer none), h)) fun _y0 h =>
  thenV (pu (bldR (List.replicate 8 (.int .u32 0)) [(0, 1, (.int .u32 1779033703)), (1, 1, (.int .u32 3144134277)), (2, 1, (.int .u32 1013904242)), (3, 1, (.int .u32 2773480762)), (4, 1, (.int .u32 1359893119)), (5, 1, (.int .u32 2600822924)), (6, 1, (.int .u32 528734635)), (7, 1, (.int .u32 1541459225))]) h) fun y1 h =>
  thenV (pu (bldR [(.int .u32 0), (.int .u32 0), (.int .u32 0), (.int .u32 0), (.int .u32 0), (.int .u32 0), (.int .u32 0), (.int .u32 0), (.int .u8 0), (.int .u8 0), (.int .u8 0), (.int .u8 0), (.int .u8 0), (.int .u8 0), (.int .u8 0), (.int .u8 0), (.int .u8 0), (.int .u8 0), (.int .u8 0), (.int .u8 0), (.int .u8 0), (.int .u8 0), (.int .u8 0), (.int .u8 0), (.int .u8 0), (.int .u8 0), (.int .u8 0), (.int .u8 0), (.int .u8 0), (.int .u8 0), (.int .u8 0), (.int .u8 0), (.int .u8 0), (.int .u8 0), (.int .u8 0), (.int .u8 0), (.int .u8 0), (.int .u8 0), (.int .u8 0), (.int .u8 0), (.int .u8 0), (.int .u8 0), (.int .u8 0), (.int .u8 0), (.int .u8 0), (.int .u8 0), (.int .u8 0), (.int .u8 0), (.int .u8 0), (.int .u8 0), (.int .u8 0), (.int .u8 0), (.int .u8 0), (.int .u8 0), (.int .u8 0), (.int .u8 0), (.int .u8 0), (.int .u8 0), (.int .u8 0), (.int .u8 0), (.int .u8 0), (.int .u8 0), (.int .u8 0), (.int .u8 0), (.int .u8 0), (.int .u8 0), (.int .u8 0), (.int .u8 0), (.int .u8 0), (.int .u8 0), (.int .u8 0), (.int .u8 0), (.int .i64 0)] [(0, 8, y1)]) h) fun y2 h =>
  thenV (box y2 h) fun y3 h =>
  thenV (some (y3, h)) fun y0_1 h =>
  some (y0_1, h)
theorem t129_eq (C : CallF) (h : Heap) : bodyK Tryz.prog C Tryz.f129 [] h = t129 C  h :=
  (bodyB_eq Tryz.prog C Tryz.f129 [] h (by kernel_rfl)).trans (by kernel_rfl)


/-- (*stolon/disk.Journal).fault -/
noncomputable def t132 (C : CallF) (x0 : Value) (h : Heap) : Out :=
  thenV (some ((.int .i64 0), h)) fun _y2 h =>
  thenV (some (x0, h)) fun y4 h =>
  thenV (pu (bin Tryz.prog .eql 119 y4 (.pointer none)) h) fun y5 h =>
  thenV (some (y5, h)) fun y3 h =>
  (match y3 with
  | .bool true =>
  thenV (some ((.int .i64 1), h)) fun y2_1 h =>
  some (y2_1, h)
  | .bool false =>
  thenV (some (x0, h)) fun y7 h =>
  thenV (pu (nilCheckA y7) h) fun y8 h =>
  thenV (pu (addP y8 0) h) fun y9 h =>
  thenV (ld1 y9 h) fun y10 h =>
  thenV (pu (nilCheckA y10) h) fun y11 h =>
  thenV (pu (addP y11 1) h) fun y12 h =>
  thenV (ld1 y12 h) fun y13 h =>
  thenV (some (y13, h)) fun y14 h =>
  thenV (guardK (bOf y14 == some false) (some (x0, h)) h) fun y15 h =>
  thenV (guardK (bOf y14 == some false) (pu (nilCheckA y15) h) h) fun y16 h =>
  thenV (guardK (bOf y14 == some false) (pu (addP y16 0) h) h) fun y17 h =>
  thenV (guardK (bOf y14 == some false) (ld1 y17 h) h) fun y18 h =>
  thenV (guardK (bOf y14 == some false) (pu (nilCheckA y18) h) h) fun y19 h =>
  thenV (guardK (bOf y14 == some false) (pu (addP y19 5) h) h) fun y20 h =>
  thenV (guardK (bOf y14 == some false) (ld1 y20 h) h) fun y21 h =>
  thenV (guardK (bOf y14 == some false) (some (x0, h)) h) fun y22 h =>
  thenV (guardK (bOf y14 == some false) (pu (nilCheckA y22) h) h) fun y23 h =>
  thenV (guardK (bOf y14 == some false) (pu (addP y23 1) h) h) fun y24 h =>
  thenV (guardK (bOf y14 == some false) (ld1 y24 h) h) fun y25 h =>
  thenV (guardK (bOf y14 == some false) (pu (bin Tryz.prog .neq 3 y21 y25) h) h) fun y26 h =>
  thenV (match y14 with | .bool t => some (if t then (.bool true) else y26, h) | _ => none) fun y27 h =>
  thenV (some (y27, h)) fun y6 h =>
  (match y6 with
  | .bool true =>
  thenV (some ((.int .i64 9), h)) fun y2_1 h =>
  some (y2_1, h)
  | .bool false =>
  thenV (some ((.int .i64 0), h)) fun y2_1 h =>
  some (y2_1, h)
  | _ => none)
  | _ => none)
theorem t132_eq (C : CallF) (x0 : Value) (h : Heap) : bodyK Tryz.prog C Tryz.f132 [x0] h = t132 C x0 h :=
  (bodyB_eq Tryz.prog C Tryz.f132 [x0] h (by kernel_rfl)).trans (by kernel_rfl)


/-- stolon/rs.sizes -/
noncomputable def t162 (C : CallF) (x0 x1 : Value) (h : Heap) : Out :=
  thenV (some ((.bool false), h)) fun _y4 h =>
  thenV (some (x0, h)) fun y5 h =>
  thenV (pu (bin Tryz.prog .leq 3 (.int .i64 1) y5) h) fun y6 h =>
  thenV (some (y6, h)) fun y7 h =>
  thenV (guardK (bOf y7 == some true) (some (x0, h)) h) fun y8 h =>
  thenV (guardK (bOf y7 == some true) (some (x1, h)) h) fun y9 h =>
  thenV (guardK (bOf y7 == some true) (pu (bin Tryz.prog .leq 3 y8 y9) h) h) fun y10 h =>
  thenV (match y7 with | .bool t => some (if t then y10 else (.bool false), h) | _ => none) fun y11 h =>
  thenV (some (y11, h)) fun y12 h =>
  thenV (guardK (bOf y12 == some true) (some (x1, h)) h) fun y13 h =>
  thenV (guardK (bOf y12 == some true) (pu (bin Tryz.prog .leq 3 y13 (.int .i64 255)) h) h) fun y14 h =>
  thenV (match y12 with | .bool t => some (if t then y14 else (.bool false), h) | _ => none) fun y15 h =>
  thenV (some (y15, h)) fun y4_1 h =>
  some (y4_1, h)
theorem t162_eq (C : CallF) (x0 x1 : Value) (h : Heap) : bodyK Tryz.prog C Tryz.f162 [x0, x1] h = t162 C x0 x1 h :=
  (bodyB_eq Tryz.prog C Tryz.f162 [x0, x1] h (by kernel_rfl)).trans (by kernel_rfl)


/-- stolon/rs.row -/
noncomputable def t164 (C : CallF) (x0 x1 : Value) (h : Heap) : Out :=
  thenV (box x0 h) fun y2 h =>
  thenV (some ((.slice none 0 0), h)) fun _y4 h =>
  thenV (pu (addP y2 2) h) fun y5 h =>
  thenV (ld1 y5 h) fun y6 h =>
  thenV (some (x1, h)) fun y7 h =>
  thenV (pu (addP y2 1) h) fun y8 h =>
  thenV (ld1 y8 h) fun y9 h =>
  thenV (pu (bin Tryz.prog .mul 3 y7 y9) h) fun y10 h =>
  thenV (some (x1, h)) fun y11 h =>
  thenV (pu (bin Tryz.prog .add 3 y11 (.int .i64 1)) h) fun y12 h =>
  thenV (pu (addP y2 1) h) fun y13 h =>
  thenV (ld1 y13 h) fun y14 h =>
  thenV (pu (bin Tryz.prog .mul 3 y12 y14) h) fun y15 h =>
  thenV (some (x1, h)) fun y16 h =>
  thenV (pu (bin Tryz.prog .add 3 y16 (.int .i64 1)) h) fun y17 h =>
  thenV (pu (addP y2 1) h) fun y18 h =>
  thenV (ld1 y18 h) fun y19 h =>
  thenV (pu (bin Tryz.prog .mul 3 y17 y19) h) fun y20 h =>
  thenV (pu (slR 1 y6 (some y10) (some y15) (some y20)) h) fun y21 h =>
  thenV (some (y21, h)) fun y4_1 h =>
  some (y4_1, h)
theorem t164_eq (C : CallF) (x0 x1 : Value) (h : Heap) : bodyK Tryz.prog C Tryz.f164 [x0, x1] h = t164 C x0 x1 h :=
  (bodyB_eq Tryz.prog C Tryz.f164 [x0, x1] h (by kernel_rfl)).trans (by kernel_rfl)


/-- (*stolon/digest.Reader).U32 -/
noncomputable def t167 (C : CallF) (x0 : Value) (h : Heap) : Out :=
  thenV (some ((.int .u32 0), h)) fun _y2 h =>
  thenV (some (x0, h)) fun y3 h =>
  thenV (C 172 [y3, (.int .i64 4)] h) fun y4 h =>
  thenV (cvI .u32 y4 h) fun y5 h =>
  thenV (some (y5, h)) fun y2_1 h =>
  some (y2_1, h)
theorem t167_eq (C : CallF) (x0 : Value) (h : Heap) : bodyK Tryz.prog C Tryz.f167 [x0] h = t167 C x0 h :=
  (bodyB_eq Tryz.prog C Tryz.f167 [x0] h (by kernel_rfl)).trans (by kernel_rfl)


/-- (*stolon/digest.Reader).U16 -/
noncomputable def t168 (C : CallF) (x0 : Value) (h : Heap) : Out :=
  thenV (some ((.int .u16 0), h)) fun _y2 h =>
  thenV (some (x0, h)) fun y3 h =>
  thenV (C 172 [y3, (.int .i64 2)] h) fun y4 h =>
  thenV (cvI .u16 y4 h) fun y5 h =>
  thenV (some (y5, h)) fun y2_1 h =>
  some (y2_1, h)
theorem t168_eq (C : CallF) (x0 : Value) (h : Heap) : bodyK Tryz.prog C Tryz.f168 [x0] h = t168 C x0 h :=
  (bodyB_eq Tryz.prog C Tryz.f168 [x0] h (by kernel_rfl)).trans (by kernel_rfl)


/-- (*stolon/digest.Reader).Raw -/
noncomputable def t169 (C : CallF) (x0 x1 : Value) (h : Heap) : Out :=
  thenV (some ((.slice none 0 0), h)) fun _y4 h =>
  thenV (some (x0, h)) fun y5 h =>
  thenV (some (x1, h)) fun y6 h =>
  thenV (C 209 [y5, y6] h) fun y7 h =>
  thenV (C 171 [y7] h) fun y8 h =>
  thenV (some (y8, h)) fun y4_1 h =>
  some (y4_1, h)
theorem t169_eq (C : CallF) (x0 x1 : Value) (h : Heap) : bodyK Tryz.prog C Tryz.f169 [x0, x1] h = t169 C x0 x1 h :=
  (bodyB_eq Tryz.prog C Tryz.f169 [x0, x1] h (by kernel_rfl)).trans (by kernel_rfl)


/-- (*stolon/digest.Reader).Err -/
noncomputable def t170 (C : CallF) (x0 : Value) (h : Heap) : Out :=
  thenV (some ((.int .i64 0), h)) fun _y2 h =>
  thenV (some (x0, h)) fun y3 h =>
  thenV (pu (bin Tryz.prog .eql 210 y3 (.pointer none)) h) fun y4 h =>
  (match y4 with
  | .bool true =>
  thenV (some ((.int .i64 1), h)) fun y2_1 h =>
  some (y2_1, h)
  | .bool false =>
  thenV (some (x0, h)) fun y5 h =>
  thenV (pu (nilCheckA y5) h) fun y6 h =>
  thenV (pu (addP y6 1) h) fun y7 h =>
  thenV (ld1 y7 h) fun y8 h =>
  thenV (some (y8, h)) fun y2_1 h =>
  some (y2_1, h)
  | _ => none)
theorem t170_eq (C : CallF) (x0 : Value) (h : Heap) : bodyK Tryz.prog C Tryz.f170 [x0] h = t170 C x0 h :=
  (bodyB_eq Tryz.prog C Tryz.f170 [x0] h (by kernel_rfl)).trans (by kernel_rfl)


/-- (*stolon/digest.Reader).Text -/
noncomputable def t174 (C : CallF) (x0 : Value) (h : Heap) : Out :=
  thenV (some ((.slice none 0 0), h)) fun _y2 h =>
  thenV (some (x0, h)) fun y5 h =>
  thenV (pu (bin Tryz.prog .eql 210 y5 (.pointer none)) h) fun y6 h =>
  thenV (some (y6, h)) fun y7 h =>
  thenV (guardK (bOf y7 == some false) (some (x0, h)) h) fun y8 h =>
  thenV (guardK (bOf y7 == some false) (pu (nilCheckA y8) h) h) fun y9 h =>
  thenV (guardK (bOf y7 == some false) (pu (addP y9 1) h) h) fun y10 h =>
  thenV (guardK (bOf y7 == some false) (ld1 y10 h) h) fun y11 h =>
  thenV (guardK (bOf y7 == some false) (pu (bin Tryz.prog .neq 25 y11 (.int .i64 0)) h) h) fun y12 h =>
  thenV (match y7 with | .bool t => some (if t then (.bool true) else y12, h) | _ => none) fun y13 h =>
  (match y13 with
  | .bool true =>
  thenV (some ((.slice none 0 0), h)) fun y2_1 h =>
  some (y2_1, h)
  | .bool false =>
  thenV (some (x0, h)) fun y14 h =>
  thenV (pu (nilCheckA y14) h) fun y15 h =>
  thenV (pu (addP y15 0) h) fun y16 h =>
  thenV (ld1 y16 h) fun y17 h =>
  thenV (some (y17, h)) fun y3 h =>
  thenV (some (x0, h)) fun y18 h =>
  thenV (some (x0, h)) fun y19 h =>
  thenV (C 172 [y19, (.int .i64 2)] h) fun y20 h =>
  thenV (cvI .i64 y20 h) fun y21 h =>
  thenV (C 209 [y18, y21] h) fun y22 h =>
  thenV (some (y22, h)) fun y4 h =>
  thenV (some (x0, h)) fun y23 h =>
  thenV (pu (nilCheckA y23) h) fun y24 h =>
  thenV (pu (addP y24 1) h) fun y25 h =>
  thenV (ld1 y25 h) fun y26 h =>
  thenV (pu (bin Tryz.prog .neq 25 y26 (.int .i64 0)) h) fun y27 h =>
  (match y27 with
  | .bool true =>
  thenV (some (x0, h)) fun y28 h =>
  thenV (some (y3, h)) fun y29 h =>
  thenV (pu (nilCheckA y28) h) fun y30 h =>
  thenV (pu (addP y30 0) h) fun y31 h =>
  thenV (stN 1 y31 y29 h) fun _ h =>
  thenV (some ((.slice none 0 0), h)) fun y2_1 h =>
  some (y2_1, h)
  | .bool false =>
  thenV (some (y4, h)) fun y32 h =>
  thenV (C 171 [y32] h) fun y33 h =>
  thenV (some (y33, h)) fun y2_1 h =>
  some (y2_1, h)
  | _ => none)
  | _ => none)
theorem t174_eq (C : CallF) (x0 : Value) (h : Heap) : bodyK Tryz.prog C Tryz.f174 [x0] h = t174 C x0 h :=
  (bodyB_eq Tryz.prog C Tryz.f174 [x0] h (by kernel_rfl)).trans (by kernel_rfl)


/-- (*stolon/digest.Reader).Rest -/
noncomputable def t175 (C : CallF) (x0 : Value) (h : Heap) : Out :=
  thenV (some ((.int .i64 0), h)) fun _y2 h =>
  thenV (some (x0, h)) fun y3 h =>
  thenV (pu (bin Tryz.prog .eql 210 y3 (.pointer none)) h) fun y4 h =>
  (match y4 with
  | .bool true =>
  thenV (some ((.int .i64 0), h)) fun y2_1 h =>
  some (y2_1, h)
  | .bool false =>
  thenV (some (x0, h)) fun y5 h =>
  thenV (pu (nilCheckA y5) h) fun y6 h =>
  thenV (pu (addP y6 0) h) fun y7 h =>
  thenV (ld1 y7 h) fun y8 h =>
  thenV (pu (lenL y8) h) fun y9 h =>
  thenV (some (y9, h)) fun y2_1 h =>
  some (y2_1, h)
  | _ => none)
theorem t175_eq (C : CallF) (x0 : Value) (h : Heap) : bodyK Tryz.prog C Tryz.f175 [x0] h = t175 C x0 h :=
  (bodyB_eq Tryz.prog C Tryz.f175 [x0] h (by kernel_rfl)).trans (by kernel_rfl)


/-- stolon/disk.seal -/
noncomputable def t179 (C : CallF) (x0 : Value) (h : Heap) : Out :=
  thenV (some ((.slice none 0 0), h)) fun _y2 h =>
  thenV (some (x0, h)) fun y8 h =>
  thenV (C 121 [y8] h) fun y9 h =>
  thenV (some (y9, h)) fun y7 h =>
  thenV (pu (extractA y7 0) h) fun y10 h =>
  thenV (pu (extractA y7 1) h) fun y11 h =>
  thenV (some (y10, h)) fun y3 h =>
  thenV (some (y11, h)) fun _y4 h =>
  thenV (mkR 1 1 (.int .u8 0) (.int .i64 128) (.int .i64 128) h) fun y12 h =>
  thenV (some (y12, h)) fun y5 h =>
  thenV (some (y5, h)) fun y13 h =>
  thenV (pu (slR 1 y13 (some (.int .i64 4)) none none) h) fun y14 h =>
  thenV (some (y3, h)) fun y15 h =>
  thenV (copyA 1 y14 y15 h) fun _y16 h =>
  thenV (some (y5, h)) fun y17 h =>
  thenV (pu (slR 1 y17 (some (.int .i64 4)) none none) h) fun y18 h =>
  thenV (C 208 [y18] h) fun y19 h =>
  thenV (some (y19, h)) fun y6 h =>
  thenV (some (y5, h)) fun y20 h =>
  thenV (some (y5, h)) fun y21 h =>
  thenV (some (y5, h)) fun y22 h =>
  thenV (some (y5, h)) fun y23 h =>
  thenV (some (y6, h)) fun y24 h =>
  thenV (pu (bin Tryz.prog .shr 186 y24 (.int .u64 24)) h) fun y25 h =>
  thenV (cvI .u8 y25 h) fun y26 h =>
  thenV (some (y6, h)) fun y27 h =>
  thenV (pu (bin Tryz.prog .shr 186 y27 (.int .u64 16)) h) fun y28 h =>
  thenV (cvI .u8 y28 h) fun y29 h =>
  thenV (some (y6, h)) fun y30 h =>
  thenV (pu (bin Tryz.prog .shr 186 y30 (.int .u64 8)) h) fun y31 h =>
  thenV (cvI .u8 y31 h) fun y32 h =>
  thenV (some (y6, h)) fun y33 h =>
  thenV (cvI .u8 y33 h) fun y34 h =>
  thenV (pu (idxS 1 y20 (.int .i64 0)) h) fun y35 h =>
  thenV (stN 1 y35 y26 h) fun _ h =>
  thenV (pu (idxS 1 y21 (.int .i64 1)) h) fun y36 h =>
  thenV (stN 1 y36 y29 h) fun _ h =>
  thenV (pu (idxS 1 y22 (.int .i64 2)) h) fun y37 h =>
  thenV (stN 1 y37 y32 h) fun _ h =>
  thenV (pu (idxS 1 y23 (.int .i64 3)) h) fun y38 h =>
  thenV (stN 1 y38 y34 h) fun _ h =>
  thenV (some (y5, h)) fun y39 h =>
  thenV (some (y39, h)) fun y2_1 h =>
  some (y2_1, h)
theorem t179_eq (C : CallF) (x0 : Value) (h : Heap) : bodyK Tryz.prog C Tryz.f179 [x0] h = t179 C x0 h :=
  (bodyB_eq Tryz.prog C Tryz.f179 [x0] h (by kernel_rfl)).trans (by kernel_rfl)


/-- (*stolon/digest.Writer).room -/
noncomputable def t181 (C : CallF) (x0 x1 : Value) (h : Heap) : Out :=
  thenV (some ((.bool false), h)) fun _y4 h =>
  thenV (some (x0, h)) fun y5 h =>
  thenV (pu (bin Tryz.prog .eql 218 y5 (.pointer none)) h) fun y6 h =>
  thenV (some (y6, h)) fun y7 h =>
  thenV (guardK (bOf y7 == some false) (some (x0, h)) h) fun y8 h =>
  thenV (guardK (bOf y7 == some false) (pu (nilCheckA y8) h) h) fun y9 h =>
  thenV (guardK (bOf y7 == some false) (pu (addP y9 1) h) h) fun y10 h =>
  thenV (guardK (bOf y7 == some false) (ld1 y10 h) h) fun y11 h =>
  thenV (match y7 with | .bool t => some (if t then (.bool true) else y11, h) | _ => none) fun y12 h =>
  (match y12 with
  | .bool true =>
  thenV (some ((.bool false), h)) fun y4_1 h =>
  some (y4_1, h)
  | .bool false =>
  thenV (some (x0, h)) fun y13 h =>
  thenV (some (x1, h)) fun y14 h =>
  thenV (some (x0, h)) fun y15 h =>
  thenV (pu (nilCheckA y15) h) fun y16 h =>
  thenV (pu (addP y16 0) h) fun y17 h =>
  thenV (ld1 y17 h) fun y18 h =>
  thenV (some (x0, h)) fun y19 h =>
  thenV (pu (nilCheckA y19) h) fun y20 h =>
  thenV (pu (addP y20 2) h) fun y21 h =>
  thenV (ld1 y21 h) fun y22 h =>
  thenV (pu (lenL y22) h) fun y23 h =>
  thenV (pu (bin Tryz.prog .sub 3 y18 y23) h) fun y24 h =>
  thenV (pu (bin Tryz.prog .gtr 3 y14 y24) h) fun y25 h =>
  thenV (pu (nilCheckA y13) h) fun y26 h =>
  thenV (pu (addP y26 1) h) fun y27 h =>
  thenV (stN 1 y27 y25 h) fun _ h =>
  thenV (some (x0, h)) fun y28 h =>
  thenV (pu (nilCheckA y28) h) fun y29 h =>
  thenV (pu (addP y29 1) h) fun y30 h =>
  thenV (ld1 y30 h) fun y31 h =>
  thenV (pu (unA .not y31) h) fun y32 h =>
  thenV (some (y32, h)) fun y4_1 h =>
  some (y4_1, h)
  | _ => none)
theorem t181_eq (C : CallF) (x0 x1 : Value) (h : Heap) : bodyK Tryz.prog C Tryz.f181 [x0, x1] h = t181 C x0 x1 h :=
  (bodyB_eq Tryz.prog C Tryz.f181 [x0, x1] h (by kernel_rfl)).trans (by kernel_rfl)


/-- (*stolon/rs.Field).Mul -/
noncomputable def t207 (C : CallF) (x0 x1 x2 : Value) (h : Heap) : Out :=
  thenV (some ((.int .u8 0), h)) fun _y6 h =>
  thenV (some (x0, h)) fun y7 h =>
  thenV (pu (bin Tryz.prog .eql 114 y7 (.pointer none)) h) fun y8 h =>
  thenV (some (y8, h)) fun y9 h =>
  thenV (guardK (bOf y9 == some false) (some (x1, h)) h) fun y10 h =>
  thenV (guardK (bOf y9 == some false) (pu (bin Tryz.prog .eql 5 y10 (.int .u8 0)) h) h) fun y11 h =>
  thenV (match y9 with | .bool t => some (if t then (.bool true) else y11, h) | _ => none) fun y12 h =>
  thenV (some (y12, h)) fun y13 h =>
  thenV (guardK (bOf y13 == some false) (some (x2, h)) h) fun y14 h =>
  thenV (guardK (bOf y13 == some false) (pu (bin Tryz.prog .eql 5 y14 (.int .u8 0)) h) h) fun y15 h =>
  thenV (match y13 with | .bool t => some (if t then (.bool true) else y15, h) | _ => none) fun y16 h =>
  (match y16 with
  | .bool true =>
  thenV (some ((.int .u8 0), h)) fun y6_1 h =>
  some (y6_1, h)
  | .bool false =>
  thenV (some (x0, h)) fun y17 h =>
  thenV (pu (nilCheckA y17) h) fun y18 h =>
  thenV (pu (addP y18 0) h) fun y19 h =>
  thenV (some (x0, h)) fun y20 h =>
  thenV (some (.func (.func 232) #[y20] #[], h)) fun y21 h =>
  thenV (C 231 [y19, y21] h) fun _y22 h =>
  thenV (some (x0, h)) fun y23 h =>
  thenV (some (x0, h)) fun y24 h =>
  thenV (some (x1, h)) fun y25 h =>
  thenV (pu (nilCheckA y24) h) fun y26 h =>
  thenV (pu (addP y26 513) h) fun y27 h =>
  thenV (pu (idxA 256 1 y27 y25) h) fun y28 h =>
  thenV (ld1 y28 h) fun y29 h =>
  thenV (some (x0, h)) fun y30 h =>
  thenV (some (x2, h)) fun y31 h =>
  thenV (pu (nilCheckA y30) h) fun y32 h =>
  thenV (pu (addP y32 513) h) fun y33 h =>
  thenV (pu (idxA 256 1 y33 y31) h) fun y34 h =>
  thenV (ld1 y34 h) fun y35 h =>
  thenV (pu (bin Tryz.prog .add 3 y29 y35) h) fun y36 h =>
  thenV (pu (nilCheckA y23) h) fun y37 h =>
  thenV (pu (addP y37 3) h) fun y38 h =>
  thenV (pu (idxA 510 1 y38 y36) h) fun y39 h =>
  thenV (ld1 y39 h) fun y40 h =>
  thenV (some (y40, h)) fun y6_1 h =>
  some (y6_1, h)
  | _ => none)
theorem t207_eq (C : CallF) (x0 x1 x2 : Value) (h : Heap) : bodyK Tryz.prog C Tryz.f207 [x0, x1, x2] h = t207 C x0 x1 x2 h :=
  (bodyB_eq Tryz.prog C Tryz.f207 [x0, x1, x2] h (by kernel_rfl)).trans (by kernel_rfl)


/-- (*stolon/digest.Reader).digest -/
noncomputable def t210 (C : CallF) (x0 : Value) (h : Heap) : Out :=
  thenV (newC (List.replicate 32 (.int .u8 0)) h) fun y2 h =>
  thenV (newC (List.replicate 32 (.int .u8 0)) h) fun y3 h =>
  thenV (pu (sliceArr 32 1 y3 none none none) h) fun y4 h =>
  thenV (some (x0, h)) fun y5 h =>
  thenV (C 209 [y5, (.int .i64 32)] h) fun y6 h =>
  thenV (copyA 1 y4 y6 h) fun y7 h =>
  thenV (ldN 32 y3 h) fun y8 h =>
  thenV (stN 32 y2 y8 h) fun _ h =>
  resultsA Tryz.prog Tryz.f210.results.toList (mkF 9 (up (bs [x0]) [(2, y2), (3, y3), (4, y4), (5, y5), (6, y6), (7, y7), (8, y8)])) h
theorem t210_eq (C : CallF) (x0 : Value) (h : Heap) : bodyK Tryz.prog C Tryz.f210 [x0] h = t210 C x0 h :=
  (bodyB_eq Tryz.prog C Tryz.f210 [x0] h (by kernel_rfl)).trans (by kernel_rfl)


/-- (*stolon/digest.Reader).End -/
noncomputable def t211 (C : CallF) (x0 : Value) (h : Heap) : Out :=
  thenV (some ((.int .i64 0), h)) fun _y2 h =>
  thenV (some (x0, h)) fun y4 h =>
  thenV (C 170 [y4] h) fun y5 h =>
  thenV (some (y5, h)) fun y3 h =>
  thenV (some (y3, h)) fun y6 h =>
  thenV (pu (bin Tryz.prog .neq 25 y6 (.int .i64 0)) h) fun y7 h =>
  (match y7 with
  | .bool true =>
  thenV (some (y3, h)) fun y8 h =>
  thenV (some (y8, h)) fun y2_1 h =>
  some (y2_1, h)
  | .bool false =>
  thenV (some (x0, h)) fun y9 h =>
  thenV (pu (nilCheckA y9) h) fun y10 h =>
  thenV (pu (addP y10 0) h) fun y11 h =>
  thenV (ld1 y11 h) fun y12 h =>
  thenV (pu (lenL y12) h) fun y13 h =>
  thenV (pu (bin Tryz.prog .gtr 3 y13 (.int .i64 0)) h) fun y14 h =>
  (match y14 with
  | .bool true =>
  thenV (some ((.int .i64 5), h)) fun y2_1 h =>
  some (y2_1, h)
  | .bool false =>
  thenV (some ((.int .i64 0), h)) fun y2_1 h =>
  some (y2_1, h)
  | _ => none)
  | _ => none)
theorem t211_eq (C : CallF) (x0 : Value) (h : Heap) : bodyK Tryz.prog C Tryz.f211 [x0] h = t211 C x0 h :=
  (bodyB_eq Tryz.prog C Tryz.f211 [x0] h (by kernel_rfl)).trans (by kernel_rfl)


/-- stolon/rs.zero -/
noncomputable def t225 (C : CallF) (x0 x1 : Value) (h : Heap) : Out :=
  thenV (newC [(.int .i64 0), (.int .i64 0), (.slice none 0 0)] h) fun y4 h =>
  thenV (some (x0, h)) fun y5 h =>
  thenV (some (x1, h)) fun y6 h =>
  thenV (some (x0, h)) fun y7 h =>
  thenV (some (x1, h)) fun y8 h =>
  thenV (pu (bin Tryz.prog .mul 3 y7 y8) h) fun y9 h =>
  thenV (mkR 1 1 (.int .u8 0) y9 y9 h) fun y10 h =>
  thenV (pu (bldR [(.int .i64 0), (.int .i64 0), (.slice none 0 0)] [(0, 1, y5), (1, 1, y6), (2, 1, y10)]) h) fun y11 h =>
  thenV (stN 3 y4 y11 h) fun _ h =>
  resultsA Tryz.prog Tryz.f225.results.toList (mkF 12 (up (bs [x0, x1]) [(4, y4), (5, y5), (6, y6), (7, y7), (8, y8), (9, y9), (10, y10), (11, y11)])) h
theorem t225_eq (C : CallF) (x0 x1 : Value) (h : Heap) : bodyK Tryz.prog C Tryz.f225 [x0, x1] h = t225 C x0 x1 h :=
  (bodyB_eq Tryz.prog C Tryz.f225 [x0, x1] h (by kernel_rfl)).trans (by kernel_rfl)


/-- (*stolon/rs.Field).Pow -/
noncomputable def t226 (C : CallF) (x0 x1 x2 : Value) (h : Heap) : Out :=
  thenV (some ((.int .u8 0), h)) fun _y6 h =>
  thenV (some (x0, h)) fun y7 h =>
  thenV (pu (bin Tryz.prog .eql 114 y7 (.pointer none)) h) fun y8 h =>
  (match y8 with
  | .bool true =>
  thenV (some ((.int .u8 0), h)) fun y6_1 h =>
  some (y6_1, h)
  | .bool false =>
  thenV (some (x2, h)) fun y9 h =>
  thenV (pu (bin Tryz.prog .leq 3 y9 (.int .i64 0)) h) fun y10 h =>
  (match y10 with
  | .bool true =>
  thenV (some ((.int .u8 1), h)) fun y6_1 h =>
  some (y6_1, h)
  | .bool false =>
  thenV (some (x1, h)) fun y11 h =>
  thenV (pu (bin Tryz.prog .eql 5 y11 (.int .u8 0)) h) fun y12 h =>
  (match y12 with
  | .bool true =>
  thenV (some ((.int .u8 0), h)) fun y6_1 h =>
  some (y6_1, h)
  | .bool false =>
  thenV (some (x0, h)) fun y13 h =>
  thenV (pu (nilCheckA y13) h) fun y14 h =>
  thenV (pu (addP y14 0) h) fun y15 h =>
  thenV (some (x0, h)) fun y16 h =>
  thenV (some (.func (.func 232) #[y16] #[], h)) fun y17 h =>
  thenV (C 231 [y15, y17] h) fun _y18 h =>
  thenV (some (x0, h)) fun y19 h =>
  thenV (some (x0, h)) fun y20 h =>
  thenV (some (x1, h)) fun y21 h =>
  thenV (pu (nilCheckA y20) h) fun y22 h =>
  thenV (pu (addP y22 513) h) fun y23 h =>
  thenV (pu (idxA 256 1 y23 y21) h) fun y24 h =>
  thenV (ld1 y24 h) fun y25 h =>
  thenV (some (x2, h)) fun y26 h =>
  thenV (pu (bin Tryz.prog .rem 3 y26 (.int .i64 255)) h) fun y27 h =>
  thenV (pu (bin Tryz.prog .mul 3 y25 y27) h) fun y28 h =>
  thenV (pu (bin Tryz.prog .rem 3 y28 (.int .i64 255)) h) fun y29 h =>
  thenV (pu (nilCheckA y19) h) fun y30 h =>
  thenV (pu (addP y30 3) h) fun y31 h =>
  thenV (pu (idxA 510 1 y31 y29) h) fun y32 h =>
  thenV (ld1 y32 h) fun y33 h =>
  thenV (some (y33, h)) fun y6_1 h =>
  some (y6_1, h)
  | _ => none)
  | _ => none)
  | _ => none)
theorem t226_eq (C : CallF) (x0 x1 x2 : Value) (h : Heap) : bodyK Tryz.prog C Tryz.f226 [x0, x1, x2] h = t226 C x0 x1 x2 h :=
  (bodyB_eq Tryz.prog C Tryz.f226 [x0, x1, x2] h (by kernel_rfl)).trans (by kernel_rfl)


/-- stolon/rs.Valid -/
noncomputable def t227 (C : CallF) (x0 : Value) (h : Heap) : Out :=
  thenV (box x0 h) fun y1 h =>
  thenV (some ((.bool false), h)) fun _y2 h =>
  thenV (pu (addP y1 0) h) fun y3 h =>
  thenV (ld1 y3 h) fun y4 h =>
  thenV (pu (bin Tryz.prog .geq 3 y4 (.int .i64 1)) h) fun y5 h =>
  thenV (some (y5, h)) fun y6 h =>
  thenV (guardK (bOf y6 == some true) (pu (addP y1 0) h) h) fun y7 h =>
  thenV (guardK (bOf y6 == some true) (ld1 y7 h) h) fun y8 h =>
  thenV (guardK (bOf y6 == some true) (pu (bin Tryz.prog .leq 3 y8 (.int .i64 255)) h) h) fun y9 h =>
  thenV (match y6 with | .bool t => some (if t then y9 else (.bool false), h) | _ => none) fun y10 h =>
  thenV (some (y10, h)) fun y11 h =>
  thenV (guardK (bOf y11 == some true) (pu (addP y1 1) h) h) fun y12 h =>
  thenV (guardK (bOf y11 == some true) (ld1 y12 h) h) fun y13 h =>
  thenV (guardK (bOf y11 == some true) (pu (bin Tryz.prog .geq 3 y13 (.int .i64 1)) h) h) fun y14 h =>
  thenV (match y11 with | .bool t => some (if t then y14 else (.bool false), h) | _ => none) fun y15 h =>
  thenV (some (y15, h)) fun y16 h =>
  thenV (guardK (bOf y16 == some true) (pu (addP y1 1) h) h) fun y17 h =>
  thenV (guardK (bOf y16 == some true) (ld1 y17 h) h) fun y18 h =>
  thenV (guardK (bOf y16 == some true) (pu (bin Tryz.prog .leq 3 y18 (.int .i64 255)) h) h) fun y19 h =>
  thenV (match y16 with | .bool t => some (if t then y19 else (.bool false), h) | _ => none) fun y20 h =>
  thenV (some (y20, h)) fun y21 h =>
  thenV (guardK (bOf y21 == some true) (pu (addP y1 2) h) h) fun y22 h =>
  thenV (guardK (bOf y21 == some true) (ld1 y22 h) h) fun y23 h =>
  thenV (guardK (bOf y21 == some true) (pu (lenL y23) h) h) fun y24 h =>
  thenV (guardK (bOf y21 == some true) (pu (addP y1 0) h) h) fun y25 h =>
  thenV (guardK (bOf y21 == some true) (ld1 y25 h) h) fun y26 h =>
  thenV (guardK (bOf y21 == some true) (pu (addP y1 1) h) h) fun y27 h =>
  thenV (guardK (bOf y21 == some true) (ld1 y27 h) h) fun y28 h =>
  thenV (guardK (bOf y21 == some true) (pu (bin Tryz.prog .mul 3 y26 y28) h) h) fun y29 h =>
  thenV (guardK (bOf y21 == some true) (pu (bin Tryz.prog .eql 3 y24 y29) h) h) fun y30 h =>
  thenV (match y21 with | .bool t => some (if t then y30 else (.bool false), h) | _ => none) fun y31 h =>
  thenV (some (y31, h)) fun y2_1 h =>
  some (y2_1, h)
theorem t227_eq (C : CallF) (x0 : Value) (h : Heap) : bodyK Tryz.prog C Tryz.f227 [x0] h = t227 C x0 h :=
  (bodyB_eq Tryz.prog C Tryz.f227 [x0] h (by kernel_rfl)).trans (by kernel_rfl)


/-- stolon/rs.clone -/
noncomputable def t230 (C : CallF) (x0 : Value) (h : Heap) : Out :=
  thenV (box x0 h) fun y1 h =>
  thenV (newC [(.int .i64 0), (.int .i64 0), (.slice none 0 0)] h) fun y2 h =>
  let g2_0 := h
  thenV (pu (addP y1 0) g2_0) fun y3 g2_1 =>
  thenV (ld1 y3 g2_1) fun y4 g2_2 =>
  thenV (pu (addP y1 1) g2_2) fun y5 g2_3 =>
  thenV (ld1 y5 g2_3) fun y6 g2_4 =>
  thenV (pu (addP y1 2) g2_4) fun y8 g2_5 =>
  thenV (ld1 y8 g2_5) fun y9 g2_6 =>
  thenV (bslR 1 (.int .u8 0) 0 [] g2_6) fun y7 g2_7 =>
  thenV (appendA 1 1 y7 y9 g2_7) fun y10 g2_8 =>
  thenV (pu (bldR [(.int .i64 0), (.int .i64 0), (.slice none 0 0)] [(0, 1, y4), (1, 1, y6), (2, 1, y10)]) g2_8) fun y11 g2_9 =>
  thenV (stN 3 y2 y11 g2_9) fun _ g2_10 =>
  (match (chkR true (ld1 y3 g2_8) y4 && (chkR true (ld1 y5 g2_8) y6 && true)) with
  | true =>
  let h := g2_10
  resultsA Tryz.prog Tryz.f230.results.toList (mkF 12 (up (bs [x0]) [(1, y1), (2, y2), (3, y3), (4, y4), (5, y5), (6, y6), (7, y7), (8, y8), (9, y9), (10, y10), (11, y11)])) h
  | false => none)
theorem t230_eq (C : CallF) (x0 : Value) (h : Heap) : bodyK Tryz.prog C Tryz.f230 [x0] h = t230 C x0 h :=
  (bodyB_eq Tryz.prog C Tryz.f230 [x0] h (by kernel_rfl)).trans (by kernel_rfl)


/-- (*stolon/rs.Field).Inv -/
noncomputable def t247 (C : CallF) (x0 x1 : Value) (h : Heap) : Out :=
  thenV (some ((.int .u8 0), h)) fun _y4 h =>
  thenV (some ((.int .i64 0), h)) fun _y5 h =>
  thenV (some (x0, h)) fun y6 h =>
  thenV (pu (bin Tryz.prog .eql 114 y6 (.pointer none)) h) fun y7 h =>
  (match y7 with
  | .bool true =>
  thenV (some ((.int .u8 0), h)) fun y4_1 h =>
  thenV (some ((.int .i64 1), h)) fun y5_1 h =>
  some (.tuple #[y4_1, y5_1], h)
  | .bool false =>
  thenV (some (x1, h)) fun y8 h =>
  thenV (pu (bin Tryz.prog .eql 5 y8 (.int .u8 0)) h) fun y9 h =>
  (match y9 with
  | .bool true =>
  thenV (some ((.int .u8 0), h)) fun y4_1 h =>
  thenV (some ((.int .i64 2), h)) fun y5_1 h =>
  some (.tuple #[y4_1, y5_1], h)
  | .bool false =>
  thenV (some (x0, h)) fun y10 h =>
  thenV (pu (nilCheckA y10) h) fun y11 h =>
  thenV (pu (addP y11 0) h) fun y12 h =>
  thenV (some (x0, h)) fun y13 h =>
  thenV (some (.func (.func 232) #[y13] #[], h)) fun y14 h =>
  thenV (C 231 [y12, y14] h) fun _y15 h =>
  thenV (some (x0, h)) fun y16 h =>
  thenV (some (x0, h)) fun y17 h =>
  thenV (some (x1, h)) fun y18 h =>
  thenV (pu (nilCheckA y17) h) fun y19 h =>
  thenV (pu (addP y19 513) h) fun y20 h =>
  thenV (pu (idxA 256 1 y20 y18) h) fun y21 h =>
  thenV (ld1 y21 h) fun y22 h =>
  thenV (pu (bin Tryz.prog .sub 3 (.int .i64 255) y22) h) fun y23 h =>
  thenV (pu (nilCheckA y16) h) fun y24 h =>
  thenV (pu (addP y24 3) h) fun y25 h =>
  thenV (pu (idxA 510 1 y25 y23) h) fun y26 h =>
  thenV (ld1 y26 h) fun y27 h =>
  thenV (some (y27, h)) fun y4_1 h =>
  thenV (some ((.int .i64 0), h)) fun y5_1 h =>
  some (.tuple #[y4_1, y5_1], h)
  | _ => none)
  | _ => none)
theorem t247_eq (C : CallF) (x0 x1 : Value) (h : Heap) : bodyK Tryz.prog C Tryz.f247 [x0, x1] h = t247 C x0 x1 h :=
  (bodyB_eq Tryz.prog C Tryz.f247 [x0, x1] h (by kernel_rfl)).trans (by kernel_rfl)


/-- stolon/digest.CheckManifest -/
noncomputable def t68 (C : CallF) (x0 : Value) (h : Heap) : Out :=
  thenV (box x0 h) fun y1 h =>
  thenV (some ((.int .i64 0), h)) fun _y2 h =>
  thenV (pu (addP y1 0) h) fun y3 h =>
  thenV (ld1 y3 h) fun y4 h =>
  thenV (pu (addP y1 1) h) fun y5 h =>
  thenV (ld1 y5 h) fun y6 h =>
  thenV (pu (addP y1 2) h) fun y7 h =>
  thenV (ld1 y7 h) fun y8 h =>
  thenV (C 103 [y4, y6, y8] h) fun y9 h =>
  thenV (pu (unA .not y9) h) fun y10 h =>
  thenV (some (y10, h)) fun y11 h =>
  thenV (guardK (bOf y11 == some false) (pu (addP y1 3) h) h) fun y12 h =>
  thenV (guardK (bOf y11 == some false) (ld1 y12 h) h) fun y13 h =>
  thenV (guardK (bOf y11 == some false) (pu (bin Tryz.prog .lss 3 y13 (.int .i64 0)) h) h) fun y14 h =>
  thenV (match y11 with | .bool t => some (if t then (.bool true) else y14, h) | _ => none) fun y15 h =>
  thenV (some (y15, h)) fun y16 h =>
  thenV (guardK (bOf y16 == some false) (pu (addP y1 3) h) h) fun y17 h =>
  thenV (guardK (bOf y16 == some false) (ld1 y17 h) h) fun y18 h =>
  thenV (guardK (bOf y16 == some false) (pu (bin Tryz.prog .gtr 3 y18 (.int .i64 8192)) h) h) fun y19 h =>
  thenV (match y16 with | .bool t => some (if t then (.bool true) else y19, h) | _ => none) fun y20 h =>
  thenV (some (y20, h)) fun y21 h =>
  thenV (guardK (bOf y21 == some false) (pu (addP y1 36) h) h) fun y22 h =>
  thenV (guardK (bOf y21 == some false) (ld1 y22 h) h) fun y23 h =>
  thenV (guardK (bOf y21 == some false) (pu (lenL y23) h) h) fun y24 h =>
  thenV (guardK (bOf y21 == some false) (pu (addP y1 2) h) h) fun y25 h =>
  thenV (guardK (bOf y21 == some false) (ld1 y25 h) h) fun y26 h =>
  thenV (guardK (bOf y21 == some false) (pu (bin Tryz.prog .neq 3 y24 y26) h) h) fun y27 h =>
  thenV (match y21 with | .bool t => some (if t then (.bool true) else y27, h) | _ => none) fun y28 h =>
  (match y28 with
  | .bool true =>
  thenV (some ((.int .i64 2), h)) fun y2_1 h =>
  some (y2_1, h)
  | .bool false =>
  thenV (some ((.int .i64 0), h)) fun y2_1 h =>
  some (y2_1, h)
  | _ => none)
theorem t68_eq (C : CallF) (x0 : Value) (h : Heap) : bodyK Tryz.prog C Tryz.f68 [x0] h = t68 C x0 h :=
  (bodyB_eq Tryz.prog C Tryz.f68 [x0] h (by kernel_rfl)).trans (by kernel_rfl)


/-- (*stolon/disk.Journal).Base -/
noncomputable def t72 (C : CallF) (x0 : Value) (h : Heap) : Out :=
  thenV (some ((.int .i64 0), h)) fun _y2 h =>
  thenV (some (x0, h)) fun y3 h =>
  thenV (C 132 [y3] h) fun y4 h =>
  thenV (pu (bin Tryz.prog .neq 25 y4 (.int .i64 0)) h) fun y5 h =>
  thenV (some (y5, h)) fun y6 h =>
  thenV (guardK (bOf y6 == some false) (some (x0, h)) h) fun y7 h =>
  thenV (guardK (bOf y6 == some false) (pu (nilCheckA y7) h) h) fun y8 h =>
  thenV (guardK (bOf y6 == some false) (pu (addP y8 2) h) h) fun y9 h =>
  thenV (guardK (bOf y6 == some false) (ld1 y9 h) h) fun y10 h =>
  thenV (guardK (bOf y6 == some false) (pu (bin Tryz.prog .lss 3 y10 (.int .i64 0)) h) h) fun y11 h =>
  thenV (match y6 with | .bool t => some (if t then (.bool true) else y11, h) | _ => none) fun y12 h =>
  (match y12 with
  | .bool true =>
  thenV (some ((.int .i64 0), h)) fun y2_1 h =>
  some (y2_1, h)
  | .bool false =>
  let g5_0 := h
  thenV (some (x0, g5_0)) fun y13 g5_1 =>
  thenV (pu (nilCheckA y13) g5_1) fun y14 g5_2 =>
  thenV (pu (addP y14 3) g5_2) fun y15 g5_3 =>
  thenV (ld1 y15 g5_3) fun y16 g5_4 =>
  thenV (some (x0, g5_4)) fun y17 g5_5 =>
  thenV (pu (nilCheckA y17) g5_5) fun y18 g5_6 =>
  thenV (pu (addP y18 0) g5_6) fun y19 g5_7 =>
  thenV (ld1 y19 g5_7) fun y20 g5_8 =>
  thenV (C 107 [y20] g5_8) fun y21 g5_9 =>
  thenV (pu (bin Tryz.prog .mul 3 y16 y21) g5_9) fun y22 g5_10 =>
  thenV (pu (bin Tryz.prog .add 3 (.int .i64 2) y22) g5_10) fun y23 g5_11 =>
  thenV (some (y23, g5_11)) fun y2_1 g5_12 =>
  (match (chkR true (ld1 y15 g5_9) y16 && true) with
  | true =>
  let h := g5_12
  some (y2_1, h)
  | false => none)
  | _ => none)
theorem t72_eq (C : CallF) (x0 : Value) (h : Heap) : bodyK Tryz.prog C Tryz.f72 [x0] h = t72 C x0 h :=
  (bodyB_eq Tryz.prog C Tryz.f72 [x0] h (by kernel_rfl)).trans (by kernel_rfl)


/-- (*stolon/disk.Journal).Free -/
noncomputable def t79 (C : CallF) (x0 : Value) (h : Heap) : Out :=
  thenV (some ((.int .i64 0), h)) fun _y2 h =>
  thenV (some (x0, h)) fun y3 h =>
  thenV (C 132 [y3] h) fun y4 h =>
  thenV (pu (bin Tryz.prog .neq 25 y4 (.int .i64 0)) h) fun y5 h =>
  thenV (some (y5, h)) fun y6 h =>
  thenV (guardK (bOf y6 == some false) (some (x0, h)) h) fun y7 h =>
  thenV (guardK (bOf y6 == some false) (pu (nilCheckA y7) h) h) fun y8 h =>
  thenV (guardK (bOf y6 == some false) (pu (addP y8 6) h) h) fun y9 h =>
  thenV (guardK (bOf y6 == some false) (ld1 y9 h) h) fun y10 h =>
  thenV (guardK (bOf y6 == some false) (pu (unA .not y10) h) h) fun y11 h =>
  thenV (match y6 with | .bool t => some (if t then (.bool true) else y11, h) | _ => none) fun y12 h =>
  (match y12 with
  | .bool true =>
  thenV (some ((.int .i64 0), h)) fun y2_1 h =>
  some (y2_1, h)
  | .bool false =>
  let g5_0 := h
  thenV (some (x0, g5_0)) fun y13 g5_1 =>
  thenV (pu (nilCheckA y13) g5_1) fun y14 g5_2 =>
  thenV (pu (addP y14 0) g5_2) fun y15 g5_3 =>
  thenV (ld1 y15 g5_3) fun y16 g5_4 =>
  thenV (C 107 [y16] g5_4) fun y17 g5_5 =>
  thenV (some (x0, g5_5)) fun y18 g5_6 =>
  thenV (pu (nilCheckA y18) g5_6) fun y19 g5_7 =>
  thenV (pu (addP y19 7) g5_7) fun y20 g5_8 =>
  thenV (ld1 y20 g5_8) fun y21 g5_9 =>
  thenV (pu (bin Tryz.prog .sub 3 y17 y21) g5_9) fun y22 g5_10 =>
  thenV (some (y22, g5_10)) fun y2_1 g5_11 =>
  (match (chkR true (ld1 y20 g5_4) y21 && true) with
  | true =>
  let h := g5_11
  some (y2_1, h)
  | false => none)
  | _ => none)
theorem t79_eq (C : CallF) (x0 : Value) (h : Heap) : bodyK Tryz.prog C Tryz.f79 [x0] h = t79 C x0 h :=
  (bodyB_eq Tryz.prog C Tryz.f79 [x0] h (by kernel_rfl)).trans (by kernel_rfl)


/-- (*stolon/disk.Journal).Area -/
noncomputable def t115 (C : CallF) (x0 : Value) (h : Heap) : Out :=
  thenV (some ((.int .i64 0), h)) fun _y2 h =>
  thenV (some (x0, h)) fun y3 h =>
  thenV (C 132 [y3] h) fun y4 h =>
  thenV (pu (bin Tryz.prog .neq 25 y4 (.int .i64 0)) h) fun y5 h =>
  (match y5 with
  | .bool true =>
  thenV (some ((.int .i64 0), h)) fun y2_1 h =>
  some (y2_1, h)
  | .bool false =>
  thenV (some (x0, h)) fun y6 h =>
  thenV (pu (nilCheckA y6) h) fun y7 h =>
  thenV (pu (addP y7 0) h) fun y8 h =>
  thenV (ld1 y8 h) fun y9 h =>
  thenV (C 107 [y9] h) fun y10 h =>
  thenV (some (y10, h)) fun y2_1 h =>
  some (y2_1, h)
  | _ => none)
theorem t115_eq (C : CallF) (x0 : Value) (h : Heap) : bodyK Tryz.prog C Tryz.f115 [x0] h = t115 C x0 h :=
  (bodyB_eq Tryz.prog C Tryz.f115 [x0] h (by kernel_rfl)).trans (by kernel_rfl)


/-- (*stolon/digest.Writer).Text -/
noncomputable def t119 (C : CallF) (x0 x1 : Value) (h : Heap) : Out :=
  thenV (some (x0, h)) fun y4 h =>
  thenV (pu (bin Tryz.prog .eql 218 y4 (.pointer none)) h) fun y5 h =>
  (match y5 with
  | .bool true =>
  some (.tuple #[], h)
  | .bool false =>
  thenV (some (x1, h)) fun y6 h =>
  thenV (pu (lenL y6) h) fun y7 h =>
  thenV (pu (bin Tryz.prog .gtr 3 y7 (.int .i64 65535)) h) fun y8 h =>
  (match y8 with
  | .bool true =>
  thenV (some (x0, h)) fun y9 h =>
  thenV (pu (nilCheckA y9) h) fun y10 h =>
  thenV (pu (addP y10 1) h) fun y11 h =>
  thenV (stN 1 y11 (.bool true) h) fun _ h =>
  some (.tuple #[], h)
  | .bool false =>
  thenV (some (x0, h)) fun y12 h =>
  thenV (some (x1, h)) fun y13 h =>
  thenV (pu (lenL y13) h) fun y14 h =>
  thenV (pu (bin Tryz.prog .add 3 y14 (.int .i64 2)) h) fun y15 h =>
  thenV (C 181 [y12, y15] h) fun y16 h =>
  (match y16 with
  | .bool true =>
  thenV (some (x0, h)) fun y17 h =>
  thenV (some (x0, h)) fun y18 h =>
  thenV (pu (nilCheckA y18) h) fun y19 h =>
  thenV (pu (addP y19 2) h) fun y20 h =>
  thenV (ld1 y20 h) fun y21 h =>
  thenV (some (x1, h)) fun y22 h =>
  thenV (pu (lenL y22) h) fun y23 h =>
  thenV (pu (bin Tryz.prog .shr 3 y23 (.int .u64 8)) h) fun y24 h =>
  thenV (cvI .u8 y24 h) fun y25 h =>
  thenV (some (x1, h)) fun y26 h =>
  thenV (pu (lenL y26) h) fun y27 h =>
  thenV (cvI .u8 y27 h) fun y28 h =>
  thenV (bslR 1 (.int .u8 0) 2 [(0, y25), (1, y28)] h) fun y29 h =>
  thenV (appendA 1 1 y21 y29 h) fun y30 h =>
  thenV (pu (nilCheckA y17) h) fun y31 h =>
  thenV (pu (addP y31 2) h) fun y32 h =>
  thenV (stN 1 y32 y30 h) fun _ h =>
  thenV (some (x0, h)) fun y33 h =>
  thenV (some (x0, h)) fun y34 h =>
  thenV (pu (nilCheckA y34) h) fun y35 h =>
  thenV (pu (addP y35 2) h) fun y36 h =>
  thenV (ld1 y36 h) fun y37 h =>
  thenV (some (x1, h)) fun y38 h =>
  thenV (appendA 1 1 y37 y38 h) fun y39 h =>
  thenV (pu (nilCheckA y33) h) fun y40 h =>
  thenV (pu (addP y40 2) h) fun y41 h =>
  thenV (stN 1 y41 y39 h) fun _ h =>
  some (.tuple #[], h)
  | .bool false =>
  some (.tuple #[], h)
  | _ => none)
  | _ => none)
  | _ => none)
theorem t119_eq (C : CallF) (x0 x1 : Value) (h : Heap) : bodyK Tryz.prog C Tryz.f119 [x0, x1] h = t119 C x0 x1 h :=
  (bodyB_eq Tryz.prog C Tryz.f119 [x0, x1] h (by kernel_rfl)).trans (by kernel_rfl)


/-- (*stolon/digest.Writer).Raw -/
noncomputable def t120 (C : CallF) (x0 x1 : Value) (h : Heap) : Out :=
  thenV (some (x0, h)) fun y4 h =>
  thenV (some (x1, h)) fun y5 h =>
  thenV (pu (lenL y5) h) fun y6 h =>
  thenV (C 181 [y4, y6] h) fun y7 h =>
  (match y7 with
  | .bool true =>
  thenV (some (x0, h)) fun y8 h =>
  thenV (some (x0, h)) fun y9 h =>
  thenV (pu (nilCheckA y9) h) fun y10 h =>
  thenV (pu (addP y10 2) h) fun y11 h =>
  thenV (ld1 y11 h) fun y12 h =>
  thenV (some (x1, h)) fun y13 h =>
  thenV (appendA 1 1 y12 y13 h) fun y14 h =>
  thenV (pu (nilCheckA y8) h) fun y15 h =>
  thenV (pu (addP y15 2) h) fun y16 h =>
  thenV (stN 1 y16 y14 h) fun _ h =>
  some (.tuple #[], h)
  | .bool false =>
  some (.tuple #[], h)
  | _ => none)
theorem t120_eq (C : CallF) (x0 x1 : Value) (h : Heap) : bodyK Tryz.prog C Tryz.f120 [x0, x1] h = t120 C x0 x1 h :=
  (bodyB_eq Tryz.prog C Tryz.f120 [x0, x1] h (by kernel_rfl)).trans (by kernel_rfl)


/-- (*stolon/disk.Disk).open -/
noncomputable def t166 (C : CallF) (x0 x1 : Value) (h : Heap) : Out :=
  thenV (some ((.pointer none), h)) fun _y4 h =>
  thenV (some ((.bool false), h)) fun _y5 h =>
  thenV (some (x0, h)) fun y8 h =>
  thenV (pu (nilCheckA y8) h) fun y9 h =>
  thenV (pu (addP y9 0) h) fun y10 h =>
  thenV (ld1 y10 h) fun y11 h =>
  thenV (some (x1, h)) fun y12 h =>
  thenV (pu (idxS 128 y11 y12) h) fun y13 h =>
  thenV (pu (sliceArr 128 1 y13 none none none) h) fun y14 h =>
  thenV (C 110 [y14] h) fun y15 h =>
  thenV (some (y15, h)) fun y6 h =>
  thenV (some (y6, h)) fun y16 h =>
  thenV (C 167 [y16] h) fun y17 h =>
  thenV (some (y17, h)) fun y7 h =>
  thenV (some (y6, h)) fun y18 h =>
  thenV (some (y7, h)) fun y19 h =>
  thenV (some (x0, h)) fun y20 h =>
  thenV (pu (nilCheckA y20) h) fun y21 h =>
  thenV (pu (addP y21 0) h) fun y22 h =>
  thenV (ld1 y22 h) fun y23 h =>
  thenV (some (x1, h)) fun y24 h =>
  thenV (pu (idxS 128 y23 y24) h) fun y25 h =>
  thenV (pu (sliceArr 128 1 y25 (some (.int .i64 4)) none none) h) fun y26 h =>
  thenV (C 208 [y26] h) fun y27 h =>
  thenV (pu (bin Tryz.prog .eql 186 y19 y27) h) fun y28 h =>
  thenV (some (y18, h)) fun y4_1 h =>
  thenV (some (y28, h)) fun y5_1 h =>
  some (.tuple #[y4_1, y5_1], h)
theorem t166_eq (C : CallF) (x0 x1 : Value) (h : Heap) : bodyK Tryz.prog C Tryz.f166 [x0, x1] h = t166 C x0 x1 h :=
  (bodyB_eq Tryz.prog C Tryz.f166 [x0, x1] h (by kernel_rfl)).trans (by kernel_rfl)


/-- (*stolon/store.Store).fault -/
noncomputable def t60 (C : CallF) (x0 : Value) (h : Heap) : Out :=
  thenV (some ((.int .i64 0), h)) fun _y2 h =>
  thenV (some (x0, h)) fun y3 h =>
  thenV (pu (bin Tryz.prog .eql 28 y3 (.pointer none)) h) fun y4 h =>
  (match y4 with
  | .bool true =>
  thenV (some ((.int .i64 1), h)) fun y2_1 h =>
  some (y2_1, h)
  | .bool false =>
  thenV (some (x0, h)) fun y5 h =>
  thenV (pu (nilCheckA y5) h) fun y6 h =>
  thenV (pu (addP y6 0) h) fun y7 h =>
  thenV (ld1 y7 h) fun y8 h =>
  thenV (C 115 [y8] h) fun y9 h =>
  thenV (pu (bin Tryz.prog .eql 3 y9 (.int .i64 0)) h) fun y10 h =>
  (match y10 with
  | .bool true =>
  thenV (some ((.int .i64 9), h)) fun y2_1 h =>
  some (y2_1, h)
  | .bool false =>
  thenV (some ((.int .i64 0), h)) fun y2_1 h =>
  some (y2_1, h)
  | _ => none)
  | _ => none)
theorem t60_eq (C : CallF) (x0 : Value) (h : Heap) : bodyK Tryz.prog C Tryz.f60 [x0] h = t60 C x0 h :=
  (bodyB_eq Tryz.prog C Tryz.f60 [x0] h (by kernel_rfl)).trans (by kernel_rfl)


/-- (*stolon/disk.Disk).super -/
noncomputable def t106 (C : CallF) (x0 x1 : Value) (h : Heap) : Out :=
  thenV (some ((.int .u64 0), h)) fun _y4 h =>
  thenV (some ((.int .i64 0), h)) fun _y5 h =>
  thenV (some ((.bool false), h)) fun _y6 h =>
  thenV (some (x0, h)) fun y11 h =>
  thenV (some (x1, h)) fun y12 h =>
  thenV (C 166 [y11, y12] h) fun y13 h =>
  thenV (some (y13, h)) fun y10 h =>
  thenV (pu (extractA y10 0) h) fun y14 h =>
  thenV (pu (extractA y10 1) h) fun y15 h =>
  thenV (some (y14, h)) fun y7 h =>
  thenV (some (y15, h)) fun y8 h =>
  thenV (some (y7, h)) fun y16 h =>
  thenV (C 167 [y16] h) fun y17 h =>
  thenV (some (y17, h)) fun y9 h =>
  thenV (some (y7, h)) fun y18 h =>
  thenV (C 112 [y18] h) fun y19 h =>
  thenV (some (y7, h)) fun y20 h =>
  thenV (C 111 [y20] h) fun y21 h =>
  thenV (cvI .i64 y21 h) fun y22 h =>
  thenV (some (y19, h)) fun y4_1 h =>
  thenV (some (y22, h)) fun y5_1 h =>
  thenV (some (y4_1, h)) fun y23 h =>
  thenV (some (y5_1, h)) fun y24 h =>
  thenV (some (y8, h)) fun y25 h =>
  thenV (some (y25, h)) fun y26 h =>
  thenV (guardK (bOf y26 == some true) (some (y9, h)) h) fun y27 h =>
  thenV (guardK (bOf y26 == some true) (pu (bin Tryz.prog .eql 186 y27 (.int .u32 1398034252)) h) h) fun y28 h =>
  thenV (match y26 with | .bool t => some (if t then y28 else (.bool false), h) | _ => none) fun y29 h =>
  thenV (some (y29, h)) fun y30 h =>
  thenV (guardK (bOf y30 == some true) (some (y5_1, h)) h) fun y31 h =>
  thenV (guardK (bOf y30 == some true) (pu (bin Tryz.prog .leq 3 y31 (.int .i64 1)) h) h) fun y32 h =>
  thenV (match y30 with | .bool t => some (if t then y32 else (.bool false), h) | _ => none) fun y33 h =>
  thenV (some (y23, h)) fun y4_2 h =>
  thenV (some (y24, h)) fun y5_2 h =>
  thenV (some (y33, h)) fun y6_1 h =>
  some (.tuple #[y4_2, y5_2, y6_1], h)
theorem t106_eq (C : CallF) (x0 x1 : Value) (h : Heap) : bodyK Tryz.prog C Tryz.f106 [x0, x1] h = t106 C x0 x1 h :=
  (bodyB_eq Tryz.prog C Tryz.f106 [x0, x1] h (by kernel_rfl)).trans (by kernel_rfl)


/-- (*stolon/disk.Disk).log -/
noncomputable def t108 (C : CallF) (x0 x1 x2 : Value) (h : Heap) : Out :=
  thenV (newC [(.int .u64 0), (.int .i64 0), (.int .i64 0), (.slice none 0 0)] h) fun y6 h =>
  thenV (some ((.bool false), h)) fun _y7 h =>
  thenV (some (x0, h)) fun y14 h =>
  thenV (some (x1, h)) fun y15 h =>
  thenV (some (x0, h)) fun y16 h =>
  thenV (C 107 [y16] h) fun y17 h =>
  thenV (pu (bin Tryz.prog .mul 3 y15 y17) h) fun y18 h =>
  thenV (pu (bin Tryz.prog .add 3 (.int .i64 2) y18) h) fun y19 h =>
  thenV (some (x2, h)) fun y20 h =>
  thenV (pu (bin Tryz.prog .add 3 y19 y20) h) fun y21 h =>
  thenV (C 166 [y14, y21] h) fun y22 h =>
  thenV (some (y22, h)) fun y13 h =>
  thenV (pu (extractA y13 0) h) fun y23 h =>
  thenV (pu (extractA y13 1) h) fun y24 h =>
  thenV (some (y23, h)) fun y8 h =>
  thenV (some (y24, h)) fun y9 h =>
  thenV (some (y8, h)) fun y25 h =>
  thenV (C 112 [y25] h) fun y26 h =>
  thenV (pu (bldR [(.int .u64 0), (.int .i64 0), (.int .i64 0), (.slice none 0 0)] [(0, 1, y26)]) h) fun y27 h =>
  thenV (newC [(.int .u64 0), (.int .i64 0), (.int .i64 0), (.slice none 0 0)] h) fun y10 h =>
  thenV (stN 4 y10 y27 h) fun _ h =>
  thenV (some (y8, h)) fun y28 h =>
  thenV (C 167 [y28] h) fun y29 h =>
  thenV (cvI .i64 y29 h) fun y30 h =>
  thenV (some (y30, h)) fun y11 h =>
  thenV (some (y8, h)) fun y31 h =>
  thenV (C 168 [y31] h) fun y32 h =>
  thenV (cvI .i64 y32 h) fun y33 h =>
  thenV (some (y8, h)) fun y34 h =>
  thenV (C 168 [y34] h) fun y35 h =>
  thenV (cvI .i64 y35 h) fun y36 h =>
  thenV (pu (addP y10 1) h) fun y37 h =>
  thenV (stN 1 y37 y33 h) fun _ h =>
  thenV (pu (addP y10 2) h) fun y38 h =>
  thenV (stN 1 y38 y36 h) fun _ h =>
  thenV (some (y8, h)) fun y39 h =>
  thenV (some (y8, h)) fun y40 h =>
  thenV (C 168 [y40] h) fun y41 h =>
  thenV (cvI .i64 y41 h) fun y42 h =>
  thenV (C 169 [y39, y42] h) fun y43 h =>
  thenV (pu (addP y10 3) h) fun y44 h =>
  thenV (stN 1 y44 y43 h) fun _ h =>
  thenV (some (y9, h)) fun y45 h =>
  thenV (some (y45, h)) fun y46 h =>
  thenV (guardK (bOf y46 == some true) (some (y11, h)) h) fun y47 h =>
  thenV (guardK (bOf y46 == some true) (some (x2, h)) h) fun y48 h =>
  thenV (guardK (bOf y46 == some true) (pu (bin Tryz.prog .eql 3 y47 y48) h) h) fun y49 h =>
  thenV (match y46 with | .bool t => some (if t then y49 else (.bool false), h) | _ => none) fun y50 h =>
  thenV (some (y50, h)) fun y51 h =>
  thenV (guardK (bOf y51 == some true) (pu (addP y10 2) h) h) fun y52 h =>
  thenV (guardK (bOf y51 == some true) (ld1 y52 h) h) fun y53 h =>
  thenV (guardK (bOf y51 == some true) (pu (bin Tryz.prog .geq 3 y53 (.int .i64 1)) h) h) fun y54 h =>
  thenV (match y51 with | .bool t => some (if t then y54 else (.bool false), h) | _ => none) fun y55 h =>
  thenV (some (y55, h)) fun y56 h =>
  thenV (guardK (bOf y56 == some true) (pu (addP y10 1) h) h) fun y57 h =>
  thenV (guardK (bOf y56 == some true) (ld1 y57 h) h) fun y58 h =>
  thenV (guardK (bOf y56 == some true) (pu (addP y10 2) h) h) fun y59 h =>
  thenV (guardK (bOf y56 == some true) (ld1 y59 h) h) fun y60 h =>
  thenV (guardK (bOf y56 == some true) (pu (bin Tryz.prog .lss 3 y58 y60) h) h) fun y61 h =>
  thenV (match y56 with | .bool t => some (if t then y61 else (.bool false), h) | _ => none) fun y62 h =>
  thenV (some (y62, h)) fun y63 h =>
  thenV (guardK (bOf y63 == some true) (some (y8, h)) h) fun y64 h =>
  thenV (guardK (bOf y63 == some true) (C 170 [y64] h) h) fun y65 h =>
  thenV (guardK (bOf y63 == some true) (pu (bin Tryz.prog .eql 25 y65 (.int .i64 0)) h) h) fun y66 h =>
  thenV (match y63 with | .bool t => some (if t then y66 else (.bool false), h) | _ => none) fun y67 h =>
  thenV (some (y67, h)) fun y12 h =>
  thenV (ldN 4 y10 h) fun y68 h =>
  thenV (some (y12, h)) fun y69 h =>
  thenV (stN 4 y6 y68 h) fun _ h =>
  thenV (some (y69, h)) fun y7_1 h =>
  resultsA Tryz.prog Tryz.f108.results.toList (mkF 70 (up (bs [x0, x1, x2]) [(6, y6), (7, y7_1), (8, y8), (9, y9), (10, y10), (11, y11), (12, y12), (13, y13), (14, y14), (15, y15), (16, y16), (17, y17), (18, y18), (19, y19), (20, y20), (21, y21), (22, y22), (23, y23), (24, y24), (25, y25), (26, y26), (27, y27), (28, y28), (29, y29), (30, y30), (31, y31), (32, y32), (33, y33), (34, y34), (35, y35), (36, y36), (37, y37), (38, y38), (39, y39), (40, y40), (41, y41), (42, y42), (43, y43), (44, y44), (45, y45), (46, y46), (47, y47), (48, y48), (49, y49), (50, y50), (51, y51), (52, y52), (53, y53), (54, y54), (55, y55), (56, y56), (57, y57), (58, y58), (59, y59), (60, y60), (61, y61), (62, y62), (63, y63), (64, y64), (65, y65), (66, y66), (67, y67), (68, y68), (69, y69)])) h
theorem t108_eq (C : CallF) (x0 x1 x2 : Value) (h : Heap) : bodyK Tryz.prog C Tryz.f108 [x0, x1, x2] h = t108 C x0 x1 x2 h :=
  (bodyB_eq Tryz.prog C Tryz.f108 [x0, x1, x2] h (by kernel_rfl)).trans (by kernel_rfl)


/-- (*stolon/store.Store).Holds -/
noncomputable def t23 (C : CallF) (x0 x1 : Value) (h : Heap) : Out :=
  thenV (box x1 h) fun y3 h =>
  thenV (some ((.bool false), h)) fun _y4 h =>
  thenV (some (x0, h)) fun y7 h =>
  thenV (C 60 [y7] h) fun y8 h =>
  thenV (pu (bin Tryz.prog .neq 25 y8 (.int .i64 0)) h) fun y9 h =>
  (match y9 with
  | .bool true =>
  thenV (some ((.bool false), h)) fun y4_1 h =>
  some (y4_1, h)
  | .bool false =>
  thenV (some (x0, h)) fun y11 h =>
  thenV (pu (nilCheckA y11) h) fun y12 h =>
  thenV (pu (addP y12 2) h) fun y13 h =>
  thenV (pu (addP y13 1) h) fun y14 h =>
  thenV (ld1 y14 h) fun y15 h =>
  thenV (ldN 32 y3 h) fun y16 h =>
  thenV (lookupA Tryz.prog 123 y15 y16 true h) fun y17 h =>
  thenV (some (y17, h)) fun y10 h =>
  thenV (pu (extractA y10 0) h) fun y18 h =>
  thenV (pu (extractA y10 1) h) fun y19 h =>
  thenV (newC [(.int .i64 0), (.int .i64 0), (.int .i64 0)] h) fun y5 h =>
  thenV (stN 3 y5 y18 h) fun _ h =>
  thenV (some (y19, h)) fun y6 h =>
  thenV (some (y6, h)) fun y20 h =>
  thenV (some (y20, h)) fun y4_1 h =>
  some (y4_1, h)
  | _ => none)
theorem t23_eq (C : CallF) (x0 x1 : Value) (h : Heap) : bodyK Tryz.prog C Tryz.f23 [x0, x1] h = t23 C x0 x1 h :=
  (bodyB_eq Tryz.prog C Tryz.f23 [x0, x1] h (by kernel_rfl)).trans (by kernel_rfl)


/-- (*stolon/store.Store).Incarnation -/
noncomputable def t27 (C : CallF) (x0 : Value) (h : Heap) : Out :=
  thenV (some ((.int .u64 0), h)) fun _y2 h =>
  thenV (some (x0, h)) fun y3 h =>
  thenV (C 60 [y3] h) fun y4 h =>
  thenV (pu (bin Tryz.prog .neq 25 y4 (.int .i64 0)) h) fun y5 h =>
  (match y5 with
  | .bool true =>
  thenV (some ((.int .u64 0), h)) fun y2_1 h =>
  some (y2_1, h)
  | .bool false =>
  thenV (some (x0, h)) fun y6 h =>
  thenV (pu (nilCheckA y6) h) fun y7 h =>
  thenV (pu (addP y7 2) h) fun y8 h =>
  thenV (pu (addP y8 0) h) fun y9 h =>
  thenV (ld1 y9 h) fun y10 h =>
  thenV (some (y10, h)) fun y2_1 h =>
  some (y2_1, h)
  | _ => none)
theorem t27_eq (C : CallF) (x0 : Value) (h : Heap) : bodyK Tryz.prog C Tryz.f27 [x0] h = t27 C x0 h :=
  (bodyB_eq Tryz.prog C Tryz.f27 [x0] h (by kernel_rfl)).trans (by kernel_rfl)


/-- (*stolon/store.Store).Where -/
noncomputable def t32 (C : CallF) (x0 x1 : Value) (h : Heap) : Out :=
  thenV (box x1 h) fun y3 h =>
  thenV (some ((.int .i64 0), h)) fun _y4 h =>
  thenV (some ((.int .i64 0), h)) fun _y5 h =>
  thenV (some ((.int .i64 0), h)) fun _y6 h =>
  thenV (some (x0, h)) fun y10 h =>
  thenV (C 60 [y10] h) fun y11 h =>
  thenV (some (y11, h)) fun y7 h =>
  thenV (some (y7, h)) fun y12 h =>
  thenV (pu (bin Tryz.prog .neq 25 y12 (.int .i64 0)) h) fun y13 h =>
  (match y13 with
  | .bool true =>
  thenV (some (y7, h)) fun y14 h =>
  thenV (some ((.int .i64 0), h)) fun y4_1 h =>
  thenV (some ((.int .i64 0), h)) fun y5_1 h =>
  thenV (some (y14, h)) fun y6_1 h =>
  some (.tuple #[y4_1, y5_1, y6_1], h)
  | .bool false =>
  thenV (some (x0, h)) fun y16 h =>
  thenV (pu (nilCheckA y16) h) fun y17 h =>
  thenV (pu (addP y17 2) h) fun y18 h =>
  thenV (pu (addP y18 1) h) fun y19 h =>
  thenV (ld1 y19 h) fun y20 h =>
  thenV (ldN 32 y3 h) fun y21 h =>
  thenV (lookupA Tryz.prog 123 y20 y21 true h) fun y22 h =>
  thenV (some (y22, h)) fun y15 h =>
  thenV (pu (extractA y15 0) h) fun y23 h =>
  thenV (pu (extractA y15 1) h) fun y24 h =>
  thenV (newC [(.int .i64 0), (.int .i64 0), (.int .i64 0)] h) fun y8 h =>
  thenV (stN 3 y8 y23 h) fun _ h =>
  thenV (some (y24, h)) fun y9 h =>
  thenV (some (y9, h)) fun y25 h =>
  thenV (pu (unA .not y25) h) fun y26 h =>
  (match y26 with
  | .bool true =>
  thenV (some ((.int .i64 0), h)) fun y4_1 h =>
  thenV (some ((.int .i64 0), h)) fun y5_1 h =>
  thenV (some ((.int .i64 6), h)) fun y6_1 h =>
  some (.tuple #[y4_1, y5_1, y6_1], h)
  | .bool false =>
  let g10_0 := h
  thenV (some (x0, g10_0)) fun y27 g10_1 =>
  thenV (pu (nilCheckA y27) g10_1) fun y28 g10_2 =>
  thenV (pu (addP y28 0) g10_2) fun y29 g10_3 =>
  thenV (ld1 y29 g10_3) fun y30 g10_4 =>
  thenV (C 72 [y30] g10_4) fun y31 g10_5 =>
  thenV (pu (addP y8 0) g10_5) fun y32 g10_6 =>
  thenV (ld1 y32 g10_6) fun y33 g10_7 =>
  thenV (pu (bin Tryz.prog .add 3 y31 y33) g10_7) fun y34 g10_8 =>
  thenV (pu (addP y8 1) g10_8) fun y35 g10_9 =>
  thenV (ld1 y35 g10_9) fun y36 g10_10 =>
  thenV (C 73 [y36] g10_10) fun y37 g10_11 =>
  thenV (some (y34, g10_11)) fun y4_1 g10_12 =>
  thenV (some (y37, g10_12)) fun y5_1 g10_13 =>
  thenV (some ((.int .i64 0), g10_13)) fun y6_1 g10_14 =>
  (match (chkR true (ld1 y32 g10_4) y33 && (chkR true (ld1 y32 g10_11) y33 && (chkR true (ld1 y35 g10_4) y36 && true))) with
  | true =>
  let h := g10_14
  some (.tuple #[y4_1, y5_1, y6_1], h)
  | false => none)
  | _ => none)
  | _ => none)
theorem t32_eq (C : CallF) (x0 x1 : Value) (h : Heap) : bodyK Tryz.prog C Tryz.f32 [x0, x1] h = t32 C x0 x1 h :=
  (bodyB_eq Tryz.prog C Tryz.f32 [x0, x1] h (by kernel_rfl)).trans (by kernel_rfl)


/-- (*stolon/store.Store).Free -/
noncomputable def t38 (C : CallF) (x0 : Value) (h : Heap) : Out :=
  thenV (some ((.int .i64 0), h)) fun _y2 h =>
  thenV (some (x0, h)) fun y3 h =>
  thenV (C 60 [y3] h) fun y4 h =>
  thenV (pu (bin Tryz.prog .neq 25 y4 (.int .i64 0)) h) fun y5 h =>
  (match y5 with
  | .bool true =>
  thenV (some ((.int .i64 0), h)) fun y2_1 h =>
  some (y2_1, h)
  | .bool false =>
  thenV (some (x0, h)) fun y6 h =>
  thenV (pu (nilCheckA y6) h) fun y7 h =>
  thenV (pu (addP y7 0) h) fun y8 h =>
  thenV (ld1 y8 h) fun y9 h =>
  thenV (C 79 [y9] h) fun y10 h =>
  thenV (some (y10, h)) fun y2_1 h =>
  some (y2_1, h)
  | _ => none)
theorem t38_eq (C : CallF) (x0 : Value) (h : Heap) : bodyK Tryz.prog C Tryz.f38 [x0] h = t38 C x0 h :=
  (bodyB_eq Tryz.prog C Tryz.f38 [x0] h (by kernel_rfl)).trans (by kernel_rfl)


/-- (*stolon/store.Store).Buried -/
noncomputable def t41 (C : CallF) (x0 x1 : Value) (h : Heap) : Out :=
  thenV (box x1 h) fun y3 h =>
  thenV (some ((.bool false), h)) fun _y4 h =>
  thenV (some (x0, h)) fun y5 h =>
  thenV (C 60 [y5] h) fun y6 h =>
  thenV (pu (bin Tryz.prog .eql 25 y6 (.int .i64 0)) h) fun y7 h =>
  thenV (some (y7, h)) fun y8 h =>
  thenV (guardK (bOf y8 == some true) (some (x0, h)) h) fun y9 h =>
  thenV (guardK (bOf y8 == some true) (pu (nilCheckA y9) h) h) fun y10 h =>
  thenV (guardK (bOf y8 == some true) (pu (addP y10 2) h) h) fun y11 h =>
  thenV (guardK (bOf y8 == some true) (pu (addP y11 2) h) h) fun y12 h =>
  thenV (guardK (bOf y8 == some true) (ld1 y12 h) h) fun y13 h =>
  thenV (guardK (bOf y8 == some true) (ldN 32 y3 h) h) fun y14 h =>
  thenV (guardK (bOf y8 == some true) (lookupA Tryz.prog 124 y13 y14 false h) h) fun y15 h =>
  thenV (match y8 with | .bool t => some (if t then y15 else (.bool false), h) | _ => none) fun y16 h =>
  thenV (some (y16, h)) fun y4_1 h =>
  some (y4_1, h)
theorem t41_eq (C : CallF) (x0 x1 : Value) (h : Heap) : bodyK Tryz.prog C Tryz.f41 [x0, x1] h = t41 C x0 x1 h :=
  (bodyB_eq Tryz.prog C Tryz.f41 [x0, x1] h (by kernel_rfl)).trans (by kernel_rfl)


end Go.Proofs.YtdhpgacmgebjdaaGreatDoor

