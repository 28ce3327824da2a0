/-
  InventoryProofs, InventoryRoots: a slice of digests of one's own, as a stack.
  Conditions: as each theorem states.
  InventoryProofs, InventoryRoots: the hash of nothing; the iterator slices.Backward; a stack's inner loop.
  Conditions: as each theorem states.
  InventoryProofs, InventoryRoots: the tree's stack.
  Conditions: the package variables hold what they hold at the start.
  InventoryProofs, InventoryRoots: slices of records; the tree's outer loop.
  Conditions: the package variables hold what they hold at the start.
  InventoryProofs, InventoryRoots: the tree, whole.
  Conditions: the package variables hold what they hold at the start.
  InventoryProofs, InventoryRoots: split: the greatest power of two below a number.
  Conditions: numbers up to 128.
  InventoryProofs, InventoryRoots: lists of records as slices; own, invalid, Root.
  Conditions: the package variables hold what they hold at the start.
  InventoryProofs, InventoryRoots: Reverse; Prove.
  Conditions: the package variables hold what they hold at the start.
  InventoryProofs, InventoryRoots: Prove.
  Conditions: the package variables hold what they hold at the start.
  InventoryProofs: the plain law: a proof is accepted, and not at another length.
  Conditions: as each theorem states.
  InventoryRoots: the document's tree and Root.
  Conditions: the package variables hold what they hold at the start.
  InventoryProofs: the walk.
  Conditions: the package variables hold what they hold at the start.
-/
import Derived.Test.YtdnahgfgoajmcaaDoorG14
namespace Go.Proofs.YtdnahgfgoajmcaaDoor
open Go Go.Abs
/-- A slice of digests of one's own. -/
structure Stk (h : Heap) (N : Nat) (v : Value) (T : List (List Nat)) : Prop where
  dig : ∀ t ∈ T, D32 t
  form : (T = [] ∧ (v = .slice none 0 0 ∨ ∃ b, v = .slice (some ⟨b, 0, none⟩) 0 0)) ∨ ∃ b m X, v = .slice (some ⟨b, 0, some 32⟩) T.length m ∧ N ≤ b ∧ T.length ≤ m ∧ h.get b = some (digsC T ++ X) ∧ X.length = (m - T.length) * 32 ∧ Abs.noHoles X = true ∧ oneCells X = true
/-- The block that such a slice owns. -/
def stB : Value → Option Nat
  | .slice (some ⟨b, _, some _⟩) _ _ => some b
  | _ => none
theorem Stk.nil (h : Heap) (N : Nat) : Stk h N (.slice none 0 0) [] := ⟨fun _ h => (by cases h), .inl ⟨rfl, .inl rfl⟩⟩
theorem Stk.lt {h : Heap} {N : Nat} {v : Value} {T : List (List Nat)} (x : Stk h N v T) {b : Nat} (e : stB v = some b) : N ≤ b ∧ b < h.next := by
  rcases x.form with ⟨_, rfl | ⟨b', rfl⟩⟩ | ⟨b', m, X, rfl, h1, h2, h3, _⟩
  · cases e
  · cases e
  · cases e
    exact ⟨h1, h.lt_of_get h3⟩
theorem Stk.keep {h h' : Heap} {N : Nat} {v : Value} {T : List (List Nat)} (x : Stk h N v T) {B : Nat → Prop} (k : Kept h h' B) (hB : ∀ b, stB v = some b → ¬ B b) : Stk h' N v T := by
  refine ⟨x.dig, ?_⟩
  rcases x.form with f | ⟨b', m, X, rfl, h1, h2, h3, h4⟩
  · exact .inl f
  · exact .inr ⟨b', m, X, rfl, h1, h2, k.getE h3 (hB b' rfl), h4⟩
theorem Stk.old {h h' : Heap} {N : Nat} {v : Value} {T : List (List Nat)} (x : Stk h N v T) (k : Old h h') : Stk h' N v T := x.keep k fun _ _ h => h
theorem Stk.len {h : Heap} {N : Nat} {v : Value} {T : List (List Nat)} (x : Stk h N v T) : lenL v = some (i64n T.length) := by
  rcases x.form with ⟨rfl, rfl | ⟨b', rfl⟩⟩ | ⟨b', m, X, rfl, _⟩ <;> rfl
theorem Stk.pr {h : Heap} {N : Nat} {v : Value} {T : List (List Nat)} (x : Stk h N v T) : PR h v T ∧ gS v := by
  rcases x.form with ⟨rfl, rfl | ⟨b', rfl⟩⟩ | ⟨b', m, X, rfl, h1, h2, h3, h4, h5, h6⟩
  · exact ⟨⟨⟨_, _, rfl⟩, x.dig, fun j hj => absurd hj (Nat.not_lt_zero j)⟩, ⟨_, _, _, rfl, Nat.le_refl _, fun h => absurd h (Nat.lt_irrefl 0)⟩⟩
  · exact ⟨⟨⟨_, _, rfl⟩, x.dig, fun j hj => absurd hj (Nat.not_lt_zero j)⟩, ⟨_, _, _, rfl, Nat.le_refl _, fun h => absurd h (Nat.lt_irrefl 0)⟩⟩
  · refine ⟨⟨⟨_, _, rfl⟩, x.dig, fun j hj => ?_⟩, ⟨_, _, _, rfl, h2, fun _ b o s e => by cases e; rfl⟩⟩
    have hl := digsC_len x.dig
    have hm := mul_le (z := 32) hj
    have e : ((digsC T ++ X).drop (j * 32)).take 32 = u8s (T.getD j []) := by
      rw [List.drop_append_of_le_length (by omega), List.take_append_of_le_length (by rw [List.length_drop]; omega), digsC_get x.dig hj]
    refine ⟨b', 0 + j * 32, ?_, h.lt_of_get h3, fun g hg => ?_⟩
    · unfold idxS i64n
      simp only
      rw [if_pos (by omega), Int.toNat_natCast]
    · have dp : D32 (T.getD j []) := x.dig _ (by
        rw [List.getD_eq_getElem?_getD, List.getElem?_eq_getElem hj]
        exact List.getElem_mem hj)
      have := ldN_at (o := 0 + j * 32) (n := 32) (hg.trans h3) (by rw [List.length_append]; omega) (by rw [Nat.zero_add, e]; exact (dig_cells dp).2.1)
      rw [Nat.zero_add, e] at this
      rw [Nat.zero_add]
      exact this
theorem digsC_app (A B : List (List Nat)) : digsC (A ++ B) = digsC A ++ digsC B := by
  unfold digsC
  rw [List.flatMap_append]
theorem digsC_one (d : List Nat) : digsC [d] = u8s d := by
  unfold digsC
  rw [List.flatMap_cons, List.flatMap_nil, List.append_nil]
theorem Stk.pop {h : Heap} {N : Nat} {v : Value} {T : List (List Nat)} {d : List Nat} (x : Stk h N v (T ++ [d])) : ∃ v', slR 32 v none (some (i64n T.length)) none = some v' ∧ Stk h N v' T ∧ stB v' = stB v := by
  have lT : (T ++ [d]).length = T.length + 1 := by rw [List.length_append, List.length_singleton]
  have hd := x.dig
  have dd := (dig_cells (hd d (List.mem_append_right _ List.mem_cons_self)))
  rcases x.form with ⟨h0, _⟩ | ⟨b, m, X, rfl, h1, h2, h3, h4, h5, h6⟩
  · rw [h0] at lT
    cases lT
  · rw [lT] at h2 h4 ⊢
    have hb : boundsA (T.length + 1) m none (some (i64n T.length)) none = some (0, T.length, m) := by
      have a1 : boundA m m none = some m := rfl
      have a2 : boundA (T.length + 1) m (some (i64n T.length)) = some T.length := by
        unfold boundA i64n
        simp only
        rw [if_pos (by omega)]
        rfl
      unfold boundsA
      rw [a1]
      simp only [a2]
      rfl
    refine ⟨.slice (some ⟨b, 0, some 32⟩) T.length m, ?_, ⟨fun t ht => hd t (List.mem_append_left _ ht), .inr ⟨b, m, u8s d ++ X, rfl, h1, by omega, ?_, ?_, ?_, ?_⟩⟩, rfl⟩
    · unfold slR sliceSl
      simp only [hb]
      rw [if_pos ⟨True.intro, by decide⟩, Nat.zero_mul, Nat.add_zero, Nat.sub_zero, Nat.sub_zero]
    · rw [h3, digsC_app, digsC_one, List.append_assoc]
    · rw [List.length_append, dd.1, h4]
      omega
    · unfold Abs.noHoles at *
      rw [List.all_append, dd.2.1, h5]; rfl
    · unfold oneCells at *
      rw [List.all_append, dd.2.2, h6]; rfl
theorem first_one {h : Heap} {c : Nat} {d : List Nat} (hd : D32 d) (hc : h.get c = some (u8s d)) : firstA 32 1 (.slice (some ⟨c, 0, none⟩) 1 1) h = some (u8s d) := by
  have dd := dig_cells hd
  have e : ((u8s d).drop 0).take (1 * 32) = u8s d := by rw [List.drop_zero, List.take_of_length_le (by rw [dd.1]; decide)]
  unfold firstA
  simp only
  rw [if_neg (by decide), hc]
  simp only
  rw [e, if_pos ⟨by rw [dd.1]; decide, dd.2.1⟩]
theorem Stk.push {h : Heap} {N : Nat} {v : Value} {T : List (List Nat)} {d : List Nat} {c : Nat} (x : Stk h N v T) (h0 : h.n0 ≤ N) (hN : N ≤ h.next) (hd : D32 d) (hl : T.length ≤ 1000000) (hc : h.get c = some (u8s d)) :
    ∃ v' h', appendA 32 32 v (.slice (some ⟨c, 0, none⟩) 1 1) h = some (v', h') ∧ Stk h' N v' (T ++ [d]) ∧ Kept h h' (fun b => stB v = some b) ∧ (stB v' = stB v ∨ stB v' = some h.next) := by
  have dd := dig_cells hd
  have hf := first_one hd hc
  have dT : ∀ t ∈ T ++ [d], D32 t := fun t ht => by
    rcases List.mem_append.1 ht with h | h
    · exact x.dig t h
    · rw [List.mem_singleton.1 h]; exact hd
  have lT : (T ++ [d]).length = T.length + 1 := by rw [List.length_append, List.length_singleton]
  have lc := digsC_len x.dig
  have hcond : ∀ n : Nat, n ≤ 1000000 → (!(oneCells (u8s d)) || !(decide ((n + 1) * 32 ≤ 140737488355328)) || !(decide (n + 1 ≤ 4611686018427387904)) || decide ((u8s d).length ≠ 1 * 32)) = false := by
    intro n hn
    rw [dd.2.2, decide_eq_true (by omega : (n + 1) * 32 ≤ 140737488355328), decide_eq_true (by omega : n + 1 ≤ 4611686018427387904), decide_eq_false (by rw [dd.1]; decide)]
    rfl
  have new : ∀ g : Heap, N ≤ g.next → T = [] → Stk (g.alloc (u8s d)) N (.slice (some ⟨g.next, 0, some 32⟩) 1 1) (T ++ [d]) := fun g hg e => by
    subst e
    refine ⟨dT, .inr ⟨g.next, 1, [], rfl, hg, Nat.le_refl _, ?_, rfl, rfl, rfl⟩⟩
    rw [Heap.get_alloc, if_pos rfl, List.append_nil, List.nil_append, digsC_one]
  rcases x.form with ⟨rfl, rfl | ⟨b, rfl⟩⟩ | ⟨b, m, X, rfl, h1, h2, h3, h4, h5, h6⟩
  · refine ⟨.slice (some ⟨h.next, 0, some 32⟩) 1 1, h.alloc (u8s d), ?_, new h hN rfl, Kept.alloc _ _ _, .inr rfl⟩
    unfold appendA
    simp only [lenA, hf]
    rw [if_neg (by rw [hcond 0 (by decide)]; decide), if_neg (by decide), if_pos trivial]
  · refine ⟨.slice (some ⟨h.next, 0, some 32⟩) 1 1, h.alloc (u8s d), ?_, new h hN rfl, Kept.alloc _ _ _, .inr rfl⟩
    have f0 : firstA 32 0 (.slice (some ⟨b, 0, none⟩) 0 0) h = some [] := rfl
    unfold appendA
    simp only [lenA, hf, f0]
    rw [if_neg (by rw [hcond 0 (by decide)]; decide), if_neg (by decide), if_neg (by decide)]
    rfl
  · have hbn := h.lt_of_get h3
    by_cases hm : T.length + 1 ≤ m
    · have st : stL b (0 + T.length * 32) (u8s d) h = some (h.set b (digsC T ++ (u8s d ++ X.drop 32))) := by
        unfold stL
        rw [h3]
        simp only
        rw [if_pos (by
          rw [dd.2.2, decide_eq_true (show h.n0 ≤ b by omega), decide_eq_true (by rw [List.length_append, dd.1, lc, h4]; omega)]
          rfl)]
        congr 2
        have eX : X = X.take 32 ++ X.drop 32 := (List.take_append_drop _ _).symm
        conv => lhs; rw [eX]
        exact splice_app (n := 32) (by rw [lc, Nat.zero_add]) (by rw [List.length_take, h4]; omega) dd.1
      refine ⟨.slice (some ⟨b, 0, some 32⟩) (T.length + 1) m, h.set b (digsC T ++ (u8s d ++ X.drop 32)), ?_, ⟨dT, .inr ⟨b, m, X.drop 32, by rw [lT], h1, by rw [lT]; exact hm, ?_, ?_, ?_, ?_⟩⟩, Kept.set (by omega) h3 (.inr rfl), .inl rfl⟩
      · unfold appendA
        simp only [lenA, hf]
        rw [if_neg (by rw [hcond T.length hl]; decide), if_pos hm, if_neg (by decide), st]
        rfl
      · rw [Heap.get_set_same (by omega) h3, digsC_app, digsC_one, List.append_assoc]
      · rw [List.length_drop, h4, lT]
        omega
      · unfold Abs.noHoles at *
        rw [List.all_eq_true] at *
        exact fun y hy => h5 y (List.mem_of_mem_drop hy)
      · unfold oneCells at *
        rw [List.all_eq_true] at *
        exact fun y hy => h6 y (List.mem_of_mem_drop hy)
    · have hmE : m = T.length := by omega
      subst hmE
      have hX : X = [] := List.length_eq_zero_iff.1 (by omega)
      subst hX
      rw [List.append_nil] at h3
      have hf2 : firstA 32 T.length (.slice (some ⟨b, 0, some 32⟩) T.length T.length) h = some (digsC T) := by
        unfold firstA
        simp only
        by_cases hz : T.length * 32 = 0
        · rw [if_pos hz]
          have : T = [] := List.length_eq_zero_iff.1 (by omega)
          rw [this]
          rfl
        · rw [if_neg hz, h3]
          simp only
          have e : ((digsC T).drop 0).take (T.length * 32) = digsC T := by rw [List.drop_zero, List.take_of_length_le (by omega)]
          rw [e, if_pos ⟨by omega, (digsC_ok x.dig).1⟩]
      have hk : ∀ y, y < h.next → y ≠ b → ((h.kill b).alloc (digsC T ++ u8s d)).getB y = h.getB y := by
        intro y hy hne
        rw [Heap.getB_alloc, if_neg (by rw [Heap.next_kill]; omega)]
        exact getB_kill (by omega) hbn hne
      refine ⟨.slice (some ⟨h.next, 0, some 32⟩) (T.length + 1) (T.length + 1), (h.kill b).alloc (digsC T ++ u8s d), ?_, ⟨dT, .inr ⟨h.next, T.length + 1, [], by rw [lT], hN, by rw [lT]; exact Nat.le_refl _, ?_, by rw [lT, Nat.sub_self]; rfl, rfl, rfl⟩⟩, ⟨rfl, by simp, fun y hy hB => hk y hy (fun e => hB (by rw [e]; rfl))⟩, .inr rfl⟩
      · unfold appendA
        simp only [lenA, hf]
        rw [if_neg (by rw [hcond T.length hl]; decide), if_neg (by omega)]
        simp only [hf2]
        rw [if_neg (by rw [lc]; simp), if_pos (by simp [h3]; omega)]
      · rw [Heap.get_alloc, if_pos (by rw [Heap.next_kill]), List.append_nil, digsC_app, digsC_one]
end Go.Proofs.YtdnahgfgoajmcaaDoor

namespace Go.Proofs.YtdnahgfgoajmcaaDoor
open Go Go.Abs
attribute [local congr] thenV_congr
theorem is106 : IsFn Tryd.prog 106 Tryd.f106 := ⟨by kernel_rfl, by kernel_rfl, by kernel_rfl, by kernel_rfl⟩
theorem is107 : IsFn Tryd.prog 107 Tryd.f107 := ⟨by kernel_rfl, by kernel_rfl, by kernel_rfl, by kernel_rfl⟩
theorem is135 : IsFn Tryd.prog 135 Tryd.f135 := ⟨by kernel_rfl, by kernel_rfl, by kernel_rfl, by kernel_rfl⟩
theorem is54 : IsFn Tryd.prog 54 Tryd.f54 := ⟨by kernel_rfl, by kernel_rfl, by kernel_rfl, by kernel_rfl⟩
theorem results106 : Tryd.f106.results.toList = [.cell 2 35] := by kernel_rfl
theorem results54 : Tryd.f54.results.toList = [.cell 2 35] := by kernel_rfl
theorem results135 : Tryd.f135.results.toList = [] := by kernel_rfl
/-- The hash of no bytes. -/
def nilD : List Nat := (HD0.wr []).sum
theorem nilD_ok : D32 nilD := sum_d32 _
set_option maxRecDepth 100000 in
/-- SHA256 of nothing -/
theorem r106 {h : Heap} (hG : 4 ≤ h.n0) (hz : h.get 3 = some roundsL) : ∃ h', CW 106 [.slice none 0 0] h = some (.agg (u8s nilD).toArray, h') ∧ Old h h' := by
  obtain ⟨h1, z1, o1, g1, n1⟩ := fresh (List.replicate 32 (.int .u8 0)) h
  obtain ⟨h2, e2, o2, g2, n2⟩ := r121 (h := h1) (by rw [o1.n0]; exact hG)
  have O2 := o1.trans o2
  obtain ⟨h3, e3, k3, g3, w3, m3⟩ := r122 (h := h2) (by rw [O2.n0]; exact hG) (Old.get O2 hz) (p := h1.next) HD0_ok g2 (by rw [O2.n0]; have := h.n0_le_next; have := o1.next; omega) (a := none) (n := 0) (c := 0) (l := []) rfl (fun h => absurd h (by decide)) (fun y hy => by cases hy) (by decide)
  have O3 : Old h h3 := Old.of_new O2 k3 (by have := o1.next; omega)
  obtain ⟨h4, e4, o4⟩ := r123 (h := h3) (by rw [O3.n0]; exact hG) (Old.get O3 hz) (p := h1.next) w3 g3 (by rw [m3]; decide)
  have O4 := O3.trans o4
  have e4 : CW 123 [ptr h1.next 0] h3 = some (.agg (u8s nilD).toArray, h4) := e4
  have dc := dig_cells nilD_ok
  have q2 : h4.get h.next = some (List.replicate 32 (.int .u8 0)) := Old.get o4 (Kept.getE k3 (o2.get g1) (by omega))
  obtain ⟨h5, e5, k5, g5, _, _⟩ := stored_all (n := 32) (k' := u8s nilD) q2 (by rw [O4.n0]; exact h.n0_le_next) rfl dc.1 dc.2.2
  have L5 := ldN_all g5 dc.1 dc.2.1
  refine ⟨h5, CW_body is106 hG rfl ((t106_eq _ _ _).trans ?_), Old.of_new O4 k5 (Nat.le_refl _)⟩
  unfold t106
  simp -implicitDefEqProofs only [z1, e2, e3, e4, e5, thenV_some, pu_some]
  exact res_cell results106 agg35 size32 (show 2 < 10 by decide) _ L5
theorem r107 {h : Heap} (hG : 4 ≤ h.n0) {a : Option Addr} {n c : Nat} : ∃ h', CW 107 [.slice a n c] h = some (.func (.func 135) #[] #[ptr h.next 0], h') ∧ Old h h' ∧ h'.get h.next = some [.slice a n c] ∧ h'.next = h.next + 1 := by
  have b : box (.slice a n c) h = some (ptr h.next 0, h.alloc [.slice a n c]) := rfl
  refine ⟨h.alloc [.slice a n c], CW_body is107 hG rfl ((t107_eq _ _ _).trans ?_), Kept.alloc _ _ _, by rw [Heap.get_alloc, if_pos rfl], Heap.next_alloc ..⟩
  unfold t107
  simp -implicitDefEqProofs only [b, thenV_some, pu_some]
theorem fs_size : Nat.ble 120 Tryd.prog.funcs.size = true := by kernel_rfl
theorem XX_yid (L : Nat) (args : List Value) (h : Heap) : XX (yid Tryd.prog L) args h = none := by
  have e := Nat.le_of_ble_eq_true fs_size
  show callL XL (Tryd.prog.funcs.size + L) args h = none
  generalize Tryd.prog.funcs.size = n at e
  unfold callL
  rw [if_neg (show ¬ n + L = (14 : Nat) by omega)]
  unfold callL
  rw [if_neg (show ¬ n + L = (119 : Nat) by omega)]
  rfl
theorem CW_yield {L : Nat} {args : List Value} {h : Heap} {r : Value × Heap} (hG : 4 ≤ h.n0) (e : roundA Tryd.prog CW L args h = some r) : CW (yid Tryd.prog L) args h = some r :=
  CC_round (by rw [globals4]; exact hG) (XX_yid L args h) e
theorem geq3 (j : Nat) : bin Tryd.prog .geq 3 (.int .i64 ((j : Int) - 1)) (.int .i64 0) = some (.bool (decide (1 ≤ j))) := by
  rw [bin_geq]
  congr 2
  rw [decide_eq_decide]
  omega
set_option maxRecDepth 100000 in
/-- The iterator of slices.Backward: the yield function is called with the elements, from the last one on. -/
theorem r135 {h : Heap} (hG : 4 ≤ h.n0) {L c : Nat} {w : Value} {T : List (List Nat)} (hT : T.length ≤ 1000000) (Inv : Nat → Heap → Prop)
    (hread : ∀ j g, Inv j g → ld1 (ptr c 0) g = some (w, g) ∧ PR g w T)
    (hstep : ∀ j g, j < T.length → Inv (j + 1) g → ∃ g', CW (yid Tryd.prog L) [i64n j, .agg (u8s (T.getD j [])).toArray] g = some (.bool true, g') ∧ Inv j g') (h0 : Inv T.length h) :
    ∃ h', CW 135 [.func (.yield L) #[] #[], ptr c 0] h = some (.tuple #[], h') ∧ Inv 0 h' := by
  have key : ∃ o : Out, t135 CW (.func (.yield L) #[] #[]) (ptr c 0) h = o ∧ ∃ h', o = some (.tuple #[], h') ∧ Inv 0 h' := by
    refine ⟨_, rfl, ?_⟩
    unfold t135
    obtain ⟨l0, P0⟩ := hread _ _ h0
    have hll := PR.len P0
    have sb : bin Tryd.prog .sub 3 (i64n T.length) (.int .i64 1) = some (.int .i64 ((T.length : Int) - 1)) := by
      unfold i64n
      rw [bin_sub, wrap_i64 (by omega) (by omega)]
    simp -implicitDefEqProofs only [l0, hll, sb, thenV_some, pu_some]
    refine endL_fin (n := 19) (fin := fun ex y g => ex = .exit 0 ∧ Inv 0 g) (Q := fun o : Out => ∃ h', o = some (.tuple #[], h') ∧ Inv 0 h')
      (loop_fin (t135l135_10_eq CW) (Inv := fun k y g => k ≤ T.length ∧ y 0 = .func (.yield L) #[] #[] ∧ y 1 = ptr c 0 ∧ y 3 = .int .i64 ((k : Int) - 1) ∧ Inv k g) ?_ T.length (by have : rounds = 18446744073709551616 := rfl; omega) ⟨Nat.le_refl _, rfl, rfl, rfl, h0⟩) ?_
    · rintro k y g ⟨hk, y0, y1, y3, hi⟩
      unfold t135l135_10
      have q := geq3 k
      simp -implicitDefEqProofs only [y0, y1, y3, q, thenV_some, pu_some]
      obtain ⟨l1, P1⟩ := hread _ _ hi
      by_cases hk1 : 1 ≤ k
      · obtain ⟨j, rfl⟩ : ∃ j, k = j + 1 := ⟨k - 1, by omega⟩
        obtain ⟨b, o, ix, hb, lp⟩ := P1.2.2 j (by omega)
        have lg := lp g rfl
        obtain ⟨g', e', hi'⟩ := hstep j g (by omega) hi
        have ej : (((j + 1 : Nat) : Int) - 1) = (j : Int) := by omega
        have ix' : idxS 32 w (.int .i64 (j : Int)) = some (ptr b o) := ix
        have e'' : callA Tryd.prog CW (.func (.yield L) #[] #[]) [.int .i64 (j : Int), .agg (u8s (T.getD j [])).toArray] g = some (.bool true, g') := e'
        have sb2 : bin Tryd.prog .sub 3 (.int .i64 (j : Int)) (.int .i64 1) = some (.int .i64 ((j : Int) - 1)) := by
          rw [bin_sub, wrap_i64 (by omega) (by omega)]
        simp -implicitDefEqProofs only [decide_eq_true hk1, ej, l1, ix', lg, e'', sb2, unA_not, Bool.not_true, thenV_some, pu_some]
        exact Rnd.next j (by omega) ⟨by omega, y0, y1, rfl, hi'⟩
      · have hk0 : k = 0 := by omega
        subst hk0
        simp -implicitDefEqProofs only [decide_eq_false hk1, thenV_some, pu_some]
        exact Rnd.out 0 ⟨rfl, hi⟩
    · rintro ex z g ⟨rfl, hi⟩
      simp -implicitDefEqProofs only [endL_exit, b135_1, if_true]
      rw [results135]
      exact ⟨g, rfl, hi⟩
  obtain ⟨o9, e, h', e', q⟩ := key
  exact ⟨h', CW_body is135 hG rfl ((t135_eq _ _ _ _).trans (e.trans e')), q⟩
end Go.Proofs.YtdnahgfgoajmcaaDoor

namespace Go.Proofs.YtdnahgfgoajmcaaDoor
open Go Go.Abs
attribute [local congr] thenV_congr
set_option maxRecDepth 100000 in
/-- The inner loop of tree: complete trees are joined. -/
theorem tre1 {h : Heap} (hG : 4 ≤ h.n0) (hz : h.get 3 = some roundsL) {N d i : Nat} {D : List Nat} {vs : Value} {S : List (List Nat)} (hN : h.n0 ≤ N) (hNn : N ≤ d) (hS : Stk h N vs S.reverse) (hD : D32 D) (hd : h.get d = some (u8s D)) (hds : ∀ b, stB vs = some b → ¬ b = d) (hi : i ≤ 1048576) (hp : S.length = pc i)
    {q15 q16 q17 q2 : Value} {x : Nat → Value} (x3 : x 3 = vs) (x6 : x 6 = ptr d 0) (x7 : x 7 = i64n i) (x15 : x 15 = q15) (x16 : x 16 = q16) (x17 : x 17 = q17) (x2 : x 2 = q2) :
    Fin 66 (fun ex y g => ex = .exit 2 ∧ y 6 = ptr d 0 ∧ y 15 = q15 ∧ y 16 = q16 ∧ y 17 = q17 ∧ y 2 = q2 ∧ Kept h g (· = d) ∧ ∃ D' S' vs', y 3 = vs' ∧ Stk g N vs' S'.reverse ∧ stB vs' = stB vs ∧ D32 D' ∧ g.get d = some (u8s D') ∧ push nodeD i D S i = D' :: S') (iter (codeA Tryd.prog CW (partOf Tryd.f54 [1, 1, 1, 0, 1, 0, 0, 1, 1, 0, 0, 1, 1, 0, 1, 0, 0])) rounds (mkF 66 x) h) := by
  refine loop_fin (t54l54_1110100110011010_eq CW) (Inv := fun k y g => ∃ i' D' S' vs', i' ≤ k ∧ i' ≤ 1048576 ∧ y 3 = vs' ∧ y 6 = ptr d 0 ∧ y 7 = i64n i' ∧ y 15 = q15 ∧ y 16 = q16 ∧ y 17 = q17 ∧ y 2 = q2 ∧ Kept h g (· = d) ∧ Stk g N vs' S'.reverse ∧ stB vs' = stB vs ∧ D32 D' ∧ g.get d = some (u8s D') ∧ S'.length = pc i' ∧ push nodeD k D' S' i' = push nodeD i D S i) ?_ i (by have : rounds = 18446744073709551616 := rfl; omega) ⟨i, D, S, vs, Nat.le_refl _, hi, x3, x6, x7, x15, x16, x17, x2, Kept.refl _ _, hS, rfl, hD, hd, hp, rfl⟩
  rintro k y g ⟨i', D', S', vs', hk, hi', y3, y6, y7, y15, y16, y17, y2, K, sk, hb, dD, gd, hp', hpu⟩
  have e1 : bin Tryd.prog .eql 3 (i64n (i' % 2)) (.int .i64 1) = some (.bool (decide (i' % 2 = 1))) := eql1 _
  unfold t54l54_1110100110011010
  simp -implicitDefEqProofs only [y7, and1 hi', e1, thenV_some, pu_some]
  by_cases c : i' % 2 = 1
  · rw [pc_step, c] at hp'
    cases k with
    | zero => omega
    | succ k =>
      cases S' with
      | nil => rw [List.length_nil] at hp'; omega
      | cons p S' =>
        rw [List.length_cons] at hp'
        have hp'' : S'.length = pc (i' / 2) := by omega
        rw [List.reverse_cons] at sk
        obtain ⟨P, gs⟩ := sk.pr
        obtain ⟨b, o, ix, dp, lp⟩ := PR.last P
        obtain ⟨v2, e2, sk2, hb2⟩ := sk.pop
        have hll := sk.len
        rw [List.length_append, List.length_singleton] at hll
        have Lp := lp g (Kept.refl _ _)
        have cD := dig_cells dD
        have L6 := ldN_all gd cD.1 cD.2.1
        have hSl : S'.reverse.length ≤ 1000000 := by
          rw [List.length_reverse]
          have hpc : ∀ (f j : Nat), pcG f j ≤ f := by
            intro f
            induction f with
            | zero => intro j; exact Nat.le_refl _
            | succ f ih =>
              intro j
              have := ih (j / 2)
              show j % 2 + pcG f (j / 2) ≤ f + 1
              omega
          have := hpc (i' / 2) (i' / 2)
          unfold pc at hp''
          omega
        have sb : bin Tryd.prog .sub 3 (i64n (S'.reverse.length + 1)) (.int .i64 1) = some (i64n S'.reverse.length) := sub_n1 (by omega) (by omega)
        have G2 : 4 ≤ g.n0 := by rw [K.n0]; exact hG
        have hdn : g.n0 ≤ d := by rw [K.n0]; omega
        have Z2 : g.get 3 = some roundsL := Kept.getE K hz (by omega)
        obtain ⟨g4, e4, o4⟩ := r70 (h := g) G2 Z2 dp dD
        have dn := dig_cells (nodeD_ok p D')
        obtain ⟨g5, e5, k5, g5', _, n5⟩ := stored_all (n := 32) (k' := u8s (nodeD p D')) (Old.get o4 gd) (by rw [o4.n0]; exact hdn) cD.1 dn.1 dn.2.2
        have sh : bin Tryd.prog .shr 3 (i64n i') (.int .u64 1) = some (i64n (i' / 2)) := shr1
        simp -implicitDefEqProofs only [decide_eq_true c, y3, y6, y7, hll, sb, ix, Lp, L6, e4, e5, e2, sh, thenV_some, pu_some]
        refine Rnd.next k (by omega) ⟨i' / 2, nodeD p D', S', v2, by omega, by omega, rfl, y6, rfl, y15, y16, y17, y2, (K.trans (o4.mono (fun _ _ h => h.elim))).trans k5, ?_, hb2.trans hb, nodeD_ok _ _, g5', hp'', ?_⟩
        · refine (sk2.old o4).keep k5 fun b' hb' => ?_
          rw [hb2, hb] at hb'
          exact hds b' hb'
        · rw [push_s, if_pos c] at hpu
          exact hpu
  · simp -implicitDefEqProofs only [decide_eq_false c, thenV_some, pu_some]
    refine Rnd.out 2 ⟨rfl, y6, y15, y16, y17, y2, K, D', S', vs', y3, sk, hb, dD, gd, ?_⟩
    rw [← hpu]
    cases k with
    | zero => rfl
    | succ k => rw [push_s, if_neg c]
end Go.Proofs.YtdnahgfgoajmcaaDoor

namespace Go.Proofs.YtdnahgfgoajmcaaDoor
open Go Go.Abs
attribute [local congr] thenV_congr
/-- A slice of records that can be read in every heap in which its block is as it was. -/
def RSl (h : Heap) (v : Value) (L : List RecD) : Prop :=
  (∃ a c, v = .slice a L.length c) ∧ (∀ r ∈ L, r.Wf) ∧ ∀ j, j < L.length → ∃ b o, idxS 39 v (i64n j) = some (ptr b o) ∧ b < h.next ∧ ∀ g : Heap, g.get b = h.get b → ldN 39 (ptr b o) g = some (.agg (recC (L.getD j RecD.z)).toArray, g)
/-- Its parts can be taken. -/
def gR (v : Value) : Prop := ∃ a n c, v = .slice a n c ∧ n ≤ c ∧ (0 < n → ∀ b o s, a = some ⟨b, o, some s⟩ → s = 39)
theorem RSl.mono {h h' : Heap} {v : Value} {L : List RecD} (x : RSl h v L) (o : Old h h') : RSl h' v L := by
  refine ⟨x.1, x.2.1, fun j hj => ?_⟩
  obtain ⟨b, q, h1, h2, h3⟩ := x.2.2 j hj
  have hb : h'.get b = h.get b := Kept.get o b h2 (fun h => h)
  exact ⟨b, q, h1, Nat.lt_of_lt_of_le h2 o.next, fun g e => h3 g (e.trans hb)⟩
theorem RSl.len {h : Heap} {v : Value} {L : List RecD} (x : RSl h v L) : lenL v = some (i64n L.length) := by
  obtain ⟨⟨a, c, rfl⟩, _, _⟩ := x
  rfl
theorem RSl.at {h : Heap} {v : Value} {L : List RecD} (x : RSl h v L) {j : Nat} (hj : j < L.length) : ∃ b o, idxS 39 v (i64n j) = some (ptr b o) ∧ (L.getD j RecD.z).Wf ∧ L.getD j RecD.z ∈ L ∧ ∀ g : Heap, Old h g → ldN 39 (ptr b o) g = some (.agg (recC (L.getD j RecD.z)).toArray, g) := by
  obtain ⟨b, q, h1, h2, h3⟩ := x.2.2 j hj
  have hm : L.getD j RecD.z ∈ L := by
    rw [List.getD_eq_getElem?_getD, List.getElem?_eq_getElem hj]
    exact List.getElem_mem hj
  exact ⟨b, q, h1, x.2.1 _ hm, hm, fun g og => h3 g (Kept.get og b h2 (fun h => h))⟩
theorem bnd_hi {n c k : Nat} (h : k ≤ n) (hc : n ≤ c) : boundsA n c none (some (i64n k)) none = some (0, k, c) := by
  have a1 : boundA c c none = some c := rfl
  have a2 : boundA n c (some (i64n k)) = some k := by
    unfold boundA i64n
    simp only
    rw [if_pos (by omega)]
    rfl
  unfold boundsA
  rw [a1]
  simp only [a2]
  rfl
theorem bnd_lo {n c k : Nat} (h : k ≤ n) (hc : n ≤ c) : boundsA n c (some (i64n k)) none none = some (k, n, c) := by
  have a1 : boundA c c none = some c := rfl
  have a2 : boundA n c none = some n := rfl
  have a3 : boundA 0 n (some (i64n k)) = some k := by
    unfold boundA i64n
    simp only
    rw [if_pos (by omega)]
    rfl
  unfold boundsA
  rw [a1]
  simp only [a2, a3]
theorem RSl.take {h : Heap} {v : Value} {L : List RecD} (x : RSl h v L) (g : gR v) {k : Nat} (hk : k < L.length) : ∃ v', slR 39 v none (some (i64n k)) none = some v' ∧ RSl h v' (L.take k) ∧ gR v' := by
  obtain ⟨⟨a, c, rfl⟩, hd, hp⟩ := x
  obtain ⟨a', n', c', e, hle, hs⟩ := g
  cases e
  obtain ⟨b0, o0, e0, _⟩ := hp 0 (by omega)
  cases a with
  | none => cases e0
  | some A =>
    obtain ⟨b, off, sp⟩ := A
    have hb := bnd_hi (c := c) (Nat.le_of_lt hk) hle
    have lt : (L.take k).length = k := by rw [List.length_take]; omega
    refine ⟨.slice (some ⟨b, off, sp⟩) k c, ?_, ⟨⟨_, _, by rw [lt]⟩, fun q hq => hd q (List.mem_of_mem_take hq), fun j hj => ?_⟩, ⟨_, _, _, rfl, by omega, fun _ => hs (by omega)⟩⟩
    · unfold slR sliceSl
      cases sp with
      | none =>
        simp only [hb]
        rw [if_neg (by omega), Nat.zero_mul, Nat.add_zero, Nat.sub_zero, Nat.sub_zero]
      | some s =>
        have : s = 39 := hs (by omega) b off s rfl
        subst this
        simp only [hb]
        rw [if_pos ⟨True.intro, by decide⟩, Nat.zero_mul, Nat.add_zero, Nat.sub_zero, Nat.sub_zero]
    · rw [lt] at hj
      obtain ⟨b1, o1, e1, e2, e3⟩ := hp j (by omega)
      have e4 : (L.take k).getD j RecD.z = L.getD j RecD.z := by
        rw [List.getD_eq_getElem?_getD, List.getD_eq_getElem?_getD, List.getElem?_take, if_pos hj]
      rw [e4]
      refine ⟨b1, o1, ?_, e2, e3⟩
      rw [← e1]
      unfold idxS i64n
      simp only
      rw [if_pos (by omega), if_pos (by omega)]
theorem RSl.drop {h : Heap} {v : Value} {L : List RecD} (x : RSl h v L) (g : gR v) {k : Nat} (hk : k < L.length) : ∃ v', slR 39 v (some (i64n k)) none none = some v' ∧ RSl h v' (L.drop k) ∧ gR v' := by
  obtain ⟨⟨a, c, rfl⟩, hd, hp⟩ := x
  obtain ⟨a', n', c', e, hle, hs⟩ := g
  cases e
  obtain ⟨b0, o0, e0, _⟩ := hp 0 (by omega)
  cases a with
  | none => cases e0
  | some A =>
    obtain ⟨b, off, sp⟩ := A
    have hb := bnd_lo (c := c) (Nat.le_of_lt hk) hle
    have lt : (L.drop k).length = L.length - k := List.length_drop
    refine ⟨.slice (some ⟨b, off + k * 39, sp⟩) (L.length - k) (c - k), ?_, ⟨⟨_, _, by rw [lt]⟩, fun q hq => hd q (List.mem_of_mem_drop hq), fun j hj => ?_⟩, ⟨_, _, _, rfl, by omega, fun _ b' o' s' e => by cases e; exact hs (by omega) b off s' rfl⟩⟩
    · unfold slR sliceSl
      cases sp with
      | none =>
        simp only [hb]
        rw [if_neg (by omega)]
      | some s =>
        have : s = 39 := hs (by omega) b off s rfl
        subst this
        simp only [hb]
        rw [if_pos ⟨True.intro, by decide⟩]
    · rw [lt] at hj
      obtain ⟨b1, o1, e1, e2, e3⟩ := hp (k + j) (by omega)
      have e4 : (L.drop k).getD j RecD.z = L.getD (k + j) RecD.z := by
        rw [List.getD_eq_getElem?_getD, List.getD_eq_getElem?_getD, List.getElem?_drop]
      rw [e4]
      refine ⟨b1, o1, ?_, e2, e3⟩
      rw [← e1]
      unfold idxS i64n
      simp only
      rw [if_pos (by omega), if_pos (by omega), Int.toNat_natCast, Int.toNat_natCast, Nat.add_mul, Nat.add_assoc]
theorem bsl_dig (g : Heap) {D : List Nat} (dD : D32 D) : bslR 32 (.agg (List.replicate 32 (.int .u8 0)).toArray) 1 [(0, .agg (u8s D).toArray)] g = some (.slice (some ⟨g.next, 0, none⟩) 1 1, g.alloc (u8s D)) := by
  have c := dig_cells dD
  have e1 : (Value.agg (u8s D).toArray).cells = (u8s D).toArray := rfl
  have hz : zeros (Value.agg (List.replicate 32 (.int .u8 0)).toArray).cells.toList 1 = List.replicate 32 (.int .u8 0) := rfl
  have e2 : fillL (List.replicate 32 (.int .u8 0)) [(0 * 32, 32, Value.agg (u8s D).toArray)] = some (u8s D) := by
    unfold fillL
    rw [e1, if_pos (by simp [c.1])]
    unfold fillL
    congr 1
    unfold splice
    rw [Nat.zero_mul, List.take_zero, List.nil_append, Nat.zero_add, List.drop_eq_nil_of_le (by rw [List.length_replicate]; simp [c.1]), List.append_nil]
  have hc : (flatAll (Value.agg (List.replicate 32 (.int .u8 0)).toArray).cells.toList && (Value.agg (List.replicate 32 (.int .u8 0)).toArray).cells.size = 32 && 0 < 32 && 1 * 32 ≤ 16777216 && oneCells ([((0 : Nat), Value.agg (u8s D).toArray)].flatMap fun x => x.2.cells.toList)) = true := by
    rw [List.flatMap_cons, List.flatMap_nil, List.append_nil, e1, c.2.2]
    rfl
  unfold bslR
  rw [if_pos (by simpa using hc), hz, List.map_cons, List.map_nil]
  simp only [e2]
theorem pc_le (i : Nat) : pc i ≤ i := by
  have hpc : ∀ (f j : Nat), pcG f j ≤ f := by
    intro f
    induction f with
    | zero => intro j; exact Nat.le_refl _
    | succ f ih =>
      intro j
      have := ih (j / 2)
      show j % 2 + pcG f (j / 2) ≤ f + 1
      omega
  exact hpc i i
/-- The leaves. -/
def lvs (L : List RecD) : List (List Nat) := L.map leafD
theorem lvs_take {L : List RecD} {i : Nat} (hi : i < L.length) : lvs (L.take (i + 1)) = lvs (L.take i) ++ [leafD (L.getD i RecD.z)] := by
  unfold lvs
  rw [List.take_add_one, List.map_append, List.getElem?_eq_getElem hi, List.getD_eq_getElem?_getD, List.getElem?_eq_getElem hi]
  rfl
set_option maxRecDepth 100000 in
/-- The outer loop of tree: the stack after all leaves. -/
theorem tre2 {h : Heap} (hG : 4 ≤ h.n0) (hz : h.get 3 = some roundsL) {N d2 : Nat} {v : Value} {L : List RecD} (hN : N = h.next) (hv : RSl h v L) (hval : ∀ r ∈ L, recB r = true) (hl : L.length ≤ 1000000)
    {x : Nat → Value} (x3 : x 3 = .slice none 0 0) (x15 : x 15 = v) (x16 : x 16 = i64n L.length) (x17 : x 17 = i64n 0) (x2 : x 2 = ptr d2 0) :
    Fin 66 (fun ex y g => ex = .exit 0 ∧ y 2 = ptr d2 0 ∧ Old h g ∧ Stk g N (y 3) (stk nodeD (lvs L) [] 0).reverse) (iter (codeA Tryd.prog CW (partOf Tryd.f54 [1, 1, 1, 0, 1, 0, 0])) rounds (mkF 66 x) h) := by
  refine loop_fin (t54l54_111010_eq CW) (Inv := fun k y g => ∃ i, i + k = L.length ∧ y 15 = v ∧ y 16 = i64n L.length ∧ y 17 = i64n i ∧ y 2 = ptr d2 0 ∧ Old h g ∧ Stk g N (y 3) (stk nodeD (lvs (L.take i)) [] 0).reverse) ?_ L.length (by have : rounds = 18446744073709551616 := rfl; omega) ⟨0, by omega, x15, x16, x17, x2, Kept.refl _ _, by rw [x3]; exact Stk.nil h N⟩
  rintro k y g ⟨i, hik, y15, y16, y17, y2, O, sk⟩
  unfold t54l54_111010
  simp -implicitDefEqProofs only [y16, y17, lss3, thenV_some, pu_some]
  by_cases hi : i < L.length
  · obtain ⟨b, o, ix, wr, mr, lp⟩ := hv.at hi
    have vr := hval _ mr
    have htk := lvs_take hi
    have hli : (lvs (L.take i)).length = i := by unfold lvs; rw [List.length_map, List.length_take]; omega
    have hsl := stk_len nodeD (lvs (L.take i)) [] 0 rfl
    rw [hli, Nat.zero_add] at hsl
    generalize hr : L.getD i RecD.z = r at *
    generalize hSS : stk nodeD (lvs (L.take i)) [] 0 = S at *
    have L1 := lp g O
    have cr := rec_cells wr
    obtain ⟨g1, z1, o1, q1, n1⟩ := fresh (recC RecD.z) g
    obtain ⟨g2, e2, k2, q2, _, n2⟩ := stored_all (n := 39) (k' := recC r) q1 (by rw [o1.n0]; exact g.n0_le_next) rfl cr.1 cr.2.2
    have o2 : Old g g2 := Old.of_new o1 k2 (Nat.le_refl _)
    have L2 := ldN_all q2 cr.1 cr.2.1
    have O2 := O.trans o2
    obtain ⟨g3, e3, o3⟩ := r69 (h := g2) (by rw [O2.n0]; exact hG) (Old.get O2 hz) wr vr
    have O3 := O2.trans o3
    obtain ⟨g4, z4, o4, q4, n4⟩ := fresh (List.replicate 32 (.int .u8 0)) g3
    have dl := dig_cells (leafD_ok r)
    obtain ⟨g5, e5, k5, q5, _, n5⟩ := stored_all (n := 32) (k' := u8s (leafD r)) q4 (by rw [o4.n0]; exact g3.n0_le_next) rfl dl.1 dl.2.2
    have o5 : Old g3 g5 := Old.of_new o4 k5 (Nat.le_refl _)
    have O5 := O3.trans o5
    have sk5 : Stk g5 N (y 3) S.reverse := ((sk.old o2).old o3).old o5
    have hNlt : N ≤ g3.next := by have := O3.next; omega
    have z1 : newC [(.int .u8 0), (.int .u8 0), (.int .u8 0), (.int .u8 0), (.int .u8 0), (.int .u8 0), (.int .u8 0), (.int .u8 0), (.int .u8 0), (.int .u8 0), (.int .u8 0), (.int .u8 0), (.int .u8 0), (.int .u8 0), (.int .u8 0), (.int .u8 0), (.int .u8 0), (.int .u8 0), (.int .u8 0), (.int .u8 0), (.int .u8 0), (.int .u8 0), (.int .u8 0), (.int .u8 0), (.int .u8 0), (.int .u8 0), (.int .u8 0), (.int .u8 0), (.int .u8 0), (.int .u8 0), (.int .u8 0), (.int .u8 0), (.int .u8 0), (.int .i64 0), (.int .u64 0), (.int .u64 0), (.bool false), (.int .i64 0), (.int .i64 0)] g = some (ptr g.next 0, g1) := z1
    simp -implicitDefEqProofs only [decide_eq_true hi, y15, ix, L1, z1, e2, L2, e3, z4, e5, thenV_some, pu_some]
    refine endL_fin (n := 66) (Q := fun o => Rnd 66 _ _ k o) (tre1 (h := g5) (by rw [O5.n0]; exact hG) (Old.get O5 hz) (N := N) (d := g3.next) (i := i) (S := S) (vs := y 3) (q15 := v) (q16 := i64n L.length) (q17 := i64n i) (q2 := ptr d2 0) (by rw [O5.n0]; have := h.n0_le_next; omega) hNlt sk5 (leafD_ok r) q5 (fun b' hb' => by
      have := (sk.lt hb').2
      have := O3.next
      have := o2.next
      have := o3.next
      omega) (by omega) hsl rfl rfl rfl y15 y16 y17 y2) ?_
    rintro _ z g6 ⟨rfl, z6, z15, z16, z17, z2, K6, D', S', vs', z3, sk6, hb6, dD, gd, hpu⟩
    simp -implicitDefEqProofs only [endL_exit, b54_20, if_true, t54k54_18_eq]
    unfold t54k54_18
    have O6 : Old h g6 := Old.of_new O5 K6 (by omega)
    have cD := dig_cells dD
    have L6 := ldN_all gd cD.1 cD.2.1
    have b7 : bslR 32 (.agg (List.replicate 32 (.int .u8 0)).toArray) 1 [(0, .agg (u8s D').toArray)] g6 = some (.slice (some ⟨g6.next, 0, none⟩) 1 1, g6.alloc (u8s D')) := bsl_dig g6 dD
    have o7 : Old g6 (g6.alloc (u8s D')) := Kept.alloc _ _ _
    have q7 : (g6.alloc (u8s D')).get g6.next = some (u8s D') := by rw [Heap.get_alloc, if_pos rfl]
    have hS'l : S'.reverse.length ≤ 1000000 := by
      have := push_len nodeD i (leafD r) S i (Nat.le_refl _) hsl
      rw [hpu, List.length_cons] at this
      have hpc := pc_le (i + 1)
      rw [List.length_reverse]
      omega
    obtain ⟨v8, g8, e8, sk8, k8, hb8⟩ := (sk6.old o7).push (c := g6.next) (by rw [o7.n0, O6.n0]; have := h.n0_le_next; omega) (by have := O6.next; have := o7.next; omega) dD hS'l q7
    have O8 : Old h g8 := (O6.trans o7).also k8 (fun b' hb' hs => by
      have := ((sk6.old o7).lt hs).1
      omega)
    simp -implicitDefEqProofs only [z3, z6, L6, b7, e8, thenV_some, pu_some, t54k54_14_eq]
    unfold t54k54_14
    have a17 : bin Tryd.prog .add 3 (i64n i) (.int .i64 1) = some (i64n (i + 1)) := add31 (by omega)
    have z17' : up z [(3, v8), (43, vs'), (44, .agg (u8s D').toArray), (45, .slice (some ⟨g6.next, 0, none⟩) 1 1), (46, v8)] 17 = i64n i := z17
    simp -implicitDefEqProofs only [z17', a17, thenV_some, pu_some]
    refine Rnd.next (k - 1) (by omega) ⟨i + 1, by omega, z15, z16, rfl, z2, O8, ?_⟩
    have e9 : (stk nodeD (lvs (L.take (i + 1))) [] 0).reverse = S'.reverse ++ [D'] := by
      rw [htk, stk_snoc, hSS, hli, hpu, List.reverse_cons]
    rw [e9]
    exact sk8
  · have : i = L.length := by omega
    subst this
    simp -implicitDefEqProofs only [decide_eq_false hi, thenV_some, pu_some]
    rw [List.take_length] at sk
    exact Rnd.out 0 ⟨rfl, y2, O, sk⟩
end Go.Proofs.YtdnahgfgoajmcaaDoor

namespace Go.Proofs.YtdnahgfgoajmcaaDoor
open Go Go.Abs
attribute [local congr] thenV_congr
theorem rng54 : partOf Tryd.f54 [1, 1, 1, 1, 1, 0, 1, 0] = .rangeFunc (.tmp 59) #[60, 61] (rgA (partOf Tryd.f54 [1, 1, 1, 1, 1, 0, 1, 0])) (rgB (partOf Tryd.f54 [1, 1, 1, 1, 1, 0, 1, 0])) := by kernel_rfl
theorem rng54a : codeOk Tryd.prog (rgA (partOf Tryd.f54 [1, 1, 1, 1, 1, 0, 1, 0])) = true := by kernel_rfl
theorem rng54b : codeOk Tryd.prog (rgB (partOf Tryd.f54 [1, 1, 1, 1, 1, 0, 1, 0])) = true := by kernel_rfl
theorem body135 : hasBody Tryd.prog 135 = true := by kernel_rfl
theorem take_rev {T : List (List Nat)} {j : Nat} (hj : j < T.length) : (T.take (j + 1)).reverse = T.getD j [] :: (T.take j).reverse := by
  rw [List.take_add_one, List.getElem?_eq_getElem hj, List.getD_eq_getElem?_getD, List.getElem?_eq_getElem hj]
  simp
set_option maxRecDepth 100000 in
/-- The loop over what Backward yields. -/
theorem tre3 {h : Heap} (hG : 4 ≤ h.n0) (hz : h.get 3 = some roundsL) {d c : Nat} {w : Value} {T : List (List Nat)} {D : List Nat} {x : Nat → Value} (x8 : x 8 = ptr d 0) (x59 : x 59 = .func (.func 135) #[] #[ptr c 0])
    (hw : PR h w T) (hww : isHole w = false) (hT : T.length ≤ 1000000) (hwd : ∀ j b o, j < T.length → idxS 32 w (i64n j) = some (ptr b o) → ¬ b = d) (hc : h.get c = some [w]) (hcd : ¬ c = d) (hd : h.get d = some (u8s D)) (hD : D32 D) (hd0 : h.n0 ≤ d) (hd3 : ¬ 3 = d) :
    ∃ h', codeA Tryd.prog CW (partOf Tryd.f54 [1, 1, 1, 1, 1, 0, 1, 0]) (mkF 66 x) h = some (.normal, mkF 66 x, h') ∧ Kept h h' (· = d) ∧ h'.get d = some (u8s (finS nodeD (D :: T.reverse))) := by
  have hdn := h.lt_of_get hd
  have hcn := h.lt_of_get hc
  generalize hA : rgA (partOf Tryd.f54 [1, 1, 1, 1, 1, 0, 1, 0]) = ca at *
  generalize hB : rgB (partOf Tryd.f54 [1, 1, 1, 1, 1, 0, 1, 0]) = cb at *
  have L0 := LpR.new h (mkF 66 x) [60, 61] ca cb
  have k0 : Old h (h.allocB (.obj (.loop .ready none (mkF 66 x) [60, 61] ca cb))) := Kept.allocO _ _ _
  have n0 : (h.allocB (.obj (.loop .ready none (mkF 66 x) [60, 61] ca cb))).next = h.next + 1 := rfl
  have hk : ∀ g, Kept (h.allocB (.obj (.loop .ready none (mkF 66 x) [60, 61] ca cb))) g (fun b => b = d ∨ b = h.next) → Kept h g (fun b => b = d ∨ b = h.next) := fun g k => (k0.mono (fun _ _ h => h.elim)).trans k
  generalize hh0 : h.allocB (.obj (.loop .ready none (mkF 66 x) [60, 61] ca cb)) = h0 at *
  obtain ⟨h2, e2, K2, R2, g2, _⟩ := r135 (h := h0) (by rw [k0.n0]; exact hG) (L := h.next) (c := c) (w := w) (T := T) hT
    (fun j g => Kept h g (fun b => b = d ∨ b = h.next) ∧ LpR g h.next (mkF 66 x) [60, 61] ca cb ∧ h0.next ≤ g.next ∧ ∃ D', g.get d = some (u8s D') ∧ D32 D' ∧ (T.take j).reverse.foldl (fun d x => nodeD x d) D' = T.reverse.foldl (fun d x => nodeD x d) D)
    (fun j g ⟨K, _, _, _⟩ => by
      refine ⟨?_, hw.1, hw.2.1, fun j hj => ?_⟩
      · exact ld1_at (K.getE hc (fun q => by rcases q with q | q <;> omega)) (by rfl) hww
      · obtain ⟨b, o, h1, h2, h3⟩ := hw.2.2 j hj
        have hne := hwd j b o hj h1
        have hb : g.get b = h.get b := Kept.get K b h2 (fun q => by rcases q with q | q <;> omega)
        exact ⟨b, o, h1, Nat.lt_of_lt_of_le h2 K.next, fun g' e => h3 g' (e.trans hb)⟩)
    (fun j g hj ⟨K, R, hn, D', gd, dD, hf⟩ => by
      have G : 4 ≤ g.n0 := by rw [K.n0]; exact hG
      have hp : D32 (T.getD j []) := hw.2.1 _ (by
        rw [List.getD_eq_getElem?_getD, List.getElem?_eq_getElem hj]
        exact List.getElem_mem hj)
      rw [take_rev hj, List.foldl_cons] at hf
      generalize T.getD j [] = p at *
      have cp := dig_cells hp
      have cD := dig_cells dD
      obtain ⟨g3, z3, o3, g3', n3⟩ := fresh (List.replicate 32 (.int .u8 0)) g
      obtain ⟨g4, e4, k4, g4', _, n4⟩ := stored_all (n := 32) (k' := u8s p) g3' (by rw [o3.n0]; exact g.n0_le_next) rfl cp.1 cp.2.2
      have o4 : Old g g4 := Old.of_new o3 k4 (Nat.le_refl _)
      have ha : codeA Tryd.prog CW ca (putAll (mkF 66 x) ([60, 61].zip [i64n j, .agg (u8s p).toArray])) g = some (.normal, mkF 66 (up (up (up x [(60, i64n j)]) [(61, .agg (u8s p).toArray)]) [(10, ptr g.next 0)]), g4) := by
        show codeA Tryd.prog CW ca (((mkF 66 x).set 60 (i64n j)).set 61 (.agg (u8s p).toArray)) g = _
        rw [mkF_set, mkF_set, ← hA, t54l54_11111010a_eq]
        unfold t54l54_11111010a
        have y61 : up (up x [(60, i64n j)]) [(61, .agg (u8s p).toArray)] 61 = .agg (u8s p).toArray := rfl
        simp -implicitDefEqProofs only [y61, z3, e4, thenV_some, pu_some]
      have R4 : LpR g4 h.next (mkF 66 x) [60, 61] ca cb := R.keep o4 (fun h => h)
      have R4' := R4
      unfold LpR at R4'
      have kS : Kept g4 (g4.setO h.next (.loop .busy none (mkF 66 x) [60, 61] ca cb)) (· = h.next) := Kept.setO R4' rfl
      have gS : ∀ b, (g4.setO h.next (.loop .busy none (mkF 66 x) [60, 61] ca cb)).get b = g4.get b := fun b => Heap.get_setO R4' _ b
      have nS : (g4.setO h.next (.loop .busy none (mkF 66 x) [60, 61] ca cb)).next = g4.next := rfl
      generalize hg5 : g4.setO h.next (.loop .busy none (mkF 66 x) [60, 61] ca cb) = g5 at *
      have G5 : 4 ≤ g5.n0 := by rw [kS.n0, o4.n0]; exact G
      have q10 : g5.get g.next = some (u8s p) := (gS _).trans g4'
      have q8 : g5.get d = some (u8s D') := (gS _).trans (Old.get o4 gd)
      have Z5 : g5.get 3 = some roundsL := (gS _).trans (Old.get o4 (K.getE hz (fun q => by
        have := h.lt_of_get hz
        rcases q with q | q <;> omega)))
      have l10 := ldN_all q10 cp.1 cp.2.1
      have l8 := ldN_all q8 cD.1 cD.2.1
      obtain ⟨g6, e6, o6⟩ := r70 (h := g5) G5 Z5 hp dD
      have dn := dig_cells (nodeD_ok p D')
      obtain ⟨g7, e7, k7, g7', _, n7⟩ := stored_all (n := 32) (k' := u8s (nodeD p D')) (Old.get o6 q8) (by rw [o6.n0, kS.n0, o4.n0, K.n0]; exact hd0) cD.1 dn.1 dn.2.2
      have hb : codeA Tryd.prog CW cb (mkF 66 (up (up (up x [(60, i64n j)]) [(61, .agg (u8s p).toArray)]) [(10, ptr g.next 0)])) g5 = some (.normal, mkF 66 (up (up (up (up x [(60, i64n j)]) [(61, .agg (u8s p).toArray)]) [(10, ptr g.next 0)]) [(62, .agg (u8s p).toArray), (63, .agg (u8s D').toArray), (64, .agg (u8s (nodeD p D')).toArray)]), g7) := by
        rw [← hB, t54l54_11111010b_eq]
        unfold t54l54_11111010b
        have y10 : up (up (up x [(60, i64n j)]) [(61, .agg (u8s p).toArray)]) [(10, ptr g.next 0)] 10 = ptr g.next 0 := rfl
        have y8 : up (up (up x [(60, i64n j)]) [(61, .agg (u8s p).toArray)]) [(10, ptr g.next 0)] 8 = ptr d 0 := x8
        simp -implicitDefEqProofs only [y10, y8, l10, l8, e6, e7, thenV_some, pu_some]
      have k57 : Kept g5 g7 (· = d) := (o6.mono (fun _ _ h => h.elim)).trans k7
      obtain ⟨g8, e8, R8, n8, m8, s8, b8⟩ := LpR.round (B := (· = d)) R rfl (by rw [← hA]; exact rng54a) (by rw [← hB]; exact rng54b) ha (o4.mono (fun _ _ h => h.elim)) (show ¬ h.next = d by omega) (by rw [hg5]; exact hb) (by rw [hg5]; exact k57)
      have hnx : g.next ≤ g8.next := by
        have := o4.next
        have := k57.next
        omega
      have K8 : Kept g g8 (fun b => b = d ∨ b = h.next) := by
        refine ⟨m8, hnx, fun b hb hq => ?_⟩
        have q1 : ¬ b = d := fun q => hq (.inl q)
        have q2 : ¬ b = h.next := fun q => hq (.inr q)
        have n4' := o4.next
        rw [b8 b q2, k57.getB b (by omega) q1, kS.getB b (by omega) q2]
        exact Kept.getB o4 b hb (fun h => h)
      exact ⟨g8, CW_yield G e8, K.trans K8, R8, by omega, nodeD p D', (s8 d).trans g7', nodeD_ok _ _, hf⟩)
    ⟨hk _ (Kept.refl _ _), L0, Nat.le_refl _, D, Old.get k0 hd, hD, by rw [List.take_length]⟩
  obtain ⟨D', gd', dD', hf⟩ : ∃ D', h2.get d = some (u8s D') ∧ D32 D' ∧ (T.take 0).reverse.foldl (fun d x => nodeD x d) D' = T.reverse.foldl (fun d x => nodeD x d) D := by
    obtain ⟨_, D', q1, q2, q3⟩ := (⟨g2, ‹_›⟩ : (h0.next ≤ h2.next) ∧ _)
    exact ⟨D', q1, q2, q3⟩
  obtain ⟨h3, e3, k3, n3⟩ := R2.fin (e0 := mkF 66 x)
  have hv : ev (mkF 66 x) (.tmp 59) = .func (.func 135) #[] #[ptr c 0] := (ev_mkF (by decide) x).trans x59
  refine ⟨h3, ?_, ?_, ?_⟩
  · refine (code_range (v := .tuple #[]) (h2 := h2) (ps := #[60, 61]) rng54 hv body135 ?_).trans e3
    rw [hA, hB]
    show CW 135 [.func (.yield h.next) #[] #[], ptr c 0] (h.allocB (.obj (.loop .ready none (mkF 66 x) [60, 61] ca cb))) = _
    rw [hh0]
    exact e2
  · refine ⟨k3.n0.trans K2.n0, Nat.le_trans K2.next k3.next, fun b hb hq => ?_⟩
    rw [k3.getB b (by have := K2.next; omega) (by omega), K2.getB b hb (fun q => by rcases q with q | q; exact hq q; omega)]
  · rw [k3.getE gd' (by omega)]
    rw [List.take_zero, List.reverse_nil, List.foldl_nil] at hf
    rw [hf]
    rfl
/-- The tree hash of records. -/
def treeV (L : List RecD) : List Nat := if L.length = 0 then nilD else treeN nodeD (lvs L)
theorem pc_pos : ∀ (i : Nat), pc i = 0 → i = 0 := by
  intro i
  induction i using Nat.strongRecOn with
  | _ i ih =>
    intro h
    rw [pc_step] at h
    by_cases c : i = 0
    · exact c
    · have := ih (i / 2) (by omega) (by omega)
      omega
theorem treeG_ok : ∀ (f : Nat) (L : List (List Nat)), (∀ t ∈ L, D32 t) → 1 ≤ L.length → L.length ≤ f → D32 (treeG nodeD f L)
  | 0, L, _, h1, h2 => by omega
  | f + 1, L, hd, h1, h2 => by
    rw [treeG_s]
    split
    · match L, h1 with
      | d :: _, _ => exact hd d List.mem_cons_self
    · exact nodeD_ok _ _
theorem treeV_ok (L : List RecD) : D32 (treeV L) := by
  unfold treeV
  split
  · exact nilD_ok
  · have hl : (lvs L).length = L.length := List.length_map _
    exact treeG_ok _ _ (fun t ht => by obtain ⟨r, _, rfl⟩ := List.mem_map.1 ht; exact leafD_ok r) (by omega) (Nat.le_refl _)
theorem stk_ok : ∀ (M S : List (List Nat)) (i : Nat), (∀ t ∈ M, D32 t) → (∀ t ∈ S, D32 t) → ∀ t ∈ stk nodeD M S i, D32 t
  | [], S, i, _, hS => hS
  | d :: M, S, i, hM, hS => stk_ok M _ _ (fun t ht => hM t (List.mem_cons_of_mem _ ht)) (push_ok nodeD (fun a b => nodeD_ok a b) i i (hM d List.mem_cons_self) hS)
set_option maxRecDepth 100000 in
/-- tree -/
theorem r54 {h : Heap} (hG : 4 ≤ h.n0) (hz : h.get 3 = some roundsL) {v : Value} {L : List RecD} (hv : RSl h v L) (hval : ∀ r ∈ L, recB r = true) (hl : L.length ≤ 1000000) :
    ∃ h', CW 54 [v] h = some (.agg (u8s (treeV L)).toArray, h') ∧ Old h h' := by
  obtain ⟨h1, z1, o1, g1, n1⟩ := fresh (List.replicate 32 (.int .u8 0)) h
  have hll := hv.len
  have q0 := eql0 L.length
  by_cases c : L.length = 0
  · rw [decide_eq_true c] at q0
    obtain ⟨h2, e2, o2⟩ := r106 (h := h1) (by rw [o1.n0]; exact hG) (Old.get o1 hz)
    have dn := dig_cells nilD_ok
    have O2 := o1.trans o2
    obtain ⟨h3, e3, k3, g3, _, n3⟩ := stored_all (n := 32) (k' := u8s nilD) (Old.get o2 g1) (by rw [O2.n0]; exact h.n0_le_next) rfl dn.1 dn.2.2
    have L3 := ldN_all g3 dn.1 dn.2.1
    have ev : treeV L = nilD := by unfold treeV; rw [if_pos c]
    rw [ev]
    refine ⟨h3, CW_body is54 hG rfl ((t54_eq _ _ _).trans ?_), Old.of_new O2 k3 (Nat.le_refl _)⟩
    unfold t54
    simp -implicitDefEqProofs only [z1, hll, q0, e2, e3, thenV_some, pu_some]
    exact res_cell results54 agg35 size32 (show 2 < 66 by decide) _ L3
  · rw [decide_eq_false c] at q0
    have hlv : (lvs L).length = L.length := List.length_map _
    have hfin := fin_stk nodeD L.length (lvs L) hlv (by omega) (by omega)
    have hsl := stk_len nodeD (lvs L) [] 0 rfl
    rw [hlv, Nat.zero_add] at hsl
    have hso := stk_ok (lvs L) [] 0 (fun t ht => by obtain ⟨r, _, rfl⟩ := List.mem_map.1 ht; exact leafD_ok r) (fun t ht => by cases ht)
    have ev : treeV L = treeN nodeD (lvs L) := by unfold treeV; rw [if_neg c]
    have key : ∃ o : Out, t54 CW v h = o ∧ ∃ h', o = some (.agg (u8s (treeV L)).toArray, h') ∧ Old h h' := by
      refine ⟨_, rfl, ?_⟩
      unfold t54
      simp -implicitDefEqProofs only [z1, hll, q0, thenV_some, pu_some]
      refine endL_fin (n := 66) (Q := fun o : Out => ∃ h', o = some (.agg (u8s (treeV L)).toArray, h') ∧ Old h h') (tre2 (h := h1) (by rw [o1.n0]; exact hG) (Old.get o1 hz) (N := h1.next) (d2 := h.next) rfl (hv.mono o1) hval hl rfl rfl rfl rfl rfl) ?_
      rintro _ y g ⟨rfl, y2, O, sk⟩
      simp -implicitDefEqProofs only [endL_exit, b54_7, if_true, t54k54_5_eq]
      unfold t54k54_5
      generalize hSS : stk nodeD (lvs L) [] 0 = S at *
      cases S with
      | nil =>
        have := pc_pos L.length (by rw [← hsl]; rfl)
        exact absurd this c
      | cons D S' =>
        rw [List.reverse_cons] at sk
        have hlen := sk.len
        rw [List.length_append, List.length_singleton] at hlen
        have hS'l : S'.reverse.length ≤ 1000000 := by
          have := pc_le L.length
          rw [List.length_cons] at hsl
          rw [List.length_reverse]
          omega
        obtain ⟨P, gs⟩ := sk.pr
        obtain ⟨b, o, ix, dD, lp⟩ := PR.last P
        have Lp := lp g (Kept.refl _ _)
        have cD := dig_cells dD
        have sb : bin Tryd.prog .sub 3 (i64n (S'.reverse.length + 1)) (.int .i64 1) = some (i64n S'.reverse.length) := sub_n1 (by omega) (by omega)
        obtain ⟨g2, z2, o2, q2, m2⟩ := fresh (List.replicate 32 (.int .u8 0)) g
        obtain ⟨g3, e3, k3, q3, _, m3⟩ := stored_all (n := 32) (k' := u8s D) q2 (by rw [o2.n0]; exact g.n0_le_next) rfl cD.1 cD.2.2
        have o3 : Old g g3 := Old.of_new o2 k3 (Nat.le_refl _)
        obtain ⟨w, ew, skw, hbw⟩ := (sk.old o3).pop
        obtain ⟨Pw, gw⟩ := skw.pr
        have hbl : ∀ b', stB w = some b' → b' < g.next := fun b' hb' => (sk.lt (hbw ▸ hb')).2
        obtain ⟨wa, wc, rfl⟩ := Pw.1
        have OO3 : Old h g3 := (o1.trans O).trans o3
        obtain ⟨g4, e4, o4, q4, m4⟩ := r107 (h := g3) (by rw [OO3.n0]; exact hG) (a := wa) (n := S'.reverse.length) (c := wc)
        have OO4 := OO3.trans o4
        simp -implicitDefEqProofs only [hlen, sb, ix, Lp, z2, e3, ew, e4, thenV_some, pu_some]
        have hz3 : ¬ 3 = g.next := by
          have := h.lt_of_get hz
          have := o1.next
          have := O.next
          omega
        obtain ⟨g5, e5, k5, q5⟩ := tre3 (h := g4) (by rw [OO4.n0]; exact hG) (Old.get OO4 hz) (d := g.next) (c := g3.next) (w := .slice wa S'.reverse.length wc) (T := S'.reverse) (D := D) (x := up y [(8, ptr g.next 0), (48, y 3), (49, y 3), (50, i64n (S'.reverse.length + 1)), (51, i64n S'.reverse.length), (52, ptr b o), (53, .agg (u8s D).toArray), (54, y 3), (55, y 3), (56, i64n (S'.reverse.length + 1)), (57, i64n S'.reverse.length), (58, .slice wa S'.reverse.length wc), (59, .func (.func 135) #[] #[ptr g3.next 0])]) rfl rfl (Pw.mono o4) rfl hS'l (fun j b' o' hj e => by
            have : stB (.slice wa S'.reverse.length wc) = some b' := by
              rcases skw.form with ⟨h0, _⟩ | ⟨bb, m, X, h1, _⟩
              · rw [h0] at hj; exact absurd hj (Nat.not_lt_zero j)
              · rw [h1] at e ⊢
                unfold idxS i64n at e
                simp only at e
                split at e
                · cases e; rfl
                · cases e
            have := hbl b' this
            omega) q4 (by have := o3.next; have := m2; omega) (Old.get o4 q3) dD (by rw [OO4.n0]; have := h.n0_le_next; have := o1.next; have := O.next; omega) hz3
        rw [e5]
        show ∃ h', k54_9 CW (mkF 66 _) g5 = some (.agg (u8s (treeV L)).toArray, h') ∧ Old h h'
        rw [t54k54_9_eq]
        unfold t54k54_9
        rw [List.reverse_reverse, hfin, ← ev] at q5
        have ct := dig_cells (treeV_ok L)
        have L8 := ldN_all q5 ct.1 ct.2.1
        have y2' : up y [(8, ptr g.next 0), (48, y 3), (49, y 3), (50, i64n (S'.reverse.length + 1)), (51, i64n S'.reverse.length), (52, ptr b o), (53, .agg (u8s D).toArray), (54, y 3), (55, y 3), (56, i64n (S'.reverse.length + 1)), (57, i64n S'.reverse.length), (58, .slice wa S'.reverse.length wc), (59, .func (.func 135) #[] #[ptr g3.next 0])] 2 = ptr h.next 0 := y2
        have y8' : up y [(8, ptr g.next 0), (48, y 3), (49, y 3), (50, i64n (S'.reverse.length + 1)), (51, i64n S'.reverse.length), (52, ptr b o), (53, .agg (u8s D).toArray), (54, y 3), (55, y 3), (56, i64n (S'.reverse.length + 1)), (57, i64n S'.reverse.length), (58, .slice wa S'.reverse.length wc), (59, .func (.func 135) #[] #[ptr g3.next 0])] 8 = ptr g.next 0 := rfl
        have hne : ¬ h.next = g.next := by have := O.next; omega
        obtain ⟨g6, e6, k6, q6, _, m6⟩ := stored_all (n := 32) (k' := u8s (treeV L)) (k5.getE (Old.get ((O.trans o3).trans o4) g1) hne) (by rw [k5.n0, OO4.n0]; exact h.n0_le_next) rfl ct.1 ct.2.2
        have L6 := ldN_all q6 ct.1 ct.2.1
        have hO5 : Old h g5 := Old.of_new OO4 k5 (by have := o1.next; have := O.next; omega)
        simp -implicitDefEqProofs only [y2', y8', L8, e6, thenV_some, pu_some]
        refine ⟨g6, ?_, Old.of_new hO5 k6 (Nat.le_refl _)⟩
        refine res_cell results54 agg35 size32 (show 2 < 66 by decide) _ ?_
        rw [show up (up y [(8, ptr g.next 0), (48, y 3), (49, y 3), (50, i64n (S'.reverse.length + 1)), (51, i64n S'.reverse.length), (52, ptr b o), (53, .agg (u8s D).toArray), (54, y 3), (55, y 3), (56, i64n (S'.reverse.length + 1)), (57, i64n S'.reverse.length), (58, .slice wa S'.reverse.length wc), (59, .func (.func 135) #[] #[ptr g3.next 0])]) [(65, .agg (u8s (treeV L)).toArray)] 2 = ptr h.next 0 from y2']
        exact L6
    obtain ⟨o9, e, h', e', q⟩ := key
    exact ⟨h', CW_body is54 hG rfl ((t54_eq _ _ _).trans (e.trans e')), q⟩
end Go.Proofs.YtdnahgfgoajmcaaDoor

namespace Go.Proofs.YtdnahgfgoajmcaaDoor
open Go Go.Abs
attribute [local congr] thenV_congr
/-- How many bits a number has. -/
def blG : Nat → Nat → Nat
  | 0, _ => 0
  | f + 1, m => if m = 0 then 0 else blG f (m / 2) + 1
def blN (m : Nat) : Nat := blG 8 m
def lenT : ByteArray := ⟨#[0, 1, 2, 2, 3, 3, 3, 3, 4, 4, 4, 4, 4, 4, 4, 4, 5, 5, 5, 5, 5, 5, 5, 5, 5, 5, 5, 5, 5, 5, 5, 5, 6, 6, 6, 6, 6, 6, 6, 6, 6, 6, 6, 6, 6, 6, 6, 6, 6, 6, 6, 6, 6, 6, 6, 6, 6, 6, 6, 6, 6, 6, 6, 6, 7, 7, 7, 7, 7, 7, 7, 7, 7, 7, 7, 7, 7, 7, 7, 7, 7, 7, 7, 7, 7, 7, 7, 7, 7, 7, 7, 7, 7, 7, 7, 7, 7, 7, 7, 7, 7, 7, 7, 7, 7, 7, 7, 7, 7, 7, 7, 7, 7, 7, 7, 7, 7, 7, 7, 7, 7, 7, 7, 7, 7, 7, 7, 7, 8, 8, 8, 8, 8, 8, 8, 8, 8, 8, 8, 8, 8, 8, 8, 8, 8, 8, 8, 8, 8, 8, 8, 8, 8, 8, 8, 8, 8, 8, 8, 8, 8, 8, 8, 8, 8, 8, 8, 8, 8, 8, 8, 8, 8, 8, 8, 8, 8, 8, 8, 8, 8, 8, 8, 8, 8, 8, 8, 8, 8, 8, 8, 8, 8, 8, 8, 8, 8, 8, 8, 8, 8, 8, 8, 8, 8, 8, 8, 8, 8, 8, 8, 8, 8, 8, 8, 8, 8, 8, 8, 8, 8, 8, 8, 8, 8, 8, 8, 8, 8, 8, 8, 8, 8, 8, 8, 8, 8, 8, 8, 8, 8, 8, 8, 8, 8, 8, 8, 8, 8, 8, 8, 8, 8, 8, 8, 8]⟩
theorem lenT_all : ((List.range 128).all fun m => lenT.data[m]? == some (UInt8.ofNat (blN m))) = true := by kernel_rfl
theorem lenT_small : ((List.range 128).all fun m => Nat.ble (blN m) 7) = true := by kernel_rfl
theorem half_all : ((List.range 127).all fun m => Nat.beq (2 ^ (blN (m + 1) - 1)) (halfN (m + 2))) = true := by kernel_rfl
set_option maxRecDepth 100000 in
theorem lenT_at {m : Nat} (hm : m < 128) : ixS (.string lenT) (.int .u8 (m : Int)) = some (.int .u8 (blN m : Int)) ∧ blN m ≤ 7 := by
  have h1 := List.all_eq_true.1 lenT_all m (List.mem_range.2 hm)
  have h2 := Nat.le_of_ble_eq_true (List.all_eq_true.1 lenT_small m (List.mem_range.2 hm))
  have h1 : lenT.data[m]? = some (UInt8.ofNat (blN m)) := by simpa using h1
  refine ⟨?_, h2⟩
  unfold ixS
  simp only
  rw [if_pos (by omega), Int.toNat_natCast]
  have e : lenT[m]? = lenT.data[m]? := by
    have hs : lenT.size = lenT.data.size := rfl
    by_cases c : m < lenT.size
    · rw [getElem?_pos lenT m c, getElem?_pos lenT.data m (by rw [← hs]; exact c)]
      rfl
    · rw [getElem?_neg lenT m c, getElem?_neg lenT.data m (by rw [← hs]; exact c)]
  rw [e, h1, Option.map_some]
  generalize blN m = b at h2
  show some (Value.int .u8 (((UInt8.ofNat b).toNat : Nat) : Int)) = _
  rw [UInt8.toNat_ofNat', Nat.mod_eq_of_lt (by omega)]
theorem half_bl {n : Nat} (h1 : 2 ≤ n) (h2 : n ≤ 128) : 2 ^ (blN (n - 1) - 1) = halfN n ∧ 1 ≤ blN (n - 1) := by
  have h := Nat.eq_of_beq_eq_true (List.all_eq_true.1 half_all (n - 2) (List.mem_range.2 (by omega)))
  rw [show n - 2 + 1 = n - 1 by omega, show n - 2 + 2 = n by omega] at h
  refine ⟨h, ?_⟩
  show 1 ≤ blG (7 + 1) (n - 1)
  unfold blG
  rw [if_neg (by omega)]
  omega
theorem shl_one {k : Nat} (hk : k ≤ 20) : bin Tryd.prog .shl 3 (.int .i64 1) (i64n k) = some (i64n (2 ^ k)) := by
  unfold i64n
  rw [bin_int]
  unfold binI
  simp only
  rw [if_neg (by omega), Int.toNat_natCast, Int.one_mul]
  have h2 : (2 : Nat) ^ k ≤ 2 ^ 20 := Nat.pow_le_pow_right (by decide) hk
  have e : min k (IntKind.bits .i64) = k := Nat.min_eq_left (by show k ≤ 64; omega)
  have key : ∀ p : Nat, p ≤ 1048576 → some (Value.int .i64 (IntKind.wrap .i64 (p : Int))) = some (.int .i64 (p : Int)) := fun p hp => by rw [wrap_i64 (by omega) (by omega)]
  rw [e, show ((2 : Int) ^ k) = ((2 ^ k : Nat) : Int) by rw [Int.natCast_pow]; rfl]
  exact key _ h2
theorem is148 : IsFn Tryd.prog 148 Tryd.f148 := ⟨by kernel_rfl, by kernel_rfl, by kernel_rfl, by kernel_rfl⟩
theorem is118 : IsFn Tryd.prog 118 Tryd.f118 := ⟨by kernel_rfl, by kernel_rfl, by kernel_rfl, by kernel_rfl⟩
theorem is83 : IsFn Tryd.prog 83 Tryd.f83 := ⟨by kernel_rfl, by kernel_rfl, by kernel_rfl, by kernel_rfl⟩
theorem geq_u (m c : Nat) (h : m < c) : bin Tryd.prog .geq 32 (.int .u64 (m : Int)) (.int .u64 (c : Int)) = some (.bool false) := by
  rw [bin_geq, decide_eq_false (by omega)]
set_option maxRecDepth 100000 in
theorem r148 {h : Heap} (hG : 4 ≤ h.n0) {m : Nat} (hm : m < 128) : CW 148 [.int .u64 (m : Int)] h = some (i64n (blN m), h) := by
  have g1 : bin Tryd.prog .geq 32 (.int .u64 (m : Int)) (.int .u64 4294967296) = some (.bool false) := geq_u m 4294967296 (by omega)
  have g2 : bin Tryd.prog .geq 32 (.int .u64 (m : Int)) (.int .u64 65536) = some (.bool false) := geq_u m 65536 (by omega)
  have g3 : bin Tryd.prog .geq 32 (.int .u64 (m : Int)) (.int .u64 256) = some (.bool false) := geq_u m 256 (by omega)
  have c1 : cvI .u8 (.int .u64 (m : Int)) h = some (.int .u8 (m : Int), h) := by
    rw [cvI_int, show IntKind.wrap .u8 (m : Int) = (m : Int) from Int.emod_eq_of_lt (by omega) (by show (m : Int) < 256; omega)]
  obtain ⟨t, hb⟩ := lenT_at hm
  unfold lenT at t
  have c2 : cvI .i64 (.int .u8 (blN m : Int)) h = some (i64n (blN m), h) := by
    rw [cvI_int, wrap_i64 (by omega) (by omega)]
  have a1 : bin Tryd.prog .add 3 (.int .i64 0) (i64n (blN m)) = some (i64n (blN m)) := by
    unfold i64n
    rw [bin_add, Int.zero_add, wrap_i64 (by omega) (by omega)]
  refine CW_body is148 hG rfl ((t148_eq _ _ _).trans ?_)
  unfold t148
  simp -implicitDefEqProofs only [g1, g2, g3, c1, t, c2, a1, thenV_some, pu_some]
theorem r118 {h : Heap} (hG : 4 ≤ h.n0) {m : Nat} (hm : m < 128) : CW 118 [.int .u64 (m : Int)] h = some (i64n (blN m), h) := by
  refine CW_body is118 hG rfl ((t118_eq _ _ _).trans ?_)
  unfold t118
  have e := r148 hG hm
  simp -implicitDefEqProofs only [e, thenV_some, pu_some]
theorem r83 {h : Heap} (hG : 4 ≤ h.n0) {n : Nat} (h1 : 2 ≤ n) (h2 : n ≤ 128) : CW 83 [i64n n] h = some (i64n (halfN n), h) := by
  have s1 := sub_n1 (a := n) (by omega) (by omega)
  have c1 : cvI .u64 (i64n (n - 1)) h = some (.int .u64 ((n - 1 : Nat) : Int), h) := by
    unfold i64n
    rw [cvI_int, show IntKind.wrap .u64 ((n - 1 : Nat) : Int) = ((n - 1 : Nat) : Int) from Int.emod_eq_of_lt (by omega) (by show ((n - 1 : Nat) : Int) < 18446744073709551616; omega)]
  have e := r118 (h := h) hG (m := n - 1) (by omega)
  obtain ⟨hb, hb1⟩ := half_bl h1 h2
  have hb2 := (lenT_at (m := n - 1) (by omega)).2
  have s2 := sub_n1 (a := blN (n - 1)) hb1 (by omega)
  have s3 := shl_one (k := blN (n - 1) - 1) (by omega)
  rw [hb] at s3
  refine CW_body is83 hG rfl ((t83_eq _ _ _).trans ?_)
  unfold t83
  simp -implicitDefEqProofs only [s1, c1, e, s2, s3, thenV_some, pu_some]
end Go.Proofs.YtdnahgfgoajmcaaDoor

namespace Go.Proofs.YtdnahgfgoajmcaaDoor
open Go Go.Abs
attribute [local congr] thenV_congr
/-- The cells of a list of records. -/
def recsC (P : List RecD) : List Value := P.flatMap recC
theorem recsC_len : ∀ {P : List RecD}, (∀ p ∈ P, RecD.Wf p) → (recsC P).length = P.length * 39
  | [], _ => rfl
  | p :: P, h => by
    have ih := recsC_len (P := P) fun q hq => h q (List.mem_cons_of_mem _ hq)
    have hp := (rec_cells (h p List.mem_cons_self)).1
    unfold recsC at ih ⊢
    rw [List.flatMap_cons, List.length_append, ih, hp, List.length_cons]
    omega
theorem recsC_get : ∀ {P : List RecD}, (∀ p ∈ P, RecD.Wf p) → ∀ {j : Nat}, j < P.length → ((recsC P).drop (j * 39)).take 39 = recC (P.getD j RecD.z)
  | [], _, j, hj => absurd hj (Nat.not_lt_zero j)
  | p :: P, h, j, hj => by
    have hp := (rec_cells (h p List.mem_cons_self)).1
    cases j with
    | zero =>
      unfold recsC
      rw [List.flatMap_cons, Nat.zero_mul, List.drop_zero, ← hp, List.take_left]
      rfl
    | succ j =>
      have ih := recsC_get (P := P) (fun q hq => h q (List.mem_cons_of_mem _ hq)) (j := j) (by rw [List.length_cons] at hj; omega)
      unfold recsC at ih ⊢
      rw [List.flatMap_cons, show (j + 1) * 39 = 39 + j * 39 by omega, ← List.drop_drop, List.drop_left' hp, List.getD_cons_succ, ih]
theorem recsC_ok : ∀ {P : List RecD}, (∀ p ∈ P, RecD.Wf p) → Abs.noHoles (recsC P) = true ∧ oneCells (recsC P) = true
  | [], _ => ⟨rfl, rfl⟩
  | p :: P, h => by
    have ih := recsC_ok (P := P) fun q hq => h q (List.mem_cons_of_mem _ hq)
    have hp := rec_cells (h p List.mem_cons_self)
    unfold recsC at ih ⊢
    unfold Abs.noHoles oneCells at *
    rw [List.flatMap_cons, List.all_append, List.all_append, ih.1, ih.2, hp.2.1, hp.2.2]
    exact ⟨rfl, rfl⟩
/-- A slice of records, its cells in one block. -/
def RcS (h : Heap) (v : Value) (P : List RecD) : Prop := (∀ p ∈ P, RecD.Wf p) ∧ SlN h recK v P.length (recsC P)
theorem RcS.rsl {h : Heap} {v : Value} {P : List RecD} (x : RcS h v P) : RSl h v P := by
  obtain ⟨hd, a, c, rfl, _, _, h0⟩ := x
  refine ⟨⟨_, _, rfl⟩, hd, fun j hj => ?_⟩
  obtain ⟨b, off, s, k, rfl, hk, hlen, hcs⟩ := h0 (by omega)
  rw [show recK.length = 39 from rfl] at hlen hcs
  have hm := mul_le (z := 39) hj
  have e : (k.drop (off + j * 39)).take 39 = recC (P.getD j RecD.z) := by
    rw [← recsC_get hd hj, ← hcs]
    rw [List.drop_take, List.take_take, List.drop_drop, Nat.min_eq_left (by omega)]
  refine ⟨b, off + j * 39, ?_, h.lt_of_get hk, fun g hg => ?_⟩
  · unfold idxS i64n
    simp only
    rw [if_pos (by omega), Int.toNat_natCast]
  · have dp : RecD.Wf (P.getD j RecD.z) := hd _ (by
      rw [List.getD_eq_getElem?_getD, List.getElem?_eq_getElem hj]
      exact List.getElem_mem hj)
    have := ldN_at (o := off + j * 39) (n := 39) (hg.trans hk) (by omega) (by rw [e]; exact (rec_cells dp).2.1)
    rw [e] at this
    exact this
theorem RcS.mono {h h' : Heap} {v : Value} {P : List RecD} (x : RcS h v P) (o : Old h h') : RcS h' v P := by
  obtain ⟨hd, a, c, rfl, hn, ht, h0⟩ := x
  refine ⟨hd, a, c, rfl, hn, ht, fun hp => ?_⟩
  obtain ⟨b, off, s, k, rfl, hk, hlen, hcs⟩ := h0 hp
  exact ⟨b, off, s, k, rfl, Old.get o hk, hlen, hcs⟩
/-- append([]Record{}, P...): a copy. -/
theorem app_recs {g : Heap} {v : Value} {P : List RecD} (x : RcS g v P) (hl : P.length ≤ 1000000) :
    ∃ v' g', appendA 39 88 (.slice (some ⟨g.next, 0, none⟩) 0 0) v (g.alloc []) = some (v', g') ∧ Old g g' ∧ RSl g' v' P ∧ gR v' := by
  have o1 : Old g (g.alloc []) := Kept.alloc _ _ _
  obtain ⟨hd, a, c, rfl, hn, ht, h0⟩ := x
  by_cases hz : P.length = 0
  · have hP : P = [] := List.length_eq_zero_iff.1 hz
    subst hP
    refine ⟨.slice (some ⟨g.next, 0, none⟩) 0 0, g.alloc [], ?_, o1, ⟨⟨_, _, rfl⟩, hd, fun j hj => absurd hj (Nat.not_lt_zero j)⟩, ⟨_, _, _, rfl, Nat.le_refl _, fun h => absurd h (Nat.lt_irrefl 0)⟩⟩
    cases a with
    | none => rfl
    | some a => obtain ⟨b, off, s⟩ := a; rfl
  · obtain ⟨b, off, s, k, rfl, hk, hlen, hcs⟩ := h0 (by omega)
    rw [show recK.length = 39 from rfl] at hlen hcs
    have hl' := recsC_len hd
    have hk1 : (g.alloc []).get b = some k := Old.get o1 hk
    have hf : firstA 39 P.length (.slice (some ⟨b, off, s⟩) P.length c) (g.alloc []) = some (recsC P) := by
      unfold firstA
      simp only
      rw [if_neg (by omega), hk1]
      simp only
      rw [hcs, if_pos ⟨hlen, (recsC_ok hd).1⟩]
    have o2 : Old (g.alloc []) ((g.alloc []).alloc (recsC P)) := Kept.alloc _ _ _
    have D2 : RcS ((g.alloc []).alloc (recsC P)) (.slice (some ⟨(g.alloc []).next, 0, some 39⟩) P.length P.length) P := by
      refine ⟨hd, _, _, rfl, fun h => (by cases h), ht, fun _ => ⟨_, _, _, recsC P, rfl, by rw [Heap.get_alloc, if_pos rfl], ?_, ?_⟩⟩
      · rw [show recK.length = 39 from rfl, hl', Nat.zero_add]
        exact Nat.le_refl _
      · rw [show recK.length = 39 from rfl, List.drop_zero, ← hl', List.take_length]
    refine ⟨.slice (some ⟨(g.alloc []).next, 0, some 39⟩) P.length P.length, (g.alloc []).alloc (recsC P), ?_, o1.trans o2, D2.rsl, ⟨_, _, _, rfl, Nat.le_refl _, fun _ b o s e => by cases e; rfl⟩⟩
    have hf0 : firstA 39 0 (.slice (some ⟨g.next, 0, none⟩) 0 0) (g.alloc []) = some [] := rfl
    unfold appendA
    simp only [lenA, hf, hf0]
    rw [if_neg (by
      simp only [(recsC_ok hd).2, hl', Bool.not_true, Bool.false_or, Bool.or_eq_true, Bool.not_eq_true', decide_eq_false_iff_not, decide_eq_true_eq, Nat.zero_add]
      omega), if_neg (by omega)]
    simp only [List.nil_append, Nat.zero_add, List.length_nil, Nat.zero_mul]
    rw [if_neg (by simp)]

theorem is26 : IsFn Tryd.prog 26 Tryd.f26 := ⟨by kernel_rfl, by kernel_rfl, by kernel_rfl, by kernel_rfl⟩
theorem is60 : IsFn Tryd.prog 60 Tryd.f60 := ⟨by kernel_rfl, by kernel_rfl, by kernel_rfl, by kernel_rfl⟩
theorem is81 : IsFn Tryd.prog 81 Tryd.f81 := ⟨by kernel_rfl, by kernel_rfl, by kernel_rfl, by kernel_rfl⟩
theorem is38 : IsFn Tryd.prog 38 Tryd.f38 := ⟨by kernel_rfl, by kernel_rfl, by kernel_rfl, by kernel_rfl⟩
theorem is113 : IsFn Tryd.prog 113 Tryd.f113 := ⟨by kernel_rfl, by kernel_rfl, by kernel_rfl, by kernel_rfl⟩
theorem is124 : IsFn Tryd.prog 124 Tryd.f124 := ⟨by kernel_rfl, by kernel_rfl, by kernel_rfl, by kernel_rfl⟩
theorem results113 : Tryd.f113.results.toList = [.tmp 4] := by kernel_rfl
theorem results38 : Tryd.f38.results.toList = [.cell 2 35, .tmp 3] := by kernel_rfl
theorem RcS.old {h h' : Heap} {v : Value} {P : List RecD} (x : RcS h v P) (o : Old h h') : RcS h' v P := x.mono o
/-- own -/
theorem r26 {h : Heap} (hG : 4 ≤ h.n0) {v : Value} {L : List RecD} (x : RcS h v L) (hl : L.length ≤ 1000000) : ∃ v' h', CW 26 [v] h = some (v', h') ∧ Old h h' ∧ RSl h' v' L ∧ gR v' := by
  obtain ⟨v', h', e, o, r, g⟩ := app_recs x hl
  have b0 : bslR 39 (.agg #[(.int .u8 0), (.int .u8 0), (.int .u8 0), (.int .u8 0), (.int .u8 0), (.int .u8 0), (.int .u8 0), (.int .u8 0), (.int .u8 0), (.int .u8 0), (.int .u8 0), (.int .u8 0), (.int .u8 0), (.int .u8 0), (.int .u8 0), (.int .u8 0), (.int .u8 0), (.int .u8 0), (.int .u8 0), (.int .u8 0), (.int .u8 0), (.int .u8 0), (.int .u8 0), (.int .u8 0), (.int .u8 0), (.int .u8 0), (.int .u8 0), (.int .u8 0), (.int .u8 0), (.int .u8 0), (.int .u8 0), (.int .u8 0), (.int .u8 0), (.int .i64 0), (.int .u64 0), (.int .u64 0), (.bool false), (.int .i64 0), (.int .i64 0)]) 0 [] h = some (.slice (some ⟨h.next, 0, none⟩) 0 0, h.alloc []) := rfl
  refine ⟨v', h', CW_body is26 hG rfl ((t26_eq _ _ _).trans ?_), o, r, g⟩
  unfold t26
  simp -implicitDefEqProofs only [b0, e, thenV_some, pu_some]
set_option maxRecDepth 100000 in
/-- IndexFunc -/
theorem r113 {h : Heap} (hG : 4 ≤ h.n0) {v fv : Value} {L : List RecD} (hv : RSl h v L) (hl : L.length ≤ 1000000) (p : RecD → Bool) (hp : ∀ r ∈ L, r.Wf → ∀ g, Old h g → ∃ g', callA Tryd.prog CW fv [.agg (recC r).toArray] g = some (.bool (p r), g') ∧ Old g g') :
    ∃ (k : Int) (h' : Heap), CW 113 [v, fv] h = some (.int .i64 k, h') ∧ Old h h' ∧ decide (k ≥ 0) = L.any p := by
  have hll := hv.len
  have key : ∃ o : Out, t113 CW v fv h = o ∧ ∃ (k : Int) (h' : Heap), o = some (.int .i64 k, h') ∧ Old h h' ∧ decide (k ≥ 0) = L.any p := by
    refine ⟨_, rfl, ?_⟩
    unfold t113
    simp -implicitDefEqProofs only [hll, thenV_some, pu_some]
    refine endL_fin (n := 19) (fin := fun ex y g => Old h g ∧ ((ex = .exit 0 ∧ L.any p = false) ∨ (ex = .ret ∧ L.any p = true ∧ ∃ i : Nat, y 4 = i64n i))) (Q := fun o : Out => ∃ (k : Int) (h' : Heap), o = some (.int .i64 k, h') ∧ Old h h' ∧ decide (k ≥ 0) = L.any p)
      (loop_fin (t113l113_1010_eq CW) (Inv := fun k y g => ∃ i, i + k = L.length ∧ y 0 = v ∧ y 1 = fv ∧ y 7 = i64n L.length ∧ y 8 = i64n i ∧ Old h g ∧ L.any p = (L.drop i).any p) ?_ L.length (by have : rounds = 18446744073709551616 := rfl; omega) ⟨0, by omega, rfl, rfl, rfl, rfl, Kept.refl _ _, by rw [List.drop_zero]⟩) ?_
    · rintro k y g ⟨i, hik, y0, y1, y7, y8, O, ha⟩
      unfold t113l113_1010
      simp -implicitDefEqProofs only [y7, y8, lss3, thenV_some, pu_some]
      by_cases hi : i < L.length
      · obtain ⟨b, o, ix, wr, mr, lp⟩ := hv.at hi
        have hd : L.drop i = L.getD i RecD.z :: L.drop (i + 1) := by
          rw [List.drop_eq_getElem_cons hi, List.getD_eq_getElem?_getD, List.getElem?_eq_getElem hi]
          rfl
        rw [hd, List.any_cons] at ha
        generalize L.getD i RecD.z = r at *
        have L1 := lp g O
        obtain ⟨g', e', o'⟩ := hp r mr wr g O
        cases hpr : p r with
        | true =>
          rw [hpr] at e'
          rw [hpr, Bool.true_or] at ha
          simp -implicitDefEqProofs only [decide_eq_true hi, y0, y1, ix, L1, e', thenV_some, pu_some]
          exact Rnd.ret ⟨O.trans o', .inr ⟨rfl, ha, i, rfl⟩⟩
        | false =>
          rw [hpr] at e'
          rw [hpr, Bool.false_or] at ha
          have a8 : bin Tryd.prog .add 3 (i64n i) (.int .i64 1) = some (i64n (i + 1)) := add31 (by omega)
          simp -implicitDefEqProofs only [decide_eq_true hi, y0, y1, y8, ix, L1, e', a8, thenV_some, pu_some]
          exact Rnd.next (k - 1) (by omega) ⟨i + 1, by omega, y0, y1, y7, rfl, O.trans o', ha⟩
      · have hiE : i = L.length := by omega
        rw [hiE, List.drop_length] at ha
        simp -implicitDefEqProofs only [decide_eq_false hi, thenV_some, pu_some]
        exact Rnd.out 0 ⟨O, .inl ⟨rfl, ha⟩⟩
    · rintro ex z g ⟨O, ⟨rfl, ha⟩ | ⟨rfl, ha, i, z4⟩⟩
      · simp -implicitDefEqProofs only [endL_exit, b113_3, if_true, t113k113_1_eq]
        unfold t113k113_1
        exact ⟨-1, g, rfl, O, by rw [ha]; rfl⟩
      · rw [endL_ret, res_one results113 (by decide), z4]
        refine ⟨i, g, rfl, O, ?_⟩
        rw [ha, decide_eq_true (by omega)]
  obtain ⟨o9, e, k, h', e', q⟩ := key
  exact ⟨k, h', CW_body is113 hG rfl ((t113_eq _ _ _ _).trans (e.trans e')), q⟩
/-- ContainsFunc -/
theorem r60 {h : Heap} (hG : 4 ≤ h.n0) {v fv : Value} {L : List RecD} (hv : RSl h v L) (hl : L.length ≤ 1000000) (p : RecD → Bool) (hp : ∀ r ∈ L, r.Wf → ∀ g, Old h g → ∃ g', callA Tryd.prog CW fv [.agg (recC r).toArray] g = some (.bool (p r), g') ∧ Old g g') :
    ∃ h', CW 60 [v, fv] h = some (.bool (L.any p), h') ∧ Old h h' := by
  obtain ⟨k, h', e, o, q⟩ := r113 hG hv hl p hp
  have ge : bin Tryd.prog .geq 3 (.int .i64 k) (.int .i64 0) = some (.bool (L.any p)) := by rw [bin_geq, q]
  refine ⟨h', CW_body is60 hG rfl ((t60_eq _ _ _ _).trans ?_), o⟩
  unfold t60
  simp -implicitDefEqProofs only [e, ge, thenV_some, pu_some]
theorem fs_124 : Nat.ble 125 Tryd.prog.funcs.size = true := by kernel_rfl
theorem call124 (args : List Value) (h : Heap) : callA Tryd.prog CW (.func (.func 124) #[] #[]) args h = CW 124 args h := by
  have hf := Nat.le_of_ble_eq_true fs_124
  unfold callA
  simp only
  generalize Tryd.prog.funcs.size = n at *
  rw [if_pos (show (124 : Nat) < n by omega), List.nil_append, List.append_nil]
/-- The closure of invalid. -/
theorem r124 {h : Heap} (hG : 4 ≤ h.n0) {r : RecD} (w : r.Wf) : ∃ h', CW 124 [.agg (recC r).toArray] h = some (.bool (!(recB r)), h') ∧ Old h h' := by
  obtain ⟨h1, b1, o1, g1, n1⟩ := rec_box2 h w
  have L1 := ldN_all g1 (rec_cells w).1 (rec_cells w).2.1
  obtain ⟨h2, e2, o2⟩ := r42 (h := h1) (by rw [o1.n0]; exact hG) w
  refine ⟨h2, CW_body is124 hG rfl ((t124_eq _ _ _).trans ?_), o1.trans o2⟩
  unfold t124
  simp -implicitDefEqProofs only [b1, L1, e2, unA_not, thenV_some, pu_some]
/-- Whether a record of the list is not valid. -/
def invB (L : List RecD) : Bool := L.any fun r => !(recB r)
theorem invB_false {L : List RecD} (h : invB L = false) : ∀ r ∈ L, recB r = true := by
  intro r hr
  unfold invB at h
  rw [List.any_eq_false] at h
  have := h r hr
  simpa using this
/-- invalid -/
theorem r81 {h : Heap} (hG : 4 ≤ h.n0) {v : Value} {L : List RecD} (hv : RSl h v L) (hl : L.length ≤ 1000000) : ∃ h', CW 81 [v] h = some (.bool (invB L), h') ∧ Old h h' := by
  obtain ⟨h', e, o⟩ := r60 hG (fv := .func (.func 124) #[] #[]) hv hl (fun r => !(recB r)) (fun r _ w g og => by
    rw [call124]
    exact r124 (by rw [og.n0]; exact hG) w)
  refine ⟨h', CW_body is81 hG rfl ((t81_eq _ _ _).trans ?_), o⟩
  unfold t81
  have e : CW 60 [v, .func (.func 124) #[] #[]] h = some (.bool (invB L), h') := e
  simp -implicitDefEqProofs only [e, thenV_some, pu_some]
/-- What Root returns. -/
def rootV (L : List RecD) : List Nat := if invB L then z32 else treeV L
def rootE (L : List RecD) : Int := if invB L then 2 else 0
theorem rootV_ok (L : List RecD) : D32 (rootV L) := by
  unfold rootV
  split
  · exact z32_ok
  · exact treeV_ok L
theorem bld32 : bldR (List.replicate 32 (.int .u8 0)) [] = some (.agg (u8s z32).toArray) := rfl
set_option maxRecDepth 100000 in
/-- Root -/
theorem r38 {h : Heap} (hG : 4 ≤ h.n0) (hz : h.get 3 = some roundsL) {v : Value} {L : List RecD} (hv : RSl h v L) (hl : L.length ≤ 1000000) :
    ∃ h', CW 38 [v] h = some (.tuple #[.agg (u8s (rootV L)).toArray, .int .i64 (rootE L)], h') ∧ Old h h' := by
  obtain ⟨h1, z1, o1, g1, n1⟩ := fresh (List.replicate 32 (.int .u8 0)) h
  obtain ⟨h2, e2, o2⟩ := r81 (h := h1) (by rw [o1.n0]; exact hG) (hv.mono o1) hl
  have O2 := o1.trans o2
  cases hb : invB L with
  | true =>
    rw [hb] at e2
    have ev : rootV L = z32 := by unfold rootV; rw [hb]; rfl
    have ee : rootE L = 2 := by unfold rootE; rw [hb]; rfl
    rw [ev, ee]
    have dz := dig_cells z32_ok
    obtain ⟨h3, e3, k3, g3, _, n3⟩ := stored_all (n := 32) (k' := u8s z32) (Old.get o2 g1) (by rw [O2.n0]; exact h.n0_le_next) rfl dz.1 dz.2.2
    have L3 := ldN_all g3 dz.1 dz.2.1
    refine ⟨h3, CW_body is38 hG rfl ((t38_eq _ _ _).trans ?_), Old.of_new O2 k3 (Nat.le_refl _)⟩
    unfold t38
    simp -implicitDefEqProofs only [z1, e2, bld32, e3, thenV_some, pu_some]
    exact res_cell_tmp results38 agg35 size32 (by decide) (by decide) _ L3
  | false =>
    rw [hb] at e2
    have ev : rootV L = treeV L := by unfold rootV; rw [hb]; rfl
    have ee : rootE L = 0 := by unfold rootE; rw [hb]; rfl
    rw [ev, ee]
    obtain ⟨h3, e3, o3⟩ := r54 (h := h2) (by rw [O2.n0]; exact hG) (Old.get O2 hz) (hv.mono O2) (invB_false hb) hl
    have O3 := O2.trans o3
    have dz := dig_cells (treeV_ok L)
    obtain ⟨h4, e4, k4, g4, _, n4⟩ := stored_all (n := 32) (k' := u8s (treeV L)) (Old.get (o2.trans o3) g1) (by rw [O3.n0]; exact h.n0_le_next) rfl dz.1 dz.2.2
    have L4 := ldN_all g4 dz.1 dz.2.1
    refine ⟨h4, CW_body is38 hG rfl ((t38_eq _ _ _).trans ?_), Old.of_new O3 k4 (Nat.le_refl _)⟩
    unfold t38
    simp -implicitDefEqProofs only [z1, e2, e3, e4, thenV_some, pu_some]
    exact res_cell_tmp results38 agg35 size32 (by decide) (by decide) _ L4
end Go.Proofs.YtdnahgfgoajmcaaDoor

namespace Go.Proofs.YtdnahgfgoajmcaaDoor
open Go Go.Abs
attribute [local congr] thenV_congr
theorem getD_set {T : List (List Nat)} {j i : Nat} {p : List Nat} (hj : j < T.length) : (T.set j p).getD i [] = if i = j then p else T.getD i [] := by
  rw [List.getD_eq_getElem?_getD, List.getElem?_set]
  by_cases c : j = i
  · subst c
    rw [if_pos rfl, if_pos hj, if_pos rfl]
    rfl
  · rw [if_neg c, if_neg (fun e => c e.symm), List.getD_eq_getElem?_getD]
theorem digsC_set {T : List (List Nat)} {p : List Nat} (hd : ∀ t ∈ T, D32 t) (dp : D32 p) {j : Nat} (hj : j < T.length) (X : List Value) : splice (digsC T ++ X) (j * 32) (u8s p) = digsC (T.set j p) ++ X := by
  have e1 : T = T.take j ++ T.getD j [] :: T.drop (j + 1) := by
    rw [List.getD_eq_getElem?_getD, List.getElem?_eq_getElem hj, Option.getD_some, ← List.drop_eq_getElem_cons hj, List.take_append_drop]
  have e2 : T.set j p = T.take j ++ p :: T.drop (j + 1) := by rw [List.set_eq_take_append_cons_drop, if_pos hj]
  have dt : D32 (T.getD j []) := hd _ (by
    rw [List.getD_eq_getElem?_getD, List.getElem?_eq_getElem hj]
    exact List.getElem_mem hj)
  have l1 : (digsC (T.take j)).length = j * 32 := by
    rw [digsC_len (fun t ht => hd t (List.mem_of_mem_take ht)), List.length_take, Nat.min_eq_left (by omega)]
  rw [e2]
  conv => lhs; rw [e1]
  rw [digsC_app, digsC_app, show digsC (T.getD j [] :: T.drop (j + 1)) = u8s (T.getD j []) ++ digsC (T.drop (j + 1)) from List.flatMap_cons, show digsC (p :: T.drop (j + 1)) = u8s p ++ digsC (T.drop (j + 1)) from List.flatMap_cons, List.append_assoc, List.append_assoc, List.append_assoc, List.append_assoc]
  exact splice_app l1 (dig_cells dt).1 (dig_cells dp).1
theorem Stk.set {h : Heap} {N : Nat} {v : Value} {T : List (List Nat)} {p : List Nat} {j : Nat} (x : Stk h N v T) (h0 : h.n0 ≤ N) (dp : D32 p) (hj : j < T.length) :
    ∃ b o h', idxS 32 v (i64n j) = some (ptr b o) ∧ stN 32 (ptr b o) (.agg (u8s p).toArray) h = some (undef, h') ∧ Stk h' N v (T.set j p) ∧ Kept h h' (fun b => stB v = some b) := by
  rcases x.form with ⟨e, _⟩ | ⟨b, m, X, rfl, h1, h2, h3, h4, h5, h6⟩
  · rw [e] at hj; exact absurd hj (Nat.not_lt_zero j)
  · have cp := dig_cells dp
    have hl := digsC_len x.dig
    have hm := mul_le (z := 32) hj
    have dT : ∀ t ∈ T.set j p, D32 t := fun t ht => by
      rcases List.mem_or_eq_of_mem_set ht with h | h
      · exact x.dig t h
      · rw [h]; exact dp
    refine ⟨b, 0 + j * 32, h.set b (digsC (T.set j p) ++ X), ?_, ?_, ⟨dT, .inr ⟨b, m, X, by rw [List.length_set], h1, by rw [List.length_set]; exact h2, Heap.get_set_same (by omega) h3 _, by rw [List.length_set]; exact h4, h5, h6⟩⟩, Kept.set (by omega) h3 (.inr rfl)⟩
    · unfold idxS i64n
      simp only
      rw [if_pos (by omega), Int.toNat_natCast]
    · have e1 : (Value.agg (u8s p).toArray).cells = (u8s p).toArray := rfl
      unfold stN ptr
      simp only [e1, List.size_toArray, cp.1, if_true]
      unfold stL
      rw [h3]
      simp only
      rw [if_pos (by
        rw [cp.2.2, decide_eq_true (show h.n0 ≤ b by omega), decide_eq_true (by rw [List.length_append, cp.1, hl]; omega)]
        rfl), Nat.zero_add, digsC_set x.dig dp hj X]
      rfl
theorem is84 : IsFn Tryd.prog 84 Tryd.f84 := ⟨by kernel_rfl, by kernel_rfl, by kernel_rfl, by kernel_rfl⟩
theorem results84 : Tryd.f84.results.toList = [] := by kernel_rfl
theorem list_ext_getD {A B : List (List Nat)} (hl : A.length = B.length) (h : ∀ j, j < A.length → A.getD j [] = B.getD j []) : A = B := by
  refine List.ext_getElem hl fun j h1 h2 => ?_
  have := h j h1
  rw [List.getD_eq_getElem?_getD, List.getD_eq_getElem?_getD, List.getElem?_eq_getElem h1, List.getElem?_eq_getElem h2] at this
  exact this
theorem getD_rev {T : List (List Nat)} {j : Nat} (hj : j < T.length) : T.reverse.getD j [] = T.getD (T.length - 1 - j) [] := by
  rw [List.getD_eq_getElem?_getD, List.getElem?_reverse hj, List.getD_eq_getElem?_getD]
set_option maxRecDepth 100000 in
/-- Reverse -/
theorem r84 {h : Heap} (hG : 4 ≤ h.n0) {N : Nat} (hN : h.n0 ≤ N) {v : Value} {T : List (List Nat)} (x : Stk h N v T) (hl : T.length ≤ 1000000) :
    ∃ h', CW 84 [v] h = some (.tuple #[], h') ∧ Stk h' N v T.reverse ∧ Kept h h' (fun b => stB v = some b) := by
  have hll := x.len
  have key : ∃ o : Out, t84 CW v h = o ∧ ∃ h', o = some (.tuple #[], h') ∧ Stk h' N v T.reverse ∧ Kept h h' (fun b => stB v = some b) := by
    refine ⟨_, rfl, ?_⟩
    unfold t84
    have sb : bin Tryd.prog .sub 3 (i64n T.length) (.int .i64 1) = some (.int .i64 ((T.length : Int) - 1)) := by
      unfold i64n
      rw [bin_sub, wrap_i64 (by omega) (by omega)]
    simp -implicitDefEqProofs only [hll, sb, thenV_some, pu_some]
    refine endL_fin (n := 28) (fin := fun ex y g => ex = .exit 0 ∧ Stk g N v T.reverse ∧ Kept h g (fun b => stB v = some b)) (Q := fun o : Out => ∃ h', o = some (.tuple #[], h') ∧ Stk h' N v T.reverse ∧ Kept h h' (fun b => stB v = some b))
      (loop_fin (t84l84_10_eq CW) (Inv := fun k y g => ∃ i T', i + k = T.length ∧ 2 * i ≤ T.length + 1 ∧ y 0 = v ∧ y 2 = i64n i ∧ y 3 = .int .i64 ((T.length : Int) - 1 - i) ∧ Stk g N v T' ∧ Kept h g (fun b => stB v = some b) ∧ T'.length = T.length ∧ ∀ j, j < T.length → T'.getD j [] = if j < i ∨ T.length - i ≤ j then T.getD (T.length - 1 - j) [] else T.getD j []) ?_ T.length (by have : rounds = 18446744073709551616 := rfl; omega) ⟨0, T, by omega, by omega, rfl, rfl, by show Value.int .i64 _ = _; congr 1; omega, x, Kept.refl _ _, rfl, fun j hj => by rw [if_neg (by omega)]⟩) ?_
    · rintro k y g ⟨i, T', hik, hi2, y0, y2, y3, sk, K, hT', hget⟩
      have ls : bin Tryd.prog .lss 3 (i64n i) (.int .i64 ((T.length : Int) - 1 - i)) = some (.bool (decide (i + i + 1 < T.length))) := by
        unfold i64n
        rw [bin_lss]
        congr 2
        rw [decide_eq_decide]
        omega
      unfold t84l84_10
      simp -implicitDefEqProofs only [y0, y2, y3, ls, thenV_some, pu_some]
      by_cases c : i + i + 1 < T.length
      · obtain ⟨jN, hjN⟩ : ∃ j : Nat, j = T.length - 1 - i := ⟨_, rfl⟩
        have ej : ((T.length : Int) - 1 - i) = (jN : Int) := by omega
        rw [ej]
        obtain ⟨P, _⟩ := sk.pr
        obtain ⟨b1, o1, ix1, _, lp1⟩ := P.2.2 jN (by omega)
        obtain ⟨b2, o2, ix2, _, lp2⟩ := P.2.2 i (by omega)
        have L1 := lp1 g rfl
        have L2 := lp2 g rfl
        have d1 : D32 (T'.getD jN []) := sk.dig _ (by
          rw [List.getD_eq_getElem?_getD, List.getElem?_eq_getElem (by omega)]
          exact List.getElem_mem _)
        have d2 : D32 (T'.getD i []) := sk.dig _ (by
          rw [List.getD_eq_getElem?_getD, List.getElem?_eq_getElem (by omega)]
          exact List.getElem_mem _)
        have n0 : g.n0 ≤ N := by rw [K.n0]; exact hN
        have w1 := hget jN (by omega)
        have w2 := hget i (by omega)
        rw [if_neg (by omega)] at w1 w2
        rw [w1] at L1 d1
        rw [w2] at L2 d2
        obtain ⟨b3, o3, g3, ix3, e3, sk3, k3⟩ := sk.set (j := i) (p := T.getD jN []) n0 d1 (by omega)
        obtain ⟨b4, o4, g4, ix4, e4, sk4, k4⟩ := sk3.set (j := jN) (p := T.getD i []) (by rw [k3.n0]; exact n0) d2 (by rw [List.length_set]; omega)
        have ix1' : idxS 32 v (.int .i64 (jN : Int)) = some (ptr b1 o1) := ix1
        have ix4' : idxS 32 v (.int .i64 (jN : Int)) = some (ptr b4 o4) := ix4
        have a2 : bin Tryd.prog .add 3 (i64n i) (.int .i64 1) = some (i64n (i + 1)) := add31 (by omega)
        have s3 : bin Tryd.prog .sub 3 (.int .i64 (jN : Int)) (.int .i64 1) = some (.int .i64 ((T.length : Int) - 1 - (i + 1 : Nat))) := by
          rw [bin_sub, wrap_i64 (by omega) (by omega)]
          congr 2
          omega
        have q1 : ptr b1 o1 = ptr b4 o4 := Option.some.inj (ix1'.symm.trans ix4')
        have q2 : ptr b2 o2 = ptr b3 o3 := Option.some.inj (ix2.symm.trans ix3)
        rw [← q1] at e4
        rw [← q2] at e3
        simp -implicitDefEqProofs only [decide_eq_true c, ix1', ix2, L1, L2, e3, e4, a2, s3, thenV_some, pu_some]
        refine Rnd.next (k - 1) (by omega) ⟨i + 1, (T'.set i (T.getD jN [])).set jN (T.getD i []), by omega, by omega, y0, rfl, rfl, sk4, (K.trans k3).trans k4, by rw [List.length_set, List.length_set]; exact hT', fun j hj => ?_⟩
        rw [getD_set (by rw [List.length_set]; omega), getD_set (by omega)]
        by_cases c1 : j = jN
        · subst c1
          rw [if_pos rfl, if_pos (by omega), show T.length - 1 - j = i by omega]
        · rw [if_neg c1]
          by_cases c2 : j = i
          · subst c2
            rw [if_pos rfl, if_pos (by omega), hjN]
          · rw [if_neg c2, hget j hj]
            by_cases c3 : j < i ∨ T.length - i ≤ j
            · rw [if_pos c3, if_pos (by omega)]
            · rw [if_neg c3, if_neg (by omega)]
      · simp -implicitDefEqProofs only [decide_eq_false c, thenV_some, pu_some]
        have e : T' = T.reverse := by
          refine list_ext_getD (by rw [hT', List.length_reverse]) fun j hj => ?_
          rw [hT'] at hj
          rw [hget j hj, getD_rev hj]
          by_cases c3 : j < i ∨ T.length - i ≤ j
          · rw [if_pos c3]
          · rw [if_neg c3, show T.length - 1 - j = j by omega]
        rw [e] at sk
        exact Rnd.out 0 ⟨rfl, sk, K⟩
    · rintro ex z g ⟨rfl, s, K⟩
      simp -implicitDefEqProofs only [endL_exit, b84_1, if_true]
      rw [results84]
      exact ⟨g, rfl, s, K⟩
  obtain ⟨o9, e, h', e', q⟩ := key
  exact ⟨h', CW_body is84 hG rfl ((t84_eq _ _ _).trans (e.trans e')), q⟩
end Go.Proofs.YtdnahgfgoajmcaaDoor

namespace Go.Proofs.YtdnahgfgoajmcaaDoor
open Go Go.Abs
attribute [local congr] thenV_congr
/-- The hashes beside the way to a record, from the root down. -/
def pathG : Nat → List RecD → Nat → List (List Nat)
  | 0, _, _ => []
  | f + 1, M, i => if M.length ≤ 1 then [] else if i < halfN M.length then treeV (M.drop (halfN M.length)) :: pathG f (M.take (halfN M.length)) i else treeV (M.take (halfN M.length)) :: pathG f (M.drop (halfN M.length)) (i - halfN M.length)
theorem pathG_s (f : Nat) (M : List RecD) (i : Nat) : pathG (f + 1) M i = if M.length ≤ 1 then [] else if i < halfN M.length then treeV (M.drop (halfN M.length)) :: pathG f (M.take (halfN M.length)) i else treeV (M.take (halfN M.length)) :: pathG f (M.drop (halfN M.length)) (i - halfN M.length) := rfl
theorem pathG_one (f : Nat) {M : List RecD} (i : Nat) (h : M.length ≤ 1) : pathG f M i = [] := by
  cases f with
  | zero => rfl
  | succ f => rw [pathG_s, if_pos h]
theorem pathG_len : ∀ (f : Nat) (M : List RecD) (i : Nat), (pathG f M i).length ≤ f
  | 0, _, _ => Nat.le_refl _
  | f + 1, M, i => by
    rw [pathG_s]
    split
    · exact Nat.zero_le _
    · split
      · rw [List.length_cons]
        exact Nat.succ_le_succ (pathG_len f _ _)
      · rw [List.length_cons]
        exact Nat.succ_le_succ (pathG_len f _ _)
theorem is40 : IsFn Tryd.prog 40 Tryd.f40 := ⟨by kernel_rfl, by kernel_rfl, by kernel_rfl, by kernel_rfl⟩
set_option maxRecDepth 100000 in
/-- The loop of Prove. -/
theorem prv1 {h : Heap} (hG : 4 ≤ h.n0) (hz : h.get 3 = some roundsL) {N : Nat} (hN : N = h.next) {L : List RecD} {i : Nat} {v : Value} (hv : RSl h v L) (hg : gR v) (hval : ∀ r ∈ L, recB r = true) (hi : i < L.length) (hl : L.length ≤ 128)
    {x : Nat → Value} (x1 : x 1 = i64n i) (x6 : x 6 = .slice none 0 0) (x7 : x 7 = v) :
    Fin 57 (fun ex y g => ex = .exit 0 ∧ Old h g ∧ Stk g N (y 6) (pathG L.length L i)) (iter (codeA Tryd.prog CW (partOf Tryd.f40 [1, 1, 1, 0, 1, 0, 0])) rounds (mkF 57 x) h) := by
  refine loop_fin (t40l40_111010_eq CW) (Inv := fun k y g => ∃ i' M w Q, y 1 = i64n i' ∧ y 6 = Q.1 ∧ y 7 = w ∧ i' < M.length ∧ M.length ≤ k ∧ k ≤ L.length ∧ Q.2.length + k = L.length ∧ Old h g ∧ RSl h w M ∧ gR w ∧ (∀ r ∈ M, recB r = true) ∧ Stk g N Q.1 Q.2 ∧ Q.2 ++ pathG k M i' = pathG L.length L i) ?_ L.length (by have : rounds = 18446744073709551616 := rfl; omega) ⟨i, L, v, (.slice none 0 0, []), x1, x6, x7, hi, Nat.le_refl _, Nat.le_refl _, by rw [List.length_nil]; omega, Kept.refl _ _, hv, hg, hval, Stk.nil h N, rfl⟩
  rintro k y g ⟨i', M, w, ⟨vs, Q⟩, y1, y6, y7, hi', hM, hk, hQ, O, rs, gr, hva, sk, hp⟩
  have hll := rs.len
  have gt : bin Tryd.prog .gtr 3 (i64n M.length) (.int .i64 1) = some (.bool (decide (1 < M.length))) := by
    unfold i64n
    rw [bin_gtr]
    congr 2
    rw [decide_eq_decide]
    omega
  unfold t40l40_111010
  simp -implicitDefEqProofs only [y7, hll, gt, thenV_some, pu_some]
  by_cases c : 1 < M.length
  · have e83 := r83 (h := g) (n := M.length) (by rw [O.n0]; exact hG) (by omega) (by omega)
    have hh1 := half_pos M.length
    have hh2 := half_lt (n := M.length) (by omega)
    have q2 : bin Tryd.prog .lss 3 (i64n i') (i64n (halfN M.length)) = some (.bool (decide (i' < halfN M.length))) := lss3 ..
    obtain ⟨wt, et, rt, gt'⟩ := rs.take gr hh2
    obtain ⟨wd, ed, rd, gd⟩ := rs.drop gr hh2
    have lt : (M.take (halfN M.length)).length = halfN M.length := by rw [List.length_take]; omega
    have ld : (M.drop (halfN M.length)).length = M.length - halfN M.length := List.length_drop
    have ht : ∀ r ∈ M.take (halfN M.length), recB r = true := fun r hr => hva r (List.mem_of_mem_take hr)
    have hd : ∀ r ∈ M.drop (halfN M.length), recB r = true := fun r hr => hva r (List.mem_of_mem_drop hr)
    cases k with
    | zero => omega
    | succ k =>
      rw [pathG_s, if_neg (by omega)] at hp
      have sk := sk
      have hQl : Q.length ≤ 1000000 := by have : Q.length + (k + 1) = L.length := hQ; omega
      by_cases c2 : i' < halfN M.length
      · rw [decide_eq_true c2] at q2
        rw [if_pos c2] at hp
        obtain ⟨g2, e2, o2⟩ := r54 (h := g) (by rw [O.n0]; exact hG) (Old.get O hz) (rd.mono O) hd (by omega)
        have dt := treeV_ok (M.drop (halfN M.length))
        have O2 := O.trans o2
        have b3 := bsl_dig g2 dt
        have o3 : Old g2 (g2.alloc (u8s (treeV (M.drop (halfN M.length))))) := Kept.alloc _ _ _
        have q3 : (g2.alloc (u8s (treeV (M.drop (halfN M.length))))).get g2.next = some (u8s (treeV (M.drop (halfN M.length)))) := by rw [Heap.get_alloc, if_pos rfl]
        obtain ⟨v4, g4, e4, sk4, k4, _⟩ := ((sk.old o2).old o3).push (c := g2.next) (by rw [o3.n0, O2.n0]; have := h.n0_le_next; omega) (by have := O2.next; have := o3.next; omega) dt hQl q3
        have O4 : Old h g4 := (O2.trans o3).also k4 (fun b' hb' hs => by
          have := (((sk.old o2).old o3).lt hs).1
          omega)
        simp -implicitDefEqProofs only [decide_eq_true c, y1, y6, e83, q2, ed, e2, b3, e4, et, thenV_some, pu_some]
        refine Rnd.next k (by omega) ⟨i', M.take (halfN M.length), wt, (v4, Q ++ [treeV (M.drop (halfN M.length))]), y1, rfl, rfl, by omega, by omega, by omega, ?_, O4, rt, gt', ht, sk4, ?_⟩
        · show (Q ++ [_]).length + k = L.length
          rw [List.length_append, List.length_singleton]
          have : Q.length + (k + 1) = L.length := hQ
          omega
        · rw [← hp, List.append_assoc]
          rfl
      · rw [decide_eq_false c2] at q2
        rw [if_neg c2] at hp
        obtain ⟨g2, e2, o2⟩ := r54 (h := g) (by rw [O.n0]; exact hG) (Old.get O hz) (rt.mono O) ht (by omega)
        have dt := treeV_ok (M.take (halfN M.length))
        have O2 := O.trans o2
        have b3 := bsl_dig g2 dt
        have o3 : Old g2 (g2.alloc (u8s (treeV (M.take (halfN M.length))))) := Kept.alloc _ _ _
        have q3 : (g2.alloc (u8s (treeV (M.take (halfN M.length))))).get g2.next = some (u8s (treeV (M.take (halfN M.length)))) := by rw [Heap.get_alloc, if_pos rfl]
        obtain ⟨v4, g4, e4, sk4, k4, _⟩ := ((sk.old o2).old o3).push (c := g2.next) (by rw [o3.n0, O2.n0]; have := h.n0_le_next; omega) (by have := O2.next; have := o3.next; omega) dt hQl q3
        have O4 : Old h g4 := (O2.trans o3).also k4 (fun b' hb' hs => by
          have := (((sk.old o2).old o3).lt hs).1
          omega)
        have s5 := sub_nn (a := i') (b := halfN M.length) (by omega) (by omega)
        simp -implicitDefEqProofs only [decide_eq_true c, y1, y6, e83, q2, et, e2, b3, e4, ed, s5, thenV_some, pu_some]
        refine Rnd.next k (by omega) ⟨i' - halfN M.length, M.drop (halfN M.length), wd, (v4, Q ++ [treeV (M.take (halfN M.length))]), rfl, rfl, rfl, by omega, by omega, by omega, ?_, O4, rd, gd, hd, sk4, ?_⟩
        · show (Q ++ [_]).length + k = L.length
          rw [List.length_append, List.length_singleton]
          have : Q.length + (k + 1) = L.length := hQ
          omega
        · rw [← hp, List.append_assoc]
          rfl
  · simp -implicitDefEqProofs only [decide_eq_false c, thenV_some, pu_some]
    rw [pathG_one k i' (by omega), List.append_nil] at hp
    refine Rnd.out 0 ⟨rfl, O, ?_⟩
    show Stk g N (y 6) _
    rw [y6, ← hp]
    exact sk
/-- Whether Prove refuses. -/
def prvB (L : List RecD) (i : Int) : Bool := invB L || decide (i < 0) || decide (i ≥ L.length)
set_option maxRecDepth 100000 in
/-- Prove -/
theorem r40 {h : Heap} (hG : 4 ≤ h.n0) (hz : h.get 3 = some roundsL) {L : List RecD} {i : Int} {v : Value} (hv : RSl h v L) (hg : gR v) (hl : L.length ≤ 128) :
    ∃ w h', CW 40 [v, .int .i64 i] h = some (.tuple #[w, .int .i64 (if prvB L i then 2 else 0)], h') ∧ Old h h' ∧ Stk h' h.next w (if prvB L i then [] else (pathG L.length L i.toNat).reverse) := by
  obtain ⟨h1, e1, o1⟩ := r81 (h := h) hG hv (by omega)
  have hll := hv.len
  have lt0 : bin Tryd.prog .lss 3 (.int .i64 i) (.int .i64 0) = some (.bool (decide (i < 0))) := bin_lss ..
  have ge : bin Tryd.prog .geq 3 (.int .i64 i) (i64n L.length) = some (.bool (decide (i ≥ L.length))) := bin_geq ..
  cases hb : prvB L i with
  | true =>
    refine ⟨.slice none 0 0, h1, CW_body is40 hG rfl ((t40_eq _ _ _ _).trans ?_), o1, Stk.nil _ _⟩
    unfold t40
    unfold prvB at hb
    cases c1 : invB L with
    | true =>
      rw [c1] at e1
      simp -implicitDefEqProofs only [e1, thenV_some, pu_some, bOf_bool, fs, sf, beq_self_eq_true, guardK_true, guardK_false, Bool.false_eq_true, if_false, if_true, show (some true == some false) = false from rfl]
    | false =>
      rw [c1] at e1
      cases c2 : decide (i < 0) with
      | true =>
        rw [c2] at lt0
        simp -implicitDefEqProofs only [e1, lt0, thenV_some, pu_some, bOf_bool, fs, sf, beq_self_eq_true, guardK_true, guardK_false, Bool.false_eq_true, if_false, if_true, show (some true == some false) = false from rfl]
      | false =>
        rw [c2] at lt0
        rw [c1, c2, Bool.false_or, Bool.false_or] at hb
        rw [hb] at ge
        simp -implicitDefEqProofs only [e1, lt0, hll, ge, thenV_some, pu_some, bOf_bool, fs, sf, beq_self_eq_true, guardK_true, guardK_false, Bool.false_eq_true, if_false, if_true, show (some true == some false) = false from rfl]
  | false =>
    unfold prvB at hb
    rw [Bool.or_eq_false_iff, Bool.or_eq_false_iff, decide_eq_false_iff_not, decide_eq_false_iff_not] at hb
    obtain ⟨⟨c1, c2⟩, c3⟩ := hb
    rw [c1] at e1
    rw [decide_eq_false c2] at lt0
    rw [decide_eq_false c3] at ge
    obtain ⟨j, rfl⟩ : ∃ j : Nat, i = j := ⟨i.toNat, (Int.toNat_of_nonneg (by omega)).symm⟩
    rw [Int.toNat_natCast]
    have key : ∃ o : Out, t40 CW v (.int .i64 (j : Int)) h = o ∧ ∃ w h', o = some (.tuple #[w, .int .i64 0], h') ∧ Old h h' ∧ Stk h' h.next w (pathG L.length L j).reverse := by
      refine ⟨_, rfl, ?_⟩
      unfold t40
      simp -implicitDefEqProofs only [e1, lt0, hll, ge, thenV_some, pu_some, bOf_bool, fs, sf, beq_self_eq_true, guardK_true, guardK_false, Bool.false_eq_true, if_false, if_true]
      refine endL_fin (n := 57) (Q := fun o : Out => ∃ w h', o = some (.tuple #[w, .int .i64 0], h') ∧ Old h h' ∧ Stk h' h.next w (pathG L.length L j).reverse) (prv1 (h := h1) (by rw [o1.n0]; exact hG) (Old.get o1 hz) (N := h1.next) rfl (L := L) (i := j) (v := v) (hv.mono o1) hg (invB_false c1) (by omega) hl rfl rfl rfl) ?_
      rintro _ y g ⟨rfl, O, sk⟩
      simp -implicitDefEqProofs only [endL_exit, b40_7, if_true, t40k40_5_eq]
      unfold t40k40_5
      have hpl := pathG_len L.length L j
      have O2 := o1.trans O
      obtain ⟨g2, e2, sk2, k2⟩ := r84 (h := g) (by rw [O2.n0]; exact hG) (N := h1.next) (by rw [O2.n0]; have := h.n0_le_next; have := o1.next; omega) sk (by omega)
      have O3 : Old h g2 := O2.also k2 (fun b' hb' hs => by
        have := (sk.lt hs).1
        have := o1.next
        omega)
      simp -implicitDefEqProofs only [e2, thenV_some, pu_some]
      refine ⟨y 6, g2, rfl, O3, sk2.dig, ?_⟩
      rcases sk2.form with f | ⟨b, m, X, f1, f2, f3⟩
      · exact .inl f
      · exact .inr ⟨b, m, X, f1, by have := o1.next; omega, f3⟩
    obtain ⟨o9, e, w, h', e', q⟩ := key
    exact ⟨w, h', CW_body is40 hG rfl ((t40_eq _ _ _ _).trans (e.trans e')), q⟩
end Go.Proofs.YtdnahgfgoajmcaaDoor

namespace Go.Proofs.YtdnahgfgoajmcaaDoor
open Go Go.Abs
theorem treeV_one (r : RecD) : treeV [r] = leafD r := by
  unfold treeV lvs
  rw [if_neg (by rw [List.length_singleton]; decide), List.map_cons, List.map_nil, treeN_one]
theorem treeV_two {M : List RecD} (h : 2 ≤ M.length) : treeV M = nodeR (treeV (M.take (halfN M.length))) (treeV (M.drop (halfN M.length))) := by
  have a1 := half_pos M.length
  have a2 := half_lt h
  have hl : (lvs M).length = M.length := List.length_map _
  have e : ∀ K : List RecD, K.length ≠ 0 → treeV K = treeN nodeD (lvs K) := fun K hK => by unfold treeV; rw [if_neg hK]
  rw [e M (by omega), e (M.take (halfN M.length)) (by rw [List.length_take]; omega), e (M.drop (halfN M.length)) (by rw [List.length_drop]; omega), treeN_two nodeD (L := lvs M) (by omega), hl, node_same]
  unfold lvs
  rw [← List.map_take, ← List.map_drop]
end Go.Proofs.YtdnahgfgoajmcaaDoor

namespace Go.Proofs.YtdnahgfgoajmcaaDoor
open Go Go.Abs
attribute [local congr] thenV_congr
theorem is55 : IsFn Tryd.prog 55 Tryd.f55 := ⟨by kernel_rfl, by kernel_rfl, by kernel_rfl, by kernel_rfl⟩
theorem is82 : IsFn Tryd.prog 82 Tryd.f82 := ⟨by kernel_rfl, by kernel_rfl, by kernel_rfl, by kernel_rfl⟩
theorem is39 : IsFn Tryd.prog 39 Tryd.f39 := ⟨by kernel_rfl, by kernel_rfl, by kernel_rfl, by kernel_rfl⟩
theorem results55 : Tryd.f55.results.toList = [.cell 2 35] := by kernel_rfl
theorem results39 : Tryd.f39.results.toList = [.cell 2 35, .tmp 3] := by kernel_rfl
theorem results82 : Tryd.f82.results.toList = [.tmp 2] := by kernel_rfl
set_option maxRecDepth 100000 in
/-- tree, of the document -/
theorem r55 : ∀ (n : Nat) {h : Heap}, 4 ≤ h.n0 → GR h → GZ h → ∀ {L : List RecD} {v : Value}, L.length = n → n ≤ 1048576 → RSl h v L → gR v → (∀ r ∈ L, recB r = true) →
    ∃ h', CW 55 [v] h = some (.agg (u8s (treeV L)).toArray, h') ∧ Old h h' := by
  intro n
  induction n using Nat.strongRecOn with
  | _ n ih =>
    intro h hG hr hz L v hL hn hv hg hval
    obtain ⟨h1, z1, o1, g1, n1⟩ := fresh (List.replicate 32 (.int .u8 0)) h
    have hll := hv.len
    rw [hL] at hll
    have q0 := eql0 n
    have q1 := eql1 n
    by_cases c : n = 0
    · rw [decide_eq_true c] at q0
      obtain ⟨h2, e2, o2⟩ := r108 (h := h1) (by rw [o1.n0]; exact hG) (hr.old o1) (a := none) (n := 0) (c := 0) (l := []) rfl (by decide)
      have ev : treeV L = sumR H0 [] := by
        unfold treeV
        rw [if_pos (by omega)]
        exact sum_same []
      rw [← ev] at e2
      have e2 : CW 108 [.slice none 0 0] h1 = some (.agg (u8s (treeV L)).toArray, h2) := e2
      have dn := dig_cells (treeV_ok L)
      have O2 := o1.trans o2
      obtain ⟨h3, e3, k3, g3, _, n3⟩ := stored_all (n := 32) (k' := u8s (treeV L)) (Old.get o2 g1) (by rw [O2.n0]; exact h.n0_le_next) rfl dn.1 dn.2.2
      have L3 := ldN_all g3 dn.1 dn.2.1
      refine ⟨h3, CW_body is55 hG rfl ((t55_eq _ _ _).trans ?_), Old.of_new O2 k3 (Nat.le_refl _)⟩
      unfold t55
      simp -implicitDefEqProofs only [z1, hll, q0, e2, e3, thenV_some, pu_some]
      exact res_cell results55 agg35 size32 (show 2 < 27 by decide) _ L3
    · rw [decide_eq_false c] at q0
      by_cases c1 : n = 1
      · rw [decide_eq_true c1] at q1
        obtain ⟨b, o, ix, wr, mr, lp⟩ := hv.at (j := 0) (by omega)
        have vr := hval _ mr
        have ev : treeV L = leafR (L.getD 0 RecD.z) := by
          match L, hL with
          | [r], _ => rw [treeV_one, leaf_same, List.getD_cons_zero]
          | [], hL => exact absurd hL.symm c
          | _ :: _ :: _, hL => rw [List.length_cons, List.length_cons] at hL; omega
        generalize L.getD 0 RecD.z = r at *
        have L1 := lp h1 o1
        obtain ⟨h2, e2, o2⟩ := r72 (h := h1) (by rw [o1.n0]; exact hG) (hr.old o1) (hz.old o1) wr vr
        rw [← ev] at e2
        have dn := dig_cells (treeV_ok L)
        have O2 := o1.trans o2
        obtain ⟨h3, e3, k3, g3, _, n3⟩ := stored_all (n := 32) (k' := u8s (treeV L)) (Old.get o2 g1) (by rw [O2.n0]; exact h.n0_le_next) rfl dn.1 dn.2.2
        have L3 := ldN_all g3 dn.1 dn.2.1
        have ix : idxS 39 v (.int .i64 0) = some (ptr b o) := ix
        refine ⟨h3, CW_body is55 hG rfl ((t55_eq _ _ _).trans ?_), Old.of_new O2 k3 (Nat.le_refl _)⟩
        unfold t55
        simp -implicitDefEqProofs only [z1, hll, q0, q1, ix, L1, e2, e3, thenV_some, pu_some]
        exact res_cell results55 agg35 size32 (show 2 < 27 by decide) _ L3
      · rw [decide_eq_false c1] at q1
        have hh1 := half_pos n
        have hh2 := half_lt (n := n) (by omega)
        have ev := treeV_two (M := L) (by omega)
        rw [hL] at ev
        obtain ⟨wt, et, rt, gt⟩ := hv.take hg (k := halfN n) (by omega)
        obtain ⟨wd, ed, rd, gd⟩ := hv.drop hg (k := halfN n) (by omega)
        have e109 := r109 (h := h1) (by rw [o1.n0]; exact hG) hn
        obtain ⟨h2, e2, o2⟩ := ih (halfN n) (by omega) (h := h1) (by rw [o1.n0]; exact hG) (hr.old o1) (hz.old o1) (L := L.take (halfN n)) (v := wt) (by rw [List.length_take]; omega) (by omega) (rt.mono o1) gt (fun r hr => hval r (List.mem_of_mem_take hr))
        have O2 := o1.trans o2
        obtain ⟨h3, e3, o3⟩ := ih (n - halfN n) (by omega) (h := h2) (by rw [O2.n0]; exact hG) (hr.old O2) (hz.old O2) (L := L.drop (halfN n)) (v := wd) (by rw [List.length_drop]; omega) (by omega) (rd.mono O2) gd (fun r hr => hval r (List.mem_of_mem_drop hr))
        have O3 := O2.trans o3
        obtain ⟨h4, e4, o4⟩ := r110 (h := h3) (by rw [O3.n0]; exact hG) (hr.old O3) (treeV_ok (L.take (halfN n))) (treeV_ok (L.drop (halfN n)))
        rw [← ev] at e4
        have O4 := O3.trans o4
        have dn := dig_cells (treeV_ok L)
        obtain ⟨h5, e5, k5, g5, _, n5⟩ := stored_all (n := 32) (k' := u8s (treeV L)) (Old.get ((o2.trans o3).trans o4) g1) (by rw [O4.n0]; exact h.n0_le_next) rfl dn.1 dn.2.2
        have L5 := ldN_all g5 dn.1 dn.2.1
        refine ⟨h5, CW_body is55 hG rfl ((t55_eq _ _ _).trans ?_), Old.of_new O4 k5 (Nat.le_refl _)⟩
        unfold t55
        simp -implicitDefEqProofs only [z1, hll, q0, q1, e109, et, e2, ed, e3, e4, e5, thenV_some, pu_some]
        exact res_cell results55 agg35 size32 (show 2 < 27 by decide) _ L5
set_option maxRecDepth 100000 in
/-- allValid -/
theorem r82 {h : Heap} (hG : 4 ≤ h.n0) (hz : GZ h) {v : Value} {L : List RecD} (hv : RSl h v L) (hl : L.length ≤ 1000000) : ∃ h', CW 82 [v] h = some (.bool (!(invB L)), h') ∧ Old h h' := by
  have hll := hv.len
  have key : ∃ o : Out, t82 CW v h = o ∧ ∃ h', o = some (.bool (!(invB L)), h') ∧ Old h h' := by
    refine ⟨_, rfl, ?_⟩
    unfold t82
    simp -implicitDefEqProofs only [thenV_some]
    refine endL_fin (n := 16) (fin := fun ex y g => Old h g ∧ ((ex = .exit 0 ∧ invB L = false) ∨ (ex = .ret ∧ invB L = true ∧ y 2 = .bool false))) (Q := fun o : Out => ∃ h', o = some (.bool (!(invB L)), h') ∧ Old h h')
      (loop_fin (t82l82_1010_eq CW) (Inv := fun k y g => ∃ i, i + k = L.length ∧ y 0 = v ∧ y 3 = i64n i ∧ Old h g ∧ invB L = invB (L.drop i)) ?_ L.length (by have : rounds = 18446744073709551616 := rfl; omega) ⟨0, by omega, rfl, rfl, Kept.refl _ _, by rw [List.drop_zero]⟩) ?_
    · rintro k y g ⟨i, hik, y0, y3, O, ha⟩
      unfold t82l82_1010
      simp -implicitDefEqProofs only [y0, y3, hll, lss3, thenV_some, pu_some]
      by_cases hi : i < L.length
      · obtain ⟨b, o, ix, wr, mr, lp⟩ := hv.at hi
        have hd : L.drop i = L.getD i RecD.z :: L.drop (i + 1) := by
          rw [List.drop_eq_getElem_cons hi, List.getD_eq_getElem?_getD, List.getElem?_eq_getElem hi]
          rfl
        rw [hd] at ha
        generalize L.getD i RecD.z = r at *
        have ha : invB L = (!(recB r) || invB (L.drop (i + 1))) := ha.trans (by unfold invB; rw [List.any_cons])
        have L1 := lp g O
        obtain ⟨g', e', o'⟩ := r48 (h := g) (by rw [O.n0]; exact hG) (hz.old O) wr
        cases hpr : recB r with
        | false =>
          rw [hpr] at e' ha
          simp -implicitDefEqProofs only [decide_eq_true hi, y0, ix, L1, e', unA_not, Bool.not_false, thenV_some, pu_some]
          exact Rnd.ret ⟨O.trans o', .inr ⟨rfl, by rw [ha]; rfl, rfl⟩⟩
        | true =>
          rw [hpr] at e' ha
          have a8 : bin Tryd.prog .add 3 (i64n i) (.int .i64 1) = some (i64n (i + 1)) := add31 (by omega)
          simp -implicitDefEqProofs only [decide_eq_true hi, y0, y3, ix, L1, e', a8, unA_not, Bool.not_true, thenV_some, pu_some]
          exact Rnd.next (k - 1) (by omega) ⟨i + 1, by omega, y0, rfl, O.trans o', ha⟩
      · have hiE : i = L.length := by omega
        rw [hiE, List.drop_length] at ha
        simp -implicitDefEqProofs only [decide_eq_false hi, thenV_some, pu_some]
        exact Rnd.out 0 ⟨O, .inl ⟨rfl, ha⟩⟩
    · rintro ex z g ⟨O, ⟨rfl, ha⟩ | ⟨rfl, ha, z2⟩⟩
      · simp -implicitDefEqProofs only [endL_exit, b82_3, if_true, t82k82_1_eq]
        unfold t82k82_1
        exact ⟨g, by rw [ha]; rfl, O⟩
      · rw [endL_ret, res_one results82 (by decide), z2, ha]
        exact ⟨g, rfl, O⟩
  obtain ⟨o9, e, h', e', q⟩ := key
  exact ⟨h', CW_body is82 hG rfl ((t82_eq _ _ _).trans (e.trans e')), q⟩
set_option maxRecDepth 100000 in
/-- Root, of the document -/
theorem r39 {h : Heap} (hG : 4 ≤ h.n0) (hr : GR h) (hz : GZ h) {v : Value} {L : List RecD} (hv : RSl h v L) (hg : gR v) (hl : L.length ≤ 1000000) :
    ∃ h', CW 39 [v] h = some (.tuple #[.agg (u8s (rootV L)).toArray, .int .i64 (rootE L)], h') ∧ Old h h' := by
  obtain ⟨h1, z1, o1, g1, n1⟩ := fresh (List.replicate 32 (.int .u8 0)) h
  obtain ⟨h2, e2, o2⟩ := r82 (h := h1) (by rw [o1.n0]; exact hG) (hz.old o1) (hv.mono o1) hl
  have O2 := o1.trans o2
  cases hb : invB L with
  | true =>
    rw [hb] at e2
    have ev : rootV L = z32 := by unfold rootV; rw [hb]; rfl
    have ee : rootE L = 2 := by unfold rootE; rw [hb]; rfl
    rw [ev, ee]
    have dz := dig_cells z32_ok
    have L0 := ldN_all (show h2.get 0 = some (u8s z32) from hz.old O2) dz.1 dz.2.1
    obtain ⟨h3, e3, k3, g3, _, n3⟩ := stored_all (n := 32) (k' := u8s z32) (Old.get o2 g1) (by rw [O2.n0]; exact h.n0_le_next) rfl dz.1 dz.2.2
    have L3 := ldN_all g3 dz.1 dz.2.1
    refine ⟨h3, CW_body is39 hG rfl ((t39_eq _ _ _).trans ?_), Old.of_new O2 k3 (Nat.le_refl _)⟩
    unfold t39
    simp -implicitDefEqProofs only [z1, e2, unA_not, Bool.not_true, Bool.not_false, L0, e3, thenV_some, pu_some]
    exact res_cell_tmp results39 agg35 size32 (by decide) (by decide) _ L3
  | false =>
    rw [hb] at e2
    have ev : rootV L = treeV L := by unfold rootV; rw [hb]; rfl
    have ee : rootE L = 0 := by unfold rootE; rw [hb]; rfl
    rw [ev, ee]
    obtain ⟨h3, e3, o3⟩ := r55 L.length (h := h2) (by rw [O2.n0]; exact hG) (hr.old O2) (hz.old O2) rfl (by omega) (hv.mono O2) hg (invB_false hb)
    have O3 := O2.trans o3
    have dz := dig_cells (treeV_ok L)
    obtain ⟨h4, e4, k4, g4, _, n4⟩ := stored_all (n := 32) (k' := u8s (treeV L)) (Old.get (o2.trans o3) g1) (by rw [O3.n0]; exact h.n0_le_next) rfl dz.1 dz.2.2
    have L4 := ldN_all g4 dz.1 dz.2.1
    refine ⟨h4, CW_body is39 hG rfl ((t39_eq _ _ _).trans ?_), Old.of_new O3 k4 (Nat.le_refl _)⟩
    unfold t39
    simp -implicitDefEqProofs only [z1, e2, unA_not, Bool.not_true, Bool.not_false, e3, e4, thenV_some, pu_some]
    exact res_cell_tmp results39 agg35 size32 (by decide) (by decide) _ L4
end Go.Proofs.YtdnahgfgoajmcaaDoor

namespace Go.Proofs.YtdnahgfgoajmcaaDoor
open Go Go.Abs
attribute [local congr] thenV_congr
end Go.Proofs.YtdnahgfgoajmcaaDoor

