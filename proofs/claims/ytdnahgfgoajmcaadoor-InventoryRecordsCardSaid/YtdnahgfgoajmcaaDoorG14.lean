/-
  InventoryRecords: which of two records is newer, on the document's side.
  Conditions: as each theorem states.
  InventoryRecords: both sides decide alike.
  Conditions: none (plain arithmetic).
  InventoryRecords: the walk.
  Conditions: the package variables hold what they hold at the start.
-/
import Derived.Test.YtdnahgfgoajmcaaDoorG13
namespace Go.Proofs.YtdnahgfgoajmcaaDoor
open Go Go.Abs
attribute [local congr] thenV_congr
/-- What decides between records of one key. -/
def rkL (r : RecD) : List Int := [(r.inc : Int), (r.num : Int), ((bit r.held : Nat) : Int), IntKind.wrap .u64 r.k, IntKind.wrap .u64 r.n]
def lexG : List Int → List Int → Bool
  | x :: l, y :: m => if x = y then lexG l m else decide (x > y)
  | _, _ => false
theorem is99 : IsFn Tryd.prog 99 Tryd.f99 := ⟨by kernel_rfl, by kernel_rfl, by kernel_rfl, by kernel_rfl⟩
theorem is49 : IsFn Tryd.prog 49 Tryd.f49 := ⟨by kernel_rfl, by kernel_rfl, by kernel_rfl, by kernel_rfl⟩
theorem agg5 : aggT Tryd.prog 140 = some true := by kernel_rfl
theorem siz5 : sizeT Tryd.prog 140 = some 5 := by kernel_rfl
theorem results99 : Tryd.f99.results.toList = [.cell 2 140] := by kernel_rfl
theorem results49 : Tryd.f49.results.toList = [.tmp 4] := by kernel_rfl
abbrev i64s (l : List Int) : List Value := l.map (.int .u64)
theorem u64s_ok (l : List Int) : Abs.noHoles (i64s l) = true ∧ oneCells (i64s l) = true := by
  induction l with
  | nil => exact ⟨rfl, rfl⟩
  | cons x l ih => exact ⟨ih.1, ih.2⟩
theorem bld_rank (a b c d e : Int) : bldR (List.replicate 5 (.int .u64 0)) [(0, 1, .int .u64 a), (1, 1, .int .u64 b), (2, 1, .int .u64 c), (3, 1, .int .u64 d), (4, 1, .int .u64 e)] = some (.agg (i64s [a, b, c, d, e]).toArray) := rfl
set_option maxRecDepth 100000 in
/-- rank -/
theorem r99 {h : Heap} (hG : 4 ≤ h.n0) {r : RecD} (w : r.Wf) : ∃ h', CW 99 [.agg (recC r).toArray] h = some (.agg (i64s (rkL r)).toArray, h') ∧ Old h h' := by
  obtain ⟨h1, b1, o1, g1, n1⟩ := rec_box2 h w
  obtain ⟨h2, z2, o2, g2, n2⟩ := fresh (List.replicate 5 (.int .u64 0)) h1
  have A := r_ld w (o2.get g1)
  have G2 : 4 ≤ h2.n0 := by rw [o2.n0, o1.n0]; exact hG
  have u := u64s_ok (rkL r)
  obtain ⟨h3, e3, k3, g3, _, _⟩ := stored_all (n := 5) (k' := i64s (rkL r)) g2 (by rw [o2.n0]; exact h1.n0_le_next) rfl rfl u.2
  have o3 : Old h1 h3 := Old.of_new o2 k3 (Nat.le_refl _)
  have l3 := ldN_all (n := 5) g3 rfl u.1
  have bl := bld_rank (r.inc : Int) (r.num : Int) ((bit r.held : Nat) : Int) (IntKind.wrap .u64 r.k) (IntKind.wrap .u64 r.n)
  have e3 : stN 5 (ptr h1.next 0) (.agg (i64s [(r.inc : Int), (r.num : Int), ((bit r.held : Nat) : Int), IntKind.wrap .u64 r.k, IntKind.wrap .u64 r.n]).toArray) h2 = some (undef, h3) := e3
  refine ⟨h3, CW_body is99 hG rfl ((t99_eq _ _ _).trans ?_), o1.trans o3⟩
  unfold t99
  simp -implicitDefEqProofs only [b1, z2, addP_ptr, Nat.zero_add, A.l34, A.l35, A.l36, A.l37, A.l38, r97 G2, cvI_int, bl, e3, chkI, Bool.and_self, Bool.and_true, thenV_some, pu_some]
  exact res_cell results99 agg5 siz5 (show 2 < 17 by decide) _ l3
theorem idx5 {b i : Nat} (hi : i < 5) : idxA 5 1 (ptr b 0) (i64n i) = some (ptr b i) := by
  unfold idxA
  simp only [i64n]
  rw [if_pos (by omega), Int.toNat_natCast, Nat.mul_one, addP_ptr, Nat.zero_add]
/-- What Newer of the document returns. -/
def newerR (a b : RecD) : Bool := recB a && (recB b && (decide (keyB a = keyB b) && lexG (rkL a) (rkL b)))
set_option maxRecDepth 100000 in
/-- Newer, of the document -/
theorem r49 {h : Heap} (hG : 4 ≤ h.n0) (hz : GZ h) {a b : RecD} (wa : a.Wf) (wb : b.Wf) : ∃ h', CW 49 [.agg (recC a).toArray, .agg (recC b).toArray] h = some (.bool (newerR a b), h') ∧ Old h h' := by
  obtain ⟨h1, b1, o1, g1, n1⟩ := rec_box2 h wa
  obtain ⟨h2, b2, o2, g2, n2⟩ := rec_box2 h1 wb
  have ca := rec_cells wa
  have cb := rec_cells wb
  have LA : ∀ g, Old h2 g → ldN 39 (ptr h.next 0) g = some (.agg (recC a).toArray, g) := fun g o => ldN_all (Old.get o (o2.get g1)) ca.1 ca.2.1
  have LB : ∀ g, Old h2 g → ldN 39 (ptr h1.next 0) g = some (.agg (recC b).toArray, g) := fun g o => ldN_all (Old.get o g2) cb.1 cb.2.1
  have O2 := o1.trans o2
  have G2 : ∀ g, Old h2 g → 4 ≤ g.n0 := fun g o => by rw [o.n0, O2.n0]; exact hG
  have Z2 : ∀ g, Old h2 g → GZ g := fun g o => hz.old (O2.trans o)
  have R2 : Old h2 h2 := Kept.refl _ _
  have chkA : ∀ (r : RecD) (g : Heap), r.Wf → chkR true (some (.agg (recC r).toArray, g)) (.agg (recC r).toArray) = true := fun r g w => chk_agg _ _ (rec_typed w).kinds
  obtain ⟨h3, e3, o3⟩ := r48 (h := h2) (G2 _ R2) (Z2 _ R2) wa
  unfold newerR
  cases va : recB a with
  | false =>
    rw [va] at e3
    refine ⟨h3, CW_body is49 hG rfl ((t49_eq _ _ _ _).trans ?_), O2.trans o3⟩
    unfold t49
    simp -implicitDefEqProofs only [b1, b2, LA h2 R2, e3, unA_not, bOf_bool, fs, sf, beq_self_eq_true, guardK_true, guardK_false, chkF, Bool.false_eq_true, if_false, if_true, Bool.not_true, Bool.not_false, Bool.and_true, Bool.and_self, Bool.false_and, thenV_some, pu_some, show (some true == some false) = false from rfl]
  | true =>
    rw [va] at e3
    obtain ⟨h4, e4, o4⟩ := r48 (h := h3) (G2 _ o3) (Z2 _ o3) wb
    have O4 := o3.trans o4
    cases vb : recB b with
    | false =>
      rw [vb] at e4
      refine ⟨h4, CW_body is49 hG rfl ((t49_eq _ _ _ _).trans ?_), O2.trans O4⟩
      unfold t49
      simp -implicitDefEqProofs only [b1, b2, LA h2 R2, e3, LB h3 o3, e4, unA_not, bOf_bool, fs, sf, beq_self_eq_true, guardK_true, guardK_false, chkF, Bool.false_eq_true, if_false, if_true, Bool.not_true, Bool.not_false, Bool.and_true, Bool.and_self, Bool.false_and, Bool.true_and, thenV_some, pu_some, show (some true == some false) = false from rfl]
    | true =>
      rw [vb] at e4
      obtain ⟨h5, e5, o5⟩ := r59 (h := h4) (G2 _ O4) wa
      have O5 := O4.trans o5
      obtain ⟨h6, e6, o6⟩ := r59 (h := h5) (G2 _ O5) wb
      have O6 := O5.trans o6
      have q6 := (str_dec (keyB_bys wa) (keyB_bys wb)).2
      by_cases vc : keyB a = keyB b
      · rw [decide_eq_true vc] at q6 ⊢
        obtain ⟨h7, e7, o7⟩ := r99 (h := h6) (G2 _ O6) wa
        have O7 := O6.trans o7
        obtain ⟨h8, e8, o8⟩ := r99 (h := h7) (G2 _ O7) wb
        have O8 := O7.trans o8
        obtain ⟨h9, z9, o9, g9, n9⟩ := fresh (List.replicate 5 (.int .u64 0)) h8
        obtain ⟨h10, z10, o10, g10, n10⟩ := fresh (List.replicate 5 (.int .u64 0)) h9
        have p9 : h9.n0 ≤ h8.next := by rw [o9.n0]; exact h8.n0_le_next
        have p10 : h10.n0 ≤ h9.next := by rw [o10.n0]; exact h9.n0_le_next
        have ua := u64s_ok (rkL a)
        have ub := u64s_ok (rkL b)
        obtain ⟨h11, e11, k11, g11, _, m11⟩ := stored_all (n := 5) (k' := i64s (rkL a)) (o10.get g9) (by rw [o10.n0]; exact p9) rfl rfl ua.2
        have g10' : h11.get h9.next = some (List.replicate 5 (.int .u64 0)) := Kept.getE k11 g10 (by omega)
        obtain ⟨h12, e12, k12, g12, _, m12⟩ := stored_all (n := 5) (k' := i64s (rkL b)) g10' (by rw [k11.n0]; exact p10) rfl rfl ub.2
        have g11' : h12.get h8.next = some (i64s (rkL a)) := Kept.getE k12 g11 (by omega)
        have O9 : Old h8 h11 := Old.of_new (o9.trans o10) k11 (Nat.le_refl _)
        have O12 : Old h8 h12 := Old.of_new O9 k12 (by omega)
        refine ⟨h12, CW_body is49 hG rfl ((t49_eq _ _ _ _).trans ?_), (O2.trans O8).trans O12⟩
        unfold t49
        simp -implicitDefEqProofs only [b1, b2, LA h2 R2, e3, LB h3 o3, e4, LA h4 O4, e5, LB h4 O4, LB h5 O5, e6, q6, LA h6 O6, e7, LB h6 O6, LB h7 O7, e8, z9, z10, e11, e12, chkA b _ wb, unA_not, bOf_bool, fs, sf, beq_self_eq_true, guardK_true, guardK_false, chkF, Bool.false_eq_true, if_false, if_true, Bool.not_true, Bool.not_false, Bool.and_true, Bool.and_self, Bool.false_and, Bool.true_and, thenV_some, pu_some]
        refine endL_fin (n := 45) (fin := fun ex y g => g = h12 ∧ ((ex = .ret ∧ y 4 = .bool (lexG (rkL a) (rkL b))) ∨ (ex = .exit 0 ∧ lexG (rkL a) (rkL b) = false))) (Q := fun o : Out => o = some (Value.bool (lexG (rkL a) (rkL b)), h12))
          (loop_fin (t49l49_111010_eq CW) (Inv := fun k y g => ∃ i, i + k = 5 ∧ y 5 = ptr h8.next 0 ∧ y 6 = ptr h9.next 0 ∧ y 7 = i64n i ∧ g = h12 ∧ lexG (rkL a) (rkL b) = lexG ((rkL a).drop i) ((rkL b).drop i)) ?_ 5 (by have : rounds = 18446744073709551616 := rfl; omega) ⟨0, Nat.zero_add _, rfl, rfl, rfl, rfl, rfl⟩) ?_
        · rintro k y g' ⟨i, hik, y5, y6, y7, rfl, ho⟩
          unfold t49l49_111010
          have lss5 : bin Tryd.prog .lss 3 (i64n i) (.int .i64 5) = some (.bool (decide (i < 5))) := lss3 i 5
          simp -implicitDefEqProofs only [y5, y6, y7, lss5, thenV_some, pu_some]
          by_cases hi : i < 5
          · have hla : (rkL a).length = 5 := rfl
            have hlb : (rkL b).length = 5 := rfl
            have ea : (rkL a)[i]? = some (rkL a)[i] := List.getElem?_eq_getElem (by omega)
            have eb : (rkL b)[i]? = some (rkL b)[i] := List.getElem?_eq_getElem (by omega)
            have da : ld1 (ptr h8.next i) g' = some (.int .u64 (rkL a)[i], g') := ld1_at g11' (by rw [List.getElem?_map, ea]; rfl) rfl
            have db : ld1 (ptr h9.next i) g' = some (.int .u64 (rkL b)[i], g') := ld1_at g12 (by rw [List.getElem?_map, eb]; rfl) rfl
            have dra : (rkL a).drop i = (rkL a)[i] :: (rkL a).drop (i + 1) := List.drop_eq_getElem_cons (by omega)
            have drb : (rkL b).drop i = (rkL b)[i] :: (rkL b).drop (i + 1) := List.drop_eq_getElem_cons (by omega)
            by_cases he : (rkL a)[i] = (rkL b)[i]
            · have hb : ((rkL a)[i] != (rkL b)[i]) = false := by rw [he]; simp
              simp -implicitDefEqProofs only [decide_eq_true hi, idx5 hi, da, db, bin_neq, hb, y7, add31 (show i + 1 ≤ 9223372036854775807 by omega), thenV_some, pu_some]
              refine Rnd.next (k - 1) (by omega) ⟨i + 1, by omega, y5, y6, rfl, rfl, ?_⟩
              rw [ho, dra, drb, lexG, if_pos he]
            · have hb : ((rkL a)[i] != (rkL b)[i]) = true := by simpa using he
              simp -implicitDefEqProofs only [decide_eq_true hi, idx5 hi, da, db, bin_neq, bin_gtr, hb, thenV_some, pu_some]
              refine Rnd.ret ⟨rfl, .inl ⟨rfl, ?_⟩⟩
              rw [ho, dra, drb, lexG, if_neg he]
              rfl
          · simp -implicitDefEqProofs only [decide_eq_false hi, thenV_some, pu_some]
            refine Rnd.out 0 ⟨rfl, .inr ⟨rfl, ?_⟩⟩
            rw [ho, List.drop_eq_nil_of_le (by show 5 ≤ i; omega)]
            rfl
        · rintro ex z g' ⟨rfl, ⟨rfl, z2⟩ | ⟨rfl, hz⟩⟩
          · rw [endL_ret, res_one results49 (by decide), z2]
          · simp -implicitDefEqProofs only [endL_exit, b49_9, if_true, t49k49_7_eq]
            unfold t49k49_7
            rw [hz]
            rfl
      · rw [decide_eq_false vc] at q6 ⊢
        refine ⟨h6, CW_body is49 hG rfl ((t49_eq _ _ _ _).trans ?_), O2.trans O6⟩
        unfold t49
        simp -implicitDefEqProofs only [b1, b2, LA h2 R2, e3, LB h3 o3, e4, LA h4 O4, e5, LB h4 O4, LB h5 O5, e6, q6, chkA b _ wb, unA_not, bOf_bool, fs, sf, beq_self_eq_true, guardK_true, guardK_false, chkF, Bool.false_eq_true, if_false, if_true, Bool.not_true, Bool.not_false, Bool.and_true, Bool.and_self, Bool.false_and, Bool.true_and, thenV_some, pu_some]
end Go.Proofs.YtdnahgfgoajmcaaDoor

namespace Go.Proofs.YtdnahgfgoajmcaaDoor
open Go Go.Abs
theorem lex_or : ∀ (xs ys : List Int), xs.length = ys.length → decide (orL (List.zipWith cmpI xs ys) > 0) = lexG xs ys
  | [], [], _ => rfl
  | x :: xs, y :: ys, h => by
    have ih := lex_or xs ys (by simpa using h)
    rw [List.zipWith_cons_cons, orL, lexG]
    by_cases e : x = y
    · subst e
      rw [if_pos rfl, if_pos (by unfold cmpI; simp), ih]
    · have hc : cmpI x y ≠ 0 := by
        unfold cmpI
        split
        · decide
        · split
          · decide
          · omega
      rw [if_neg e, if_neg hc]
      congr 1
      unfold cmpI
      split
      · simp; omega
      · split
        · simp; omega
        · simp; omega
  | [], _ :: _, h => by simp at h
  | _ :: _, [], h => by simp at h
theorem newer_same {a b : RecD} (wa : a.Wf) (wb : b.Wf) : newerB a b = newerR a b := by
  unfold newerB newerR
  cases va : recB a with
  | false => rfl
  | true =>
    cases vb : recB b with
    | false => rfl
    | true =>
      obtain ⟨a1, a2, a3, a4, a5, a6⟩ := rec_small va
      obtain ⟨b1, b2, b3, b4, b5, b6⟩ := rec_small vb
      have hk : atB a b = decide (keyB a = keyB b) := by
        have ia := i8_of a1 (by omega)
        have ib := i8_of b1 (by omega)
        rw [Bool.eq_iff_iff, decide_eq_true_eq]
        unfold atB keyB
        simp only [Bool.and_eq_true, decide_eq_true_eq]
        constructor
        · rintro ⟨h1, h2, h3⟩
          rw [h1, h2, h3]
        · intro h
          obtain ⟨h1, h2⟩ := List.append_inj h (by simp [wa.obj.1, wb.obj.1])
          obtain ⟨h3, h4⟩ := List.append_inj h1 rfl
          simp only [List.cons.injEq, and_true] at h2 h3
          exact ⟨h3, h4, by omega⟩
      have hr : decide (cmpR a b > 0) = lexG (rkL a) (rkL b) := by
        rw [← lex_or (rkL a) (rkL b) rfl]
        have w1 : IntKind.wrap .u64 a.k = a.k := wrap_u64 (by omega) (by omega)
        have w2 : IntKind.wrap .u64 a.n = a.n := wrap_u64 (by omega) (by omega)
        have w3 : IntKind.wrap .u64 b.k = b.k := wrap_u64 (by omega) (by omega)
        have w4 : IntKind.wrap .u64 b.n = b.n := wrap_u64 (by omega) (by omega)
        have hb : (if a.held = b.held then (0 : Int) else if a.held then 1 else -1) = cmpI ((bit a.held : Nat) : Int) ((bit b.held : Nat) : Int) := by
          cases a.held <;> cases b.held <;> rfl
        unfold cmpR rkL
        rw [hb, w1, w2, w3, w4]
        rfl
      rw [hk, hr]
end Go.Proofs.YtdnahgfgoajmcaaDoor

namespace Go.Proofs.YtdnahgfgoajmcaaDoor
open Go Go.Abs
attribute [local congr] thenV_congr
/-- What Key and EncodeRecord say of a record: the error, the key, the bytes. -/
def errV (r : RecD) : Int := if recB r then 0 else 2
def keyV (r : RecD) : List Nat := if recB r then keyB r else []
def encV (r : RecD) : List Nat := if recB r then encRec r else []
theorem cv_nil (g : Heap) : cvBS (.slice none 0 0) g = some (.string (strOf []), g) := rfl
theorem u27 {h : Heap} (hG : 4 ≤ h.n0) {r : RecD} (w : r.Wf) : ∃ v h', CW 27 [.agg (recC r).toArray] h = some (.tuple #[v, .int .i64 (errV r)], h') ∧ Old h h' ∧ ∀ g, Old h' g → cvBS v g = some (.string (strOf (keyV r)), g) := by
  unfold errV keyV
  obtain ⟨h1, h2⟩ := r27 hG w
  cases v : recB r with
  | true =>
    obtain ⟨a, c, h', e, s, o⟩ := h1 v
    exact ⟨_, h', e, o, fun g o' => cvBS_at (Old.bytes o' s)⟩
  | false =>
    obtain ⟨h', e, o⟩ := h2 v
    exact ⟨_, h', e, o, fun g _ => cv_nil g⟩
theorem u45 {h : Heap} (hG : 4 ≤ h.n0) (hz : GZ h) {r : RecD} (w : r.Wf) : ∃ v h', CW 45 [.agg (recC r).toArray] h = some (.tuple #[v, .int .i64 (errV r)], h') ∧ Old h h' ∧ ∀ g, Old h' g → cvBS v g = some (.string (strOf (keyV r)), g) := by
  unfold errV keyV
  obtain ⟨h1, h2⟩ := r45 hG hz w
  cases v : recB r with
  | true =>
    obtain ⟨a, c, h', e, s, o⟩ := h1 v
    exact ⟨_, h', e, o, fun g o' => cvBS_at (Old.bytes o' s)⟩
  | false =>
    obtain ⟨h', e, o⟩ := h2 v
    exact ⟨_, h', e, o, fun g _ => cv_nil g⟩
theorem u43 {h : Heap} (hG : 4 ≤ h.n0) {r : RecD} (w : r.Wf) : ∃ v h', CW 43 [.agg (recC r).toArray] h = some (.tuple #[v, .int .i64 (errV r)], h') ∧ Old h h' ∧ ∀ g, Old h' g → cvBS v g = some (.string (strOf (encV r)), g) := by
  unfold errV encV
  cases v : recB r with
  | true =>
    obtain ⟨a, c, h', e, s, o, _⟩ := r43 hG w v
    exact ⟨_, h', e, o, fun g o' => cvBS_at (Old.bytes o' s)⟩
  | false =>
    obtain ⟨h', e, o⟩ := r43n hG w v
    exact ⟨_, h', e, o, fun g _ => cv_nil g⟩
theorem u46 {h : Heap} (hG : 4 ≤ h.n0) (hz : GZ h) {r : RecD} (w : r.Wf) : ∃ v h', CW 46 [.agg (recC r).toArray] h = some (.tuple #[v, .int .i64 (errV r)], h') ∧ Old h h' ∧ ∀ g, Old h' g → cvBS v g = some (.string (strOf (encV r)), g) := by
  unfold errV encV
  cases v : recB r with
  | true =>
    obtain ⟨w, h', e, O, o⟩ := r46 hG hz w v
    obtain ⟨a, c, rfl, s, _⟩ := O.bytes
    exact ⟨_, h', e, o, fun g o' => cvBS_at (Old.bytes o' s)⟩
  | false =>
    obtain ⟨h', e, o⟩ := r46n hG hz w v
    exact ⟨_, h', e, o, fun g _ => cv_nil g⟩
theorem decR_wf {m : List Nat} (hby : Bys m) : (decR m).1.Wf := by
  unfold decR
  split
  · exact RecD.z_wf
  split
  · exact RecD.z_wf
  split
  · exact RecD.z_wf
  split
  · rename_i c1 c2 c3 c4
    exact decRx_wf (by omega) hby
  · exact RecD.z_wf
theorem is10 : IsFn Tryd.prog 10 Tryd.f10 := ⟨by kernel_rfl, by kernel_rfl, by kernel_rfl, by kernel_rfl⟩
theorem neq_self (n : Int) : bin Tryd.prog .neq 26 (.int .i64 n) (.int .i64 n) = some (.bool false) := by rw [bin_neq]; simp
theorem eql_self (n : Int) : bin Tryd.prog .eql 26 (.int .i64 n) (.int .i64 n) = some (.bool true) := by rw [bin_eql]; simp
theorem neq_str (a : ByteArray) : bin Tryd.prog .neq 9 (.string a) (.string a) = some (.bool false) := by
  unfold bin eqOk
  simp only [if_true]
  unfold binA
  simp only [ground, flat, Bool.and_self, if_true]
  have e : (binOp .neq 9 (.string a) (.string a)) = pure (.bool (!(a.toList == a.toList))) := rfl
  rw [e, beq_self_eq_true]
  rfl
set_option maxRecDepth 100000 in
theorem r10 {h : Heap} (hG : 4 ≤ h.n0) (hz : h.get 3 = some roundsL) (hg0 : GZ h) {r s : RecD} (w : r.Wf) (ws : s.Wf) {a : Option Addr} {n c : Nat} {m : List Nat} (hm : sliceBytes a n h = some m) (hgd : 0 < m.length → goodS a n c = true) : ∃ h', CW 10 [.agg (recC r).toArray, .agg (recC s).toArray, .slice a n c] h = some (.bool true, h') := by
  obtain ⟨h1, b1, o1, g1, n1⟩ := rec_box2 h w
  obtain ⟨h2, b2, o2, g2, n2⟩ := rec_box2 h1 ws
  have hln : lenL (.slice a n c) = some (i64n n) := rfl
  have O2 := o1.trans o2
  by_cases hn : n ≤ 200
  · have q0 : bin Tryd.prog .gtr 3 (i64n n) (.int .i64 200) = some (.bool false) := by rw [bin_gtr, decide_eq_false (by omega)]
    have hby : Bys m := (sliceBytes_spec hm).2.1
    have cr := rec_cells w
    have cs := rec_cells ws
    have LR : ∀ g, Old h2 g → ldN 39 (ptr h.next 0) g = some (.agg (recC r).toArray, g) := fun g o => ldN_all (Old.get o (o2.get g1)) cr.1 cr.2.1
    have LS : ∀ g, Old h2 g → ldN 39 (ptr h1.next 0) g = some (.agg (recC s).toArray, g) := fun g o => ldN_all (Old.get o g2) cs.1 cs.2.1
    have GG : ∀ g, Old h2 g → 4 ≤ g.n0 := fun g o => by rw [o.n0, O2.n0]; exact hG
    have ZZ : ∀ g, Old h2 g → GZ g := fun g o => hg0.old (O2.trans o)
    have R2 : Old h2 h2 := Kept.refl _ _
    obtain ⟨v3, h3, e3, o3, s3⟩ := u27 (h := h2) (GG _ R2) w
    obtain ⟨v4, h4, e4, o4, s4⟩ := u45 (h := h3) (GG _ o3) (ZZ _ o3) w
    have P4 := o3.trans o4
    obtain ⟨v5, h5, e5, o5, s5⟩ := u43 (h := h4) (GG _ P4) w
    have P5 := P4.trans o5
    obtain ⟨v6, h6, e6, o6, s6⟩ := u46 (h := h5) (GG _ P5) (ZZ _ P5) w
    have P6 := P5.trans o6
    have b7 := bsl_bytes h6
    have o7 : Old h6 (h6.alloc []) := Kept.alloc _ _ _
    have P7 := P6.trans o7
    obtain ⟨b, sp, c', h8, e8, sl8, _, _, n8, x8, k8⟩ := append_fresh (g := h6.alloc []) (E := h6.next) (c := c) (by rw [o7.n0]; exact h6.n0_le_next) (Old.bytes (O2.trans P7) hm) (show n ≤ 21000 by omega)
    have o8 : Old (h6.alloc []) h8 := ⟨n8, x8, fun e he _ => k8 e he⟩
    have P8 := P7.trans o8
    obtain ⟨h9, e9, o9⟩ := q44 (h := h8) (c := c') (GG _ P8) sl8 (by omega)
    have P9 := P8.trans o9
    obtain ⟨h10, z10, o10, G10, n10⟩ := fresh zrC h9
    have W := decR_wf hby
    have cd := rec_cells W
    obtain ⟨h11, e11, k11, G11, _, _⟩ := stored_all (n := 39) G10 (by rw [o10.n0]; exact h9.n0_le_next) rfl cd.1 cd.2.2
    have o11 : Old h9 h11 := Old.of_new o10 k11 (Nat.le_refl _)
    have P11 := P9.trans o11
    obtain ⟨h12, e12, o12⟩ := r47 (h := h11) (c := c) (GG _ P11) (ZZ _ P11) (Old.bytes (O2.trans P11) hm) hgd
    have P12 := P11.trans o12
    obtain ⟨h13, z13, o13, G13, n13⟩ := fresh zrC h12
    obtain ⟨h14, e14, k14, G14, _, _⟩ := stored_all (n := 39) G13 (by rw [o13.n0]; exact h12.n0_le_next) rfl cd.1 cd.2.2
    have o14 : Old h12 h14 := Old.of_new o13 k14 (Nat.le_refl _)
    have P14 := P12.trans o14
    obtain ⟨h15, e15, o15⟩ := r42 (h := h14) (GG _ P14) w
    have P15 := P14.trans o15
    obtain ⟨h16, e16, o16⟩ := r48 (h := h15) (GG _ P15) (ZZ _ P15) w
    have P16 := P15.trans o16
    obtain ⟨h17, e17, o17⟩ := r30 (h := h16) (GG _ P16) w ws
    have P17 := P16.trans o17
    obtain ⟨h18, e18, o18⟩ := r49 (h := h17) (GG _ P17) (ZZ _ P17) w ws
    have P18 := P17.trans o18
    rw [← newer_same w ws] at e18
    have T18 : Old h14 h18 := ((o15.trans o16).trans o17).trans o18
    have L15 : ldN 39 (ptr h9.next 0) h18 = some (.agg (recC (decR m).1).toArray, h18) := ldN_all (Old.get T18 (Old.get o14 (Old.get o12 G11))) cd.1 cd.2.1
    have L17 : ldN 39 (ptr h12.next 0) h18 = some (.agg (recC (decR m).1).toArray, h18) := ldN_all (Old.get T18 G14) cd.1 cd.2.1
    have Q6 : Old h6 h18 := ((((((o7.trans o8).trans o9).trans o11).trans o12).trans o14).trans T18)
    have c3 := s3 h18 (((o4.trans o5).trans o6).trans Q6)
    have c4 := s4 h18 ((o5.trans o6).trans Q6)
    have c5 := s5 h18 (o6.trans Q6)
    have c6 := s6 h18 Q6
    have qe := eq_rec W W
    rw [decide_eq_true rfl] at qe
    have kn := r14 (Old.get (O2.trans P18) hz)
    have chkA : ∀ (r : RecD) (g : Heap), r.Wf → chkR true (some (.agg (recC r).toArray, g)) (.agg (recC r).toArray) = true := fun r g w => chk_agg _ _ (rec_typed w).kinds
    refine ⟨h18, CW_body is10 hG rfl ((t10_eq _ _ _ _ _).trans ?_)⟩
    unfold t10
    simp -implicitDefEqProofs only [b1, b2, hln, q0, LR h2 R2, e3, ext0, ext1, LR h3 o3, e4, LR h4 P4, e5, LR h5 P5, e6, b7, e8, e9, z10, e11, e12, z13, e14, LR h14 P14, e15, LR h15 P15, e16, neq_bool, bne_self_eq_false, LR h16 P16, LS h16 P16, e17, LR h17 P17, LS h17 P17, e18, neq_self, eql_self, c3, c4, neq_str, c5, c6, str_self, L15, L17, qe, kn, chkA r _ w, chkA s _ ws, thenV_some, pu_some, bOf_bool, fs, sf, beq_self_eq_true, guardK_true, guardK_false, chkF, Bool.false_eq_true, if_false, if_true, Bool.not_true, Bool.not_false, Bool.and_true, Bool.true_and, Bool.and_self]
  · have q0 : bin Tryd.prog .gtr 3 (i64n n) (.int .i64 200) = some (.bool true) := by rw [bin_gtr, decide_eq_true (by omega)]
    have k14 := r14 (Old.get O2 hz)
    refine ⟨h2, CW_body is10 hG rfl ((t10_eq _ _ _ _ _).trans ?_)⟩
    unfold t10
    simp -implicitDefEqProofs only [b1, b2, hln, q0, k14, thenV_some, pu_some]
end Go.Proofs.YtdnahgfgoajmcaaDoor

