/-
  The reference's journal: Entries, Greatest.
  Conditions: as each theorem states.
  The reference's journal: Greatest.
  Conditions: as each theorem states.
  The reference's journal: Open.
  Conditions: as each theorem states.
  The reference's journal: Live, Free, Base, ReadAt, and whether a journal agrees with it.
  Conditions: as each theorem states.
  DiskLoads: SameEntries, Load, LoadDisk.
  Conditions: as each theorem states.
  DiskLoads: LoadDisk.
  Conditions: as each theorem states.
  DiskLoads: the walk.
  Conditions: as each theorem states.
-/
import Derived.Test.YtcmfgmhadeeieaaG8
namespace Go.Proofs.Ytcmfgmhadeeieaa
open Go Go.Abs

theorem is67 : IsFn Try.prog 67 Try.f67 := ⟨by kernel_rfl, by kernel_rfl, by kernel_rfl, by kernel_rfl⟩
theorem is66 : IsFn Try.prog 66 Try.f66 := ⟨by kernel_rfl, by kernel_rfl, by kernel_rfl, by kernel_rfl⟩
theorem b67_exit (C : CallF) (e : Env) (h : Heap) : b67_8 C 0 e h = k67_6 C e h := rfl
theorem b66_exit (C : CallF) (e : Env) (h : Heap) : b66_4 C 0 e h = k66_2 C e h := rfl
theorem b66_exit2 (C : CallF) (e : Env) (h : Heap) : b66_14 C 2 e h = k66_8 C e h := rfl
theorem openJ_area (D : Dk) (t : Int) : (D.openJ t).area ≤ 1 := by
  have h := openJ_act D t
  split at h
  · rename_i hk
    simp only [Prod.mk.injEq] at h
    rw [h.2.2]; exact superArea_le hk.1
  · split at h
    · rename_i hk
      simp only [Prod.mk.injEq] at h
      rw [h.2.2]; exact superArea_le hk
    · simp only [Prod.mk.injEq] at h
      rw [h.2.2]; omega
theorem Dk.ents_neg {D : Dk} {J : Jn} (hs : J.slot < 0) : ∀ k at_, D.ents J k at_ = []
  | 0, _ => rfl
  | k + 1, at_ => by
    unfold Dk.ents
    by_cases hat : at_ < D.ar
    · rw [if_pos hat, Jn.stands_iff hat, decide_eq_false (by omega), Bool.false_and, if_neg (by decide)]
      exact Dk.ents_neg hs k _
    · rw [if_neg hat]

section
variable {D : Dk} (hl : D.img.length = 128 * D.n) (h4 : 4 ≤ D.n) (hn : D.n ≤ 4096)
include hl h4 hn
section
variable {h0 : Heap} {F : Nat → Prop} {v : Value} {S : Rf} (x0 : IsRf h0 F v S) (hi : S.img = D.img)
def enInv (h0 : Heap) (N bx f : Nat) (v : Value) (D : Dk) (J : Jn) (k : Nat) (y : Nat → Value) (g : Heap) : Prop :=
  ∃ at_ cells done, y 1 = ptr bx 0 ∧ y 4 = ptr f 0 ∧ y 6 = i64n at_ ∧ Box6 g bx v ∧ Fld g f 2 (i64n J.area) ∧ Fld g f 1 (.int .u64 (J.gen : Int)) ∧ bx < N ∧ f < N ∧ N ≤ g.next ∧ g.n0 ≤ N ∧
    OwnC g N 2 (y 5) done.length cells ∧ EntsAt g N cells done ∧ Old h0 g ∧ h0.next ≤ N ∧ at_ ≤ D.ar ∧ D.ar ≤ at_ + k ∧ done ++ D.ents J k at_ = D.ents J D.ar 0 ∧ done.length ≤ at_
def enFin (h0 : Heap) (N : Nat) (D : Dk) (J : Jn) (ex : Ex) (y : Nat → Value) (g : Heap) : Prop :=
  ex = .exit 0 ∧ ∃ cells, OwnC g N 2 (y 5) (D.ents J D.ar 0).length cells ∧ EntsAt g N cells (D.ents J D.ar 0) ∧ Old h0 g
include x0 hi
theorem en_round {N bx f : Nat} {J : Jn} (ha : J.area ≤ 1) (hs : 0 ≤ J.slot) : ∀ k y g, enInv h0 N bx f v D J k y g → Rnd 48 (enInv h0 N bx f v D J) (enFin h0 N D J) k (t67l67_1111010 CD y g) := by
  rintro k y g ⟨at_, cells, done, i1, i4, i6, B6, F2, F1, hbx, hf, hN, hn0, own, E, hold, h0N, hle, hk, hents, hdl⟩
  have har : D.ar = (D.n - 2) / 2 := rfl
  obtain ⟨g1, e46, o1⟩ := r46 (x0.old hold) hi hl h4 hn
  have B61 := B6.keep o1 (fun h => h)
  have F21 := F2.keep o1 (fun h => h)
  have F11 := F1.keep o1 (fun h => h)
  unfold t67l67_1111010
  simp -implicitDefEqProofs only [i6, i1, B6.ld, e46, lss3, thenV_some, pu_some]
  by_cases hlt : at_ < D.ar
  · obtain ⟨q, rfl⟩ : ∃ q, k = q + 1 := ⟨k - 1, by omega⟩
    have hx0 : ∀ a b c : Value, extractA (.tuple #[a, b, c]) 0 = some a := fun _ _ _ => rfl
    have hx1 : ∀ a b c : Value, extractA (.tuple #[a, b, c]) 1 = some b := fun _ _ _ => rfl
    have hx2 : ∀ a b c : Value, extractA (.tuple #[a, b, c]) 2 = some c := fun _ _ _ => rfl
    have hents2 : D.ents J (q + 1) at_ = if J.stands D at_ then (at_, D.data J.area at_ (D.parts J.area at_)) :: D.ents J q (at_ + D.parts J.area at_) else D.ents J q (at_ + 1) := by
      show (if at_ < D.ar then _ else _) = _
      rw [if_pos hlt]
    have hst : D.at? J.area J.gen (at_ : Int) = J.stands D at_ := by
      rw [Jn.stands_iff hlt, decide_eq_true hs, Bool.true_and]
      unfold Dk.at?
      rw [decide_eq_true (show (0 : Int) ≤ (at_ : Int) by omega), decide_eq_true (show (at_ : Int) < (D.ar : Int) by omega), Int.toNat_natCast]; rfl
    have r := r76 hl h4 hn ((x0.old hold).old o1) hi (area := J.area) (gen := J.gen) (at_ := (at_ : Int)) ha
    rw [hents2] at hents
    rw [hst] at r
    rw [Int.toNat_natCast] at r
    have nx1 := o1.next
    rcases r with ⟨hs0, g2, e76, o2⟩ | ⟨hs1, w, g2, e76, o2, ob⟩
    · rw [hs0] at hents
      have e76 : CD 76 [v, i64n J.area, .int .u64 (J.gen : Int), i64n at_] g1 = some (.tuple #[.slice none 0 0, .int .i64 0, .bool false], g2) := e76
      have nx2 := o2.next
      simp -implicitDefEqProofs only [decide_eq_true hlt, B61.ld, i4, addP_ptr, Nat.zero_add, F21.ld, F11.ld, e76, hx0, hx1, hx2, pu_some, thenV_some, unA_not, Bool.not_false, add31 (show at_ + 1 ≤ 9223372036854775807 by omega)]
      have o12 := o1.trans o2
      refine Rnd.next q (by omega) ⟨at_ + 1, cells, done, i1, i4, rfl, B6.keep o12 (fun h => h), F2.keep o12 (fun h => h), F1.keep o12 (fun h => h), hbx, hf, by omega, by rw [o12.n0]; exact hn0, own.keep o12 (fun _ _ h => h), E.keep o12 (fun _ h => h.elim), hold.trans o12, h0N, by omega, by omega, hents, by omega⟩
    · rw [hs1, if_pos rfl] at hents
      have hpos : 1 ≤ D.parts J.area at_ ∧ at_ + D.parts J.area at_ ≤ D.ar := by
        rw [Jn.stands_iff hlt, Bool.and_eq_true] at hs1
        exact Dk.stands_pos hs1.2
      have e76 : CD 76 [v, i64n J.area, .int .u64 (J.gen : Int), i64n at_] g1 = some (.tuple #[w, i64n (D.parts J.area at_), .bool true], g2) := e76
      generalize hp : D.parts J.area at_ = p at *
      generalize hdat : D.data J.area at_ p = l at *
      obtain ⟨a, c, rfl, s1, s2, s3, s4⟩ := ob.bytes
      have hbl : bldR [(.int .i64 0), (.slice none 0 0)] [(0, 1, i64n at_), (1, 1, .slice a l.length c)] = some (.agg [i64n at_, .slice a l.length c].toArray) := rfl
      have hbs : bslR 2 (.agg #[(.int .i64 0), (.slice none 0 0)]) 1 [(0, .agg [i64n at_, .slice a l.length c].toArray)] g2 = some (.slice (some ⟨g2.next, 0, none⟩) 1 1, g2.alloc [i64n at_, .slice a l.length c]) := rfl
      have oA : Old g2 (g2.alloc [i64n at_, .slice a l.length c]) := Kept.alloc _ _ _
      have gA : (g2.alloc [i64n at_, .slice a l.length c]).get g2.next = some [i64n at_, .slice a l.length c] := by rw [Heap.get_alloc, if_pos rfl]
      have oo := (o1.trans o2).trans oA
      have ownA := own.keep oo (fun _ _ h => h)
      have EA := E.keep oo (fun _ h => h.elim)
      have holdA : Old h0 (g2.alloc [i64n at_, .slice a l.length c]) := hold.trans oo
      have sA := Old.bytes oA s1
      have nxo := oo.next
      have B6A := B6.keep oo (fun h => h)
      have F2A := F2.keep oo (fun h => h)
      have F1A := F1.keep oo (fun h => h)
      generalize hgA : g2.alloc [i64n at_, .slice a l.length c] = gA1 at *
      have hfA : firstA 2 1 (.slice (some ⟨g2.next, 0, none⟩) 1 1) gA1 = some [i64n at_, .slice a l.length c] := by
        simp only [firstA, gA]
        rfl
      obtain ⟨v', g4, f1, f2, f3, f4⟩ := append_own (by_ := 32) (x := .slice (some ⟨g2.next, 0, none⟩) 1 1) (m := 1) ownA (by rw [oo.n0]; exact hn0) (by omega) (by decide) rfl hfA rfl rfl rfl (by omega) (by omega)
      have pl : ∀ b, baseOf (y 5) = some b ∧ gA1.get b = some cells → Plain gA1 b := fun b hb => ⟨cells, hb.2, EA.plain⟩
      have s5 := f3.bytesP pl sA
      have E5 := EA.keep f3 pl
      have hbase : ∀ b, baseOf (y 5) = some b ∧ gA1.get b = some cells → N ≤ b := fun b hb => ownA.base hb.1
      have nx4 := f3.next
      simp -implicitDefEqProofs only [decide_eq_true hlt, B61.ld, i4, addP_ptr, Nat.zero_add, F21.ld, F11.ld, e76, hx0, hx1, hx2, pu_some, thenV_some, unA_not, Bool.not_true, hbl, hbs, f1, add3 (show at_ + p ≤ 9223372036854775807 by omega)]
      refine Rnd.next q (by omega) ⟨at_ + p, cells ++ [i64n at_, .slice a l.length c], done ++ [(at_, l)], i1, i4, rfl, B6A.keep f3 (fun hb => by have := hbase _ hb; omega), F2A.keep f3 (fun hb => by have := hbase _ hb; omega), F1A.keep f3 (fun hb => by have := hbase _ hb; omega), hbx, hf, by omega, by rw [f3.n0, oo.n0]; exact hn0, ?_, E5.snoc s5 s2 (fun y hy _ => by have := s3 y hy; omega), ?_, h0N, by omega, by omega, ?_, ?_⟩
      · rw [List.length_append]; exact f2
      · exact holdA.also f3 (fun c hc hb => by have := hbase c hb; omega)
      · rw [List.append_assoc]; exact hents
      · rw [List.length_append]
        show done.length + 1 ≤ _
        omega
  · simp -implicitDefEqProofs only [decide_eq_false hlt]
    rw [D.ents_end (by omega) k, List.append_nil] at hents
    refine Rnd.out 0 ⟨rfl, cells, ?_, ?_, hold.trans o1⟩
    · rw [← hents]; exact own.keep o1 (fun _ _ h => h)
    · rw [← hents]; exact E.keep o1 (fun _ h => h.elim)
set_option maxRecDepth 100000 in
/-- Entries. -/
theorem r67 (t : Int) : ∃ w cells h', CD 67 [v] h0 = some (w, h') ∧ OwnC h' h0.next 2 w (D.ents (D.openJ t) D.ar 0).length cells ∧ EntsAt h' h0.next cells (D.ents (D.openJ t) D.ar 0) ∧ Old h0 h' := by
  have x' := x0
  have har : D.ar = (D.n - 2) / 2 := rfl
  obtain ⟨a, c, g, rfl, b1, b2, b3, b4, _⟩ := rf_begin x0
  have hn0 := h0.n0_le_next
  have B6 : Box6 g h0.next (.agg (S.cells (.slice a S.img.length c)).toArray) := ⟨_, b2, rfl, rfl, cells_hole _ _ _ _⟩
  obtain ⟨ok, g1, e65, o1⟩ := r65 (x'.old b3) hi hl h4 hn t
  have ha := openJ_area D t
  generalize D.openJ t = J at *
  have e65 : CD 65 [.agg (S.cells (.slice a S.img.length c)).toArray] g = some (.tuple #[.int .i64 J.slot, .agg #[.bool ok, .int .u64 ((J.gen : Nat) : Int), i64n J.area]], g1) := e65
  have hx0 : ∀ a b : Value, extractA (.tuple #[a, b]) 0 = some a := fun _ _ => rfl
  have hx1 : ∀ a b : Value, extractA (.tuple #[a, b]) 1 = some b := fun _ _ => rfl
  have hnew : newC [(.bool false), (.int .u64 0), (.int .i64 0)] g1 = some (ptr g1.next 0, g1.alloc [(.bool false), (.int .u64 0), (.int .i64 0)]) := rfl
  have oz : Old g1 (g1.alloc [(.bool false), (.int .u64 0), (.int .i64 0)]) := Kept.alloc _ _ _
  have gz : (g1.alloc [(.bool false), (.int .u64 0), (.int .i64 0)]).get g1.next = some [(.bool false), (.int .u64 0), (.int .i64 0)] := by rw [Heap.get_alloc, if_pos rfl]
  have nz : (g1.alloc [(.bool false), (.int .u64 0), (.int .i64 0)]).next = g1.next + 1 := Heap.next_alloc ..
  generalize g1.alloc [(.bool false), (.int .u64 0), (.int .i64 0)] = q0 at *
  have o02 := (b3.trans o1).trans oz
  have nx1 := o1.next
  obtain ⟨u1, _, u3, u4⟩ := sm_st (n := 3) (k' := [.bool ok, .int .u64 ((J.gen : Nat) : Int), i64n J.area]) gz (by rw [o02.n0]; omega) rfl rfl rfl rfl
  have B61 := ((B6.keep o1 (fun h => h)).keep oz (fun h => h)).keep u4 (fun e => by omega)
  have F1 : Fld (q0.set g1.next [.bool ok, .int .u64 ((J.gen : Nat) : Int), i64n J.area]) g1.next 1 (.int .u64 (J.gen : Int)) := ⟨_, u3, rfl⟩
  have F2 : Fld (q0.set g1.next [.bool ok, .int .u64 ((J.gen : Nat) : Int), i64n J.area]) g1.next 2 (i64n J.area) := ⟨_, u3, rfl⟩
  have o03 : Old h0 (q0.set g1.next [.bool ok, .int .u64 ((J.gen : Nat) : Int), i64n J.area]) := o02.also u4 (fun c hc e => by omega)
  have nx3 := u4.next
  generalize q0.set g1.next [.bool ok, .int .u64 ((J.gen : Nat) : Int), i64n J.area] = q1 at *
  have hbs : bslR 2 (.agg #[(.int .i64 0), (.slice none 0 0)]) 0 [] q1 = some (.slice (some ⟨q1.next, 0, none⟩) 0 0, q1.alloc []) := rfl
  have oA : Old q1 (q1.alloc []) := Kept.alloc _ _ _
  have nA : (q1.alloc []).next = q1.next + 1 := Heap.next_alloc ..
  have hlss : bin Try.prog .lss 3 (.int .i64 J.slot) (.int .i64 0) = some (.bool (decide (J.slot < 0))) := bin_lss ..
  have key : ∀ o, t67 CD (.agg (S.cells (.slice a S.img.length c)).toArray) h0 = o → ∃ w cells h', o = some (w, h') ∧ OwnC h' h0.next 2 w (D.ents J D.ar 0).length cells ∧ EntsAt h' h0.next cells (D.ents J D.ar 0) ∧ Old h0 h' := by
    intro o ho
    subst ho
    unfold t67
    simp -implicitDefEqProofs only [b1, thenV_some, B6.ld, e65, hx0, hx1, pu_some, hnew, u1, hbs, hlss]
    by_cases hs : J.slot < 0
    · simp -implicitDefEqProofs only [decide_eq_true hs]
      refine ⟨_, [], _, rfl, ?_, ?_, o03.trans oA⟩
      · rw [D.ents_neg hs]; exact OwnC.empty _ (by omega)
      · rw [D.ents_neg hs]; exact EntsAt.nil _ _
    · simp -implicitDefEqProofs only [decide_eq_false hs]
      refine endL_fin (Q := fun (o : Out) => ∃ w cells h', o = some (w, h') ∧ OwnC h' h0.next 2 w (D.ents J D.ar 0).length cells ∧ EntsAt h' h0.next cells (D.ents J D.ar 0) ∧ Old h0 h')
        (loop_fin (t67l67_1111010_eq CD) (en_round hl h4 hn x' hi (N := q1.next) (bx := h0.next) (f := g1.next) (J := J) ha (by omega)) D.ar (by have : rounds = 18446744073709551616 := rfl; omega)
          ⟨0, [], [], rfl, rfl, rfl, B61.keep oA (fun h => h), F2.keep oA (fun h => h), F1.keep oA (fun h => h), by omega, by omega, by omega, by rw [oA.n0, o03.n0]; omega, OwnC.empty _ (Nat.le_refl _), EntsAt.nil _ _, o03.trans oA, by omega, by omega, by omega, rfl, Nat.le_refl _⟩) ?_
      rintro ex y g4 ⟨rfl, cells, own, E, hold⟩
      have hN : h0.next ≤ q1.next := by omega
      refine ⟨y 5, cells, g4, ?_, ?_, ?_, hold⟩
      · simp -implicitDefEqProofs only [endL_exit, b67_exit, t67k67_6_eq]
        unfold t67k67_6
        simp -implicitDefEqProofs only [thenV_some]
      · refine ⟨own.1, own.2.1, own.2.2.1, ?_⟩
        rcases own.2.2.2 with h | ⟨b, s, k1, k2, k3⟩
        · exact .inl h
        · exact .inr ⟨b, s, k1, by omega, k3⟩
      · refine ⟨E.1, fun i e he => ?_⟩
        obtain ⟨h1, a', n', c', h2, h3, h5, h6⟩ := E.2 i e he
        exact ⟨h1, a', n', c', h2, h3, h5, fun y hy hn => Nat.le_trans hN (h6 y hy hn)⟩
  obtain ⟨w, cells, h', e, r⟩ := key _ rfl
  exact ⟨w, cells, h', CD_body is67 rfl ((t67_eq _ _ _).trans e), r⟩
end
end
end Go.Proofs.Ytcmfgmhadeeieaa

namespace Go.Proofs.Ytcmfgmhadeeieaa
open Go Go.Abs

section
variable {D : Dk} (hl : D.img.length = 128 * D.n) (h4 : 4 ≤ D.n) (hn : D.n ≤ 4096)
include hl h4 hn
section
variable {h0 : Heap} {F : Nat → Prop} {v : Value} {S : Rf} (x0 : IsRf h0 F v S) (hi : S.img = D.img)
def glInv (h0 : Heap) (bx s : Nat) (v : Value) (D : Dk) (T : Jn) (k : Nat) (y : Nat → Value) (g : Heap) : Prop :=
  ∃ at_ J, y 1 = ptr bx 0 ∧ y 4 = i64n s ∧ y 6 = i64n at_ ∧ y 3 = .int .u64 ((Jn.known J : Nat) : Int) ∧ Box6 g bx v ∧ at_ + k = D.ar ∧ Old h0 g ∧ Jn.seeLogs D s k at_ J = T
def glFin (h0 : Heap) (bx s : Nat) (v : Value) (T : Jn) (ex : Ex) (y : Nat → Value) (g : Heap) : Prop :=
  ex = .exit 2 ∧ y 1 = ptr bx 0 ∧ y 4 = i64n s ∧ y 3 = .int .u64 ((Jn.known T : Nat) : Int) ∧ Box6 g bx v ∧ Old h0 g
include x0 hi
theorem gl_round {bx s : Nat} {T : Jn} (hs : s ≤ 1) : ∀ k y g, glInv h0 bx s v D T k y g → Rnd 46 (glInv h0 bx s v D T) (glFin h0 bx s v T) k (t66l66_110100100110 CD y g) := by
  rintro k y g ⟨at_, J, i1, i4, i6, i3, B6, hk, hold, htar⟩
  have har : D.ar = (D.n - 2) / 2 := rfl
  obtain ⟨g1, e46, o1⟩ := r46 (x0.old hold) hi hl h4 hn
  have B61 := B6.keep o1 (fun h => h)
  unfold t66l66_110100100110
  simp -implicitDefEqProofs only [i6, i1, B6.ld, e46, lss3, thenV_some, pu_some]
  by_cases hz : k = 0
  · subst hz
    simp -implicitDefEqProofs only [decide_eq_false (show ¬ at_ < D.ar by omega)]
    have hT : J = T := htar
    subst hT
    exact Rnd.out 2 ⟨rfl, i1, i4, i3, B61, hold.trans o1⟩
  · obtain ⟨q, rfl⟩ : ∃ q, k = q + 1 := ⟨k - 1, by omega⟩
    obtain ⟨a, n, c, q1, q2, e97, est, gq, o2, n1, n2, sb, fb⟩ := r97c hl h4 hn ((x0.old hold).old o1) hi hs (show at_ < D.ar by omega)
    have o12 := o1.trans o2
    obtain ⟨l0, lrest⟩ := logL_lds gq
    have htar2 : Jn.seeLogs D s q (at_ + 1) (J.seeLog D s at_) = T := htar
    simp -implicitDefEqProofs only [decide_eq_true (show at_ < D.ar by omega), B61.ld, i4, thenV_some, e97, new5, est, addP_ptr, Nat.zero_add, pu_some, l0, bOf_bool]
    cases hc : logOk at_ (D.jb s at_) with
    | false =>
      have hsee : J.seeLog D s at_ = J := by unfold Jn.seeLog; rw [hc]; rfl
      rw [hsee] at htar2
      simp -implicitDefEqProofs only [fs, guardK_false, thenV_some, Bool.false_eq_true, if_false, add31 (show at_ + 1 ≤ 9223372036854775807 by omega), pu_some]
      exact Rnd.next q (by omega) ⟨at_ + 1, J, i1, i4, rfl, i3, B6.keep o12 (fun h => h), by omega, hold.trans o12, htar2⟩
    | true =>
      have hsee : J.seeLog D s at_ = { J with known := max J.known (logGen (D.jb s at_)) } := by unfold Jn.seeLog; rw [hc]; rfl
      obtain ⟨l1, _, _, _⟩ := lrest hc
      rw [hsee] at htar2
      simp -implicitDefEqProofs only [beq_self_eq_true, guardK_true, thenV_some, if_true, pu_some, l1, i3, gtr58]
      by_cases hg : J.known < logGen (D.jb s at_)
      · simp -implicitDefEqProofs only [decide_eq_true hg, thenV_some, pu_some, addP_ptr, Nat.zero_add, l1, add31 (show at_ + 1 ≤ 9223372036854775807 by omega)]
        exact Rnd.next q (by omega) ⟨at_ + 1, _, i1, i4, rfl, by show Value.int .u64 _ = Value.int .u64 ((max J.known (logGen (D.jb s at_)) : Nat) : Int); rw [Nat.max_eq_right (by omega)], B6.keep o12 (fun h => h), by omega, hold.trans o12, htar2⟩
      · simp -implicitDefEqProofs only [decide_eq_false hg, thenV_some, pu_some, addP_ptr, Nat.zero_add, add31 (show at_ + 1 ≤ 9223372036854775807 by omega)]
        exact Rnd.next q (by omega) ⟨at_ + 1, _, i1, i4, rfl, by show y 3 = Value.int .u64 ((max J.known (logGen (D.jb s at_)) : Nat) : Int); rw [Nat.max_eq_left (by omega), i3], B6.keep o12 (fun h => h), by omega, hold.trans o12, htar2⟩

def grInv (h0 : Heap) (bx : Nat) (v : Value) (D : Dk) (t : Int) (k : Nat) (y : Nat → Value) (g : Heap) : Prop :=
  ∃ s J, y 1 = ptr bx 0 ∧ y 4 = i64n s ∧ y 3 = .int .u64 ((Jn.known J : Nat) : Int) ∧ Box6 g bx v ∧ s + k = 2 ∧ Old h0 g ∧ ((s = 0 ∧ J = D.jn0 t) ∨ (s = 1 ∧ J = (D.jn0 t).seeSlot D 0) ∨ (s = 2 ∧ J = D.openJ t))
def grFin (h0 : Heap) (D : Dk) (t : Int) (ex : Ex) (y : Nat → Value) (g : Heap) : Prop :=
  ex = .exit 0 ∧ y 3 = .int .u64 (((D.openJ t).known : Nat) : Int) ∧ Old h0 g
theorem gr_round {bx : Nat} (t : Int) : ∀ k y g, grInv h0 bx v D t k y g → Rnd 46 (grInv h0 bx v D t) (grFin h0 D t) k (t66l66_11010 CD y g) := by
  rintro k y g ⟨s, J, i1, i4, i3, B6, hk, hold, hcase⟩
  have har : D.ar = (D.n - 2) / 2 := rfl
  have hlt2 : bin Try.prog .lss 3 (i64n s) (.int .i64 2) = some (.bool (decide (s < 2))) := lss3 s 2
  unfold t66l66_11010
  simp -implicitDefEqProofs only [i4, hlt2, thenV_some, pu_some]
  by_cases hs : s < 2
  · obtain ⟨g1, e96, o1⟩ := r96 (x0.old hold) hi hl h4 hn hs
    have hnew : newC [(.bool false), (.int .u64 0), (.int .i64 0)] g1 = some (ptr g1.next 0, g1.alloc [(.bool false), (.int .u64 0), (.int .i64 0)]) := rfl
    have oz : Old g1 (g1.alloc [(.bool false), (.int .u64 0), (.int .i64 0)]) := Kept.alloc _ _ _
    have gz : (g1.alloc [(.bool false), (.int .u64 0), (.int .i64 0)]).get g1.next = some [(.bool false), (.int .u64 0), (.int .i64 0)] := by rw [Heap.get_alloc, if_pos rfl]
    have n0 : (g1.alloc [(.bool false), (.int .u64 0), (.int .i64 0)]).n0 ≤ g1.next := g1.n0_le_next
    generalize g1.alloc [(.bool false), (.int .u64 0), (.int .i64 0)] = q0 at *
    obtain ⟨u1, _, u3, u4⟩ := sm_st (n := 3) gz n0 rfl (superC_len (D.blk s)) (superC_one _) (superC_hole _)
    have nx1 := o1.next
    have o2 : Old g (q0.set g1.next (superC (D.blk s))) := (o1.trans oz).also u4 (fun c hc e => by omega)
    generalize q0.set g1.next (superC (D.blk s)) = q1 at *
    have B61 := B6.keep o2 (fun h => h)
    have hold1 := hold.trans o2
    have l0 : ld1 (ptr g1.next 0) q1 = some (.bool (superOk (D.blk s)), q1) := ld1_at u3 (by unfold superC; split <;> simp_all) rfl
    -- the loop over the logs
    have logs : ∀ (y' : Nat → Value) (K : Jn), y' 1 = ptr bx 0 → y' 4 = i64n s → y' 6 = i64n 0 → y' 3 = .int .u64 ((K.known : Nat) : Int) → K = J.seeSuper D s →
        Rnd 46 (grInv h0 bx v D t) (grFin h0 D t) k (endL (iter (codeA Try.prog CD (partOf Try.f66 [1, 1, 0, 1, 0, 0, 1, 0, 0, 1, 1, 0, 0])) rounds (mkF 46 y') q1) (fun e h => some (Ex.ret, e, h)) (b66_14 CD)) := by
      intro y' K j1 j4 j6 j3 hK
      refine endL_fin (Q := fun o => Rnd 46 (grInv h0 bx v D t) (grFin h0 D t) k o)
        (loop_fin (t66l66_110100100110_eq CD) (gl_round hl h4 hn x0 hi (bx := bx) (s := s) (T := Jn.seeLogs D s D.ar 0 K) (by omega)) D.ar (by have : rounds = 18446744073709551616 := rfl; omega)
          ⟨0, K, j1, j4, j6, j3, B61, by omega, hold1, rfl⟩) ?_
      rintro ex z g4 ⟨rfl, z1, z4, z3, Bz, hold4⟩
      simp -implicitDefEqProofs only [endL_exit, b66_exit2, t66k66_8_eq]
      unfold t66k66_8
      simp -implicitDefEqProofs only [thenV_some, z4, add31 (show s + 1 ≤ 9223372036854775807 by omega), pu_some]
      refine Rnd.next (k - 1) (by omega) ⟨s + 1, Jn.seeLogs D s D.ar 0 K, z1, rfl, z3, Bz, by omega, hold4, ?_⟩
      rw [hK]
      rcases hcase with ⟨rfl, rfl⟩ | ⟨rfl, rfl⟩ | ⟨rfl, _⟩
      · exact .inr (.inl ⟨rfl, rfl⟩)
      · exact .inr (.inr ⟨rfl, rfl⟩)
      · omega
    simp -implicitDefEqProofs only [decide_eq_true hs, i1, B6.ld, thenV_some, e96, hnew, u1, addP_ptr, Nat.zero_add, pu_some, l0, bOf_bool]
    have hJ : J.seeSuper D s = if superOk (D.blk s) = true then { J.takeSuper D s with known := max J.known (superGen (D.blk s)) } else J := rfl
    cases hc : superOk (D.blk s) with
    | false =>
      rw [hc, if_neg (by decide)] at hJ
      simp -implicitDefEqProofs only [fs, guardK_false, thenV_some, Bool.false_eq_true, if_false]
      exact logs _ J i1 i4 rfl i3 hJ.symm
    | true =>
      rw [hc, if_pos rfl] at hJ
      have l1 : ld1 (ptr g1.next 1) q1 = some (.int .u64 ((superGen (D.blk s) : Nat) : Int), q1) := ld1_at u3 (by unfold superC; rw [hc]; rfl) rfl
      simp -implicitDefEqProofs only [beq_self_eq_true, guardK_true, thenV_some, if_true, pu_some, l1, i3, gtr58]
      by_cases hg : J.known < superGen (D.blk s)
      · simp -implicitDefEqProofs only [decide_eq_true hg, thenV_some, pu_some, addP_ptr, Nat.zero_add, l1]
        exact logs _ { J.takeSuper D s with known := max J.known (superGen (D.blk s)) } i1 i4 rfl (by show Value.int .u64 _ = Value.int .u64 ((max J.known (superGen (D.blk s)) : Nat) : Int); rw [Nat.max_eq_right (by omega)]) hJ.symm
      · simp -implicitDefEqProofs only [decide_eq_false hg, thenV_some, pu_some, addP_ptr, Nat.zero_add]
        exact logs _ { J.takeSuper D s with known := max J.known (superGen (D.blk s)) } i1 i4 rfl (by show y 3 = Value.int .u64 ((max J.known (superGen (D.blk s)) : Nat) : Int); rw [Nat.max_eq_left (by omega), i3]) hJ.symm
  · simp -implicitDefEqProofs only [decide_eq_false hs]
    rcases hcase with ⟨rfl, _⟩ | ⟨rfl, _⟩ | ⟨rfl, rfl⟩
    · omega
    · omega
    · exact Rnd.out 0 ⟨rfl, i3, hold⟩
/-- Greatest. -/
theorem r66 (t : Int) : ∃ h', CD 66 [v] h0 = some (.int .u64 (((D.openJ t).known : Nat) : Int), h') ∧ Old h0 h' := by
  have x' := x0
  obtain ⟨a, c, g, rfl, b1, b2, b3, b4, _⟩ := rf_begin x0
  have B6 : Box6 g h0.next (.agg (S.cells (.slice a S.img.length c)).toArray) := ⟨_, b2, rfl, rfl, cells_hole _ _ _ _⟩
  have key : ∀ o, t66 CD (.agg (S.cells (.slice a S.img.length c)).toArray) h0 = o → ∃ h', o = some (.int .u64 (((D.openJ t).known : Nat) : Int), h') ∧ Old h0 h' := by
    intro o ho
    subst ho
    unfold t66
    simp -implicitDefEqProofs only [b1, thenV_some]
    refine endL_fin (Q := fun (o : Out) => ∃ h', o = some (.int .u64 (((D.openJ t).known : Nat) : Int), h') ∧ Old h0 h')
      (loop_fin (t66l66_11010_eq CD) (gr_round hl h4 hn x' hi (bx := h0.next) t) 2 (by have : rounds = 18446744073709551616 := rfl; omega) ⟨0, D.jn0 t, rfl, rfl, rfl, B6, rfl, b3, .inl ⟨rfl, rfl⟩⟩) ?_
    rintro ex y g4 ⟨rfl, y3, hold⟩
    refine ⟨g4, ?_, hold⟩
    simp -implicitDefEqProofs only [endL_exit, b66_exit, t66k66_2_eq]
    unfold t66k66_2
    simp -implicitDefEqProofs only [thenV_some, y3]
  obtain ⟨h', e, o⟩ := key _ rfl
  exact ⟨h', CD_body is66 rfl ((t66_eq _ _ _).trans e), o⟩
end
end
end Go.Proofs.Ytcmfgmhadeeieaa

namespace Go.Proofs.Ytcmfgmhadeeieaa
open Go Go.Abs

theorem is38 : IsFn Try.prog 38 Try.f38 := ⟨by kernel_rfl, by kernel_rfl, by kernel_rfl, by kernel_rfl⟩
theorem results38 : Try.f38.results.toList = [.cell 2 63, .cell 3 70, .tmp 4, .tmp 5] := by kernel_rfl
theorem ld70 (v : Value) (h : Heap) : ld Try.prog 70 v h = ldN 8 v h := by
  unfold ld
  rw [show aggT Try.prog 70 = some true by kernel_rfl, show sizeT Try.prog 70 = some 8 by kernel_rfl]
def zero8 : Blk := [(.int .i64 0), (.int .i64 0), (.int .u64 0), (.int .i64 0), (.int .u64 0), (.bool false), (.int .i64 0), (.bool false)]
/-- The cells of a journal of the reference. -/
def Jn.rc (J : Jn) : Blk := [.int .i64 J.turn, .int .i64 J.slot, .int .u64 (J.gen : Int), i64n J.area, .int .u64 (J.known : Int), .bool J.ready, i64n J.fin, .bool false]
theorem new8 (q : Heap) : newC [(.int .i64 0), (.int .i64 0), (.int .u64 0), (.int .i64 0), (.int .u64 0), (.bool false), (.int .i64 0), (.bool false)] q = some (ptr q.next 0, q.alloc zero8) := rfl
theorem new6 (q : Heap) : newC [(.slice none 0 0), (.bool false), (.bool false), (.int .i64 0), (.int .i64 0), (.int .i64 0)] q = some (ptr q.next 0, q.alloc zero6) := rfl
theorem res_c4 {rs : List ResultVar} {n k1 t1 m1 k2 t2 m2 p q : Nat} (hr : rs = [.cell k1 t1, .cell k2 t2, .tmp p, .tmp q]) (h1 : k1 < n) (h2 : k2 < n) (hp : p < n) (hq : q < n) (l1 : ∀ v h, ld Try.prog t1 v h = ldN m1 v h) (l2 : ∀ v h, ld Try.prog t2 v h = ldN m2 v h) (x : Nat → Value) {h : Heap} {v w : Value} (e1 : ldN m1 (x k1) h = some (v, h)) (e2 : ldN m2 (x k2) h = some (w, h)) :
    resultsA Try.prog rs (mkF n x) h = some (.tuple #[v, w, x p, x q], h) := by
  subst hr
  simp only [resultsA, List.mapM_cons, List.mapM_nil, resultA, mkF_at h1, mkF_at h2, mkF_at hp, mkF_at hq, l1, l2, e1, e2]
  rfl
theorem z6_plain {h : Heap} {b : Nat} (g : h.get b = some zero6) : Plain h b := ⟨_, g, by
  intro v hv
  simp only [zero6, List.mem_cons, List.not_mem_nil, or_false] at hv
  rcases hv with rfl | rfl | rfl | rfl | rfl | rfl <;> rfl⟩
theorem takeSuper_rest (D : Dk) (s : Nat) (J : Jn) : (J.takeSuper D s).turn = J.turn ∧ (J.takeSuper D s).ready = J.ready ∧ (J.takeSuper D s).fin = J.fin := by
  unfold Jn.takeSuper
  split <;> exact ⟨rfl, rfl, rfl⟩
theorem openJ_rest (D : Dk) (t : Int) : (D.openJ t).turn = t ∧ (D.openJ t).ready = false ∧ (D.openJ t).fin = 0 := by
  have h : (D.openJ t).un = _ := D.openJ_un t
  have h1 : (D.openJ t).turn = (D.openJ t).un.turn := rfl
  have h2 : (D.openJ t).ready = (D.openJ t).un.ready := rfl
  have h3 : (D.openJ t).fin = (D.openJ t).un.fin := rfl
  rw [h1, h2, h3, h]
  have a := takeSuper_rest D 0 (D.jn0 t)
  have b := takeSuper_rest D 1 (D.jn0 t)
  have c := takeSuper_rest D 1 ((D.jn0 t).takeSuper D 0)
  have z : (D.jn0 t).turn = t ∧ (D.jn0 t).ready = false ∧ (D.jn0 t).fin = 0 := ⟨rfl, rfl, rfl⟩
  split <;> split <;> simp only [a, b, c, z, and_self]
theorem veq_cells (S : Rf) (a : Option Addr) (n c : Nat) : veq (.agg (S.cells (.slice a n c)).toArray) (.agg (S.cells (.slice a n c)).toArray) = true := by simp [veq, veqL, Rf.cells]

section
variable {h : Heap} {F : Nat → Prop} {v : Value} {S : Rf} (x : IsRf h F v S)
include x
end
section
variable {D : Dk} (hl : D.img.length = 128 * D.n) (h4 : 4 ≤ D.n) (hn : D.n ≤ 4096)
variable {h : Heap} {F : Nat → Prop} {v : Value} {S : Rf} (x : IsRf h F v S)
include hl h4 hn x
set_option maxRecDepth 100000 in
/-- Open, of a disk that is on. -/
theorem r38 (hi : S.img = D.img) (hd : S.down = false) (ht : S.turn = D.turn) : ∃ v' w cells h', CD 38 [v] h = some (.tuple #[v', .agg D.jn.rc.toArray, w, .int .i64 0], h') ∧ IsRf h' F v' { S with turn := D.opened.turn } ∧
    OwnC h' h.next 2 w D.entries.length cells ∧ EntsAt h' h.next cells D.entries ∧ Old h h' := by
  have x' := x
  obtain ⟨a, c, g, rfl, b1, b2, b3, b4, b5, b6, b7, b8, b9, c1, c2, c3⟩ := rf_begin x
  have hn0 := h.n0_le_next
  have oE : Old (g.alloc zero6) ((g.alloc zero6).alloc zero8) := Kept.alloc _ _ _
  have g2 := Old.get oE b6
  have g3 : ((g.alloc zero6).alloc zero8).get (g.alloc zero6).next = some zero8 := by rw [Heap.get_alloc, if_pos rfl]
  have nE : ((g.alloc zero6).alloc zero8).next = (g.alloc zero6).next + 1 := Heap.next_alloc ..
  have hb1 := Old.get oE b8
  have oo := b7.trans oE
  have e8 := new8 (g.alloc zero6)
  rw [b9] at g3 e8 nE
  have n3 : ((g.alloc zero6).alloc zero8).n0 ≤ h.next := by rw [oo.n0]; exact hn0
  generalize (g.alloc zero6).alloc zero8 = q at *
  have l1 : ld1 (ptr h.next 1) q = some (.bool false, q) := ld1_at hb1 (by rw [← hd]; rfl) rfl
  have l5 : ld1 (ptr h.next 5) q = some (.int .i64 D.turn, q) := ld1_at hb1 (by rw [← ht]; rfl) rfl
  have hadd : bin Try.prog .add 3 (.int .i64 D.turn) (.int .i64 1) = some (.int .i64 D.opened.turn) := bin_add ..
  generalize hS' : ({ S with turn := D.opened.turn } : Rf) = S'
  have hc' : (S.cells (.slice a S.img.length c)).set 5 (.int .i64 D.opened.turn) = S'.cells (.slice a S.img.length c) := by subst hS'; rfl
  have hi' : S'.img = D.opened.img := by subst hS'; exact hi
  have hil : S'.img = S.img := by subst hS'; rfl
  have est : stN 1 (ptr h.next 5) (.int .i64 D.opened.turn) q = some (undef, q.set h.next (S'.cells (.slice a S.img.length c))) := by
    rw [← hc']; exact stN1_at hb1 (by show 5 < 6; decide) n3 rfl rfl
  obtain ⟨k1, k2⟩ := setPlain (k' := S'.cells (.slice a S.img.length c)) hb1 n3
  have oo1 := oo.also k1 (fun y hy e => by omega)
  have g21 := k1.getE g2 (by omega)
  have g31 := k1.getE g3 (by omega)
  have nk := k1.next
  generalize q.set h.next (S'.cells (.slice a S.img.length c)) = q1 at *
  have xS : ∀ {z : Heap}, Old h z → IsRf z F (.agg (S'.cells (.slice a S.img.length c)).toArray) S' := fun o => IsRf.put (S := S) c1 c2 c3 o hil
  have B6 : Box6 q1 h.next (.agg (S'.cells (.slice a S.img.length c)).toArray) := ⟨_, k2, rfl, rfl, cells_hole _ _ _ _⟩
  have F5 : Fld q1 h.next 5 (.int .i64 D.opened.turn) := ⟨_, k2, by subst hS'; rfl⟩
  have hlo : D.opened.img.length = 128 * D.opened.n := hl
  have h4o : 4 ≤ D.opened.n := h4
  have hno : D.opened.n ≤ 4096 := hn
  obtain ⟨ok, p0, e65, o2⟩ := r65 (xS oo1) hi' hlo h4o hno D.opened.turn
  have hnew : newC [(.bool false), (.int .u64 0), (.int .i64 0)] p0 = some (ptr p0.next 0, p0.alloc [(.bool false), (.int .u64 0), (.int .i64 0)]) := rfl
  have oz : Old p0 (p0.alloc [(.bool false), (.int .u64 0), (.int .i64 0)]) := Kept.alloc _ _ _
  have gz : (p0.alloc [(.bool false), (.int .u64 0), (.int .i64 0)]).get p0.next = some [(.bool false), (.int .u64 0), (.int .i64 0)] := by rw [Heap.get_alloc, if_pos rfl]
  have nz : (p0.alloc [(.bool false), (.int .u64 0), (.int .i64 0)]).next = p0.next + 1 := Heap.next_alloc ..
  generalize p0.alloc [(.bool false), (.int .u64 0), (.int .i64 0)] = p1 at *
  have nx2 := o2.next
  have o12 := o2.trans oz
  have ooz := oo1.trans o12
  change CD 65 _ _ = some (.tuple #[.int .i64 D.jn.slot, .agg #[.bool ok, .int .u64 ((D.jn.gen : Nat) : Int), i64n D.jn.area]], p0) at e65
  obtain ⟨u1, _, u3, u4⟩ := sm_st (n := 3) (k' := [.bool ok, .int .u64 ((D.jn.gen : Nat) : Int), i64n D.jn.area]) gz (by rw [ooz.n0]; omega) rfl rfl rfl rfl
  have oo2 : Old h (p1.set p0.next [.bool ok, .int .u64 ((D.jn.gen : Nat) : Int), i64n D.jn.area]) := ooz.also u4 (fun y hy e => by omega)
  have G1 : Fld (p1.set p0.next [.bool ok, .int .u64 ((D.jn.gen : Nat) : Int), i64n D.jn.area]) p0.next 1 (.int .u64 ((D.jn.gen : Nat) : Int)) := ⟨_, u3, rfl⟩
  have G2 : Fld (p1.set p0.next [.bool ok, .int .u64 ((D.jn.gen : Nat) : Int), i64n D.jn.area]) p0.next 2 (i64n D.jn.area) := ⟨_, u3, rfl⟩
  have B62 := (B6.keep o12 (fun h => h)).keep u4 (fun e => by omega)
  have F52 := (F5.keep o12 (fun h => h)).keep u4 (fun e => by omega)
  have g22 := u4.getE (Old.get o12 g21) (by omega)
  have g32 := u4.getE (Old.get o12 g31) (by omega)
  have nu := u4.next
  generalize p1.set p0.next [.bool ok, .int .u64 ((D.jn.gen : Nat) : Int), i64n D.jn.area] = p2 at *
  obtain ⟨p3, e66, o3⟩ := r66 hlo h4o hno (xS oo2) hi' D.opened.turn
  change CD 66 _ _ = some (.int .u64 ((D.jn.known : Nat) : Int), p3) at e66
  obtain ⟨w, cells, p4, e67, ow, E, o4⟩ := r67 hlo h4o hno (xS (oo2.trans o3)) hi' D.opened.turn
  change OwnC p4 p3.next 2 w D.entries.length cells at ow
  change EntsAt p4 p3.next cells D.entries at E
  have B63 := B62.keep o3 (fun h => h)
  have B64 := B63.keep o4 (fun h => h)
  have F53 := F52.keep o3 (fun h => h)
  have F54 := F53.keep o4 (fun h => h)
  have G13 := G1.keep o3 (fun h => h)
  have G14 := G13.keep o4 (fun h => h)
  have G23 := G2.keep o3 (fun h => h)
  have G24 := G23.keep o4 (fun h => h)
  have g24 := Old.get (o3.trans o4) g22
  have g34 := Old.get (o3.trans o4) g32
  have oo4 := (oo2.trans o3).trans o4
  have nx3 := o3.next
  have nx4 := o4.next
  obtain ⟨s1, _, s3, s4⟩ := sm_st (n := 6) g24 (by rw [oo4.n0]; omega) rfl (k' := S'.cells (.slice a S.img.length c)) rfl (cells_one _ _ _ _) (cells_hole _ _ _ _)
  have F55 := F54.keep s4 (fun e => by omega)
  have G15 := G14.keep s4 (fun e => by omega)
  have G25 := G24.keep s4 (fun e => by omega)
  have g35 := s4.getE g34 (by omega)
  have ow5 := ow.keep s4 (fun b hb e => by have := ow.base hb; omega)
  have E5 := E.keep s4 (fun b e => by subst e; exact z6_plain g24)
  have oo5 := oo4.also s4 (fun y hy e => by omega)
  generalize p4.set (h.next + 1) (S'.cells (.slice a S.img.length c)) = p5 at *
  obtain ⟨t1, t2, t3, t4⟩ := sm_st (n := 8) g35 (by rw [oo5.n0]; omega) rfl (k' := D.jn.rc) rfl rfl rfl
  have ow6 := ow5.keep t4 (fun b hb e => by have := ow5.base hb; omega)
  have E6 := E5.keep t4 (fun b e => by
    subst e
    refine ⟨_, g35, ?_⟩
    intro v hv
    simp only [zero8, List.mem_cons, List.not_mem_nil, or_false] at hv
    rcases hv with rfl | rfl | rfl | rfl | rfl | rfl | rfl | rfl <;> rfl)
  have oo6 := oo5.also t4 (fun y hy e => by omega)
  have s35 := ldN_whole (n := 6) (t4.getE s3 (by omega)) rfl (cells_hole _ _ _ _)
  have e66 : CD 66 [.agg (S'.cells (.slice a S.img.length c)).toArray] p2 = some (.int .u64 ((D.jn.known : Nat) : Int), p3) := e66
  have e67 : CD 67 [.agg (S'.cells (.slice a S.img.length c)).toArray] p3 = some (w, p4) := e67
  have e65 : CD 65 [.agg (S'.cells (.slice a S.img.length c)).toArray] q1 = some (.tuple #[.int .i64 D.jn.slot, .agg [.bool ok, .int .u64 ((D.jn.gen : Nat) : Int), i64n D.jn.area].toArray], p0) := e65
  have hx0 : ∀ a b : Value, extractA (.tuple #[a, b]) 0 = some a := fun _ _ => rfl
  have hx1 : ∀ a b : Value, extractA (.tuple #[a, b]) 1 = some b := fun _ _ => rfl
  have hbl : bldR [(.int .i64 0), (.int .i64 0), (.int .u64 0), (.int .i64 0), (.int .u64 0), (.bool false), (.int .i64 0), (.bool false)] [(0, 1, .int .i64 D.opened.turn), (1, 1, .int .i64 D.jn.slot), (2, 1, .int .u64 ((D.jn.gen : Nat) : Int)), (3, 1, i64n D.jn.area), (4, 1, .int .u64 ((D.jn.known : Nat) : Int))] = some (.agg D.jn.rc.toArray) := by
    obtain ⟨r1, r2, r3⟩ := openJ_rest D.opened D.opened.turn
    have : D.jn.rc = [.int .i64 D.opened.turn, .int .i64 D.jn.slot, .int .u64 ((D.jn.gen : Nat) : Int), i64n D.jn.area, .int .u64 ((D.jn.known : Nat) : Int), .bool false, .int .i64 0, .bool false] := by
      unfold Jn.rc
      rw [show D.jn.turn = D.opened.turn from r1, show D.jn.ready = false from r2, show D.jn.fin = 0 from r3]
      rfl
    rw [this]
    rfl
  have ck1 : ∀ z : Heap, chkR true (some (Value.agg (S'.cells (.slice a S.img.length c)).toArray, z)) (.agg (S'.cells (.slice a S.img.length c)).toArray) = true := fun z => chk_at rfl (veq_cells _ _ _ _)
  have ck2 : ∀ (k : IntKind) (n : Int) (z : Heap), chkR true (some (Value.int k n, z)) (.int k n) = true := fun k n z => chk_at rfl (by simp [veq])
  have ck3 : ∀ (n : Nat) (z : Heap), chkR true (some (i64n n, z)) (i64n n) = true := fun n z => ck2 _ _ _
  refine ⟨_, w, cells, _, CD_body is38 rfl ((t38_eq _ _ _).trans ?_), xS oo6, ?_, ?_, oo6⟩
  · unfold t38
    simp -implicitDefEqProofs only [b1, newC6 b5, e8, thenV_some, addP_ptr, Nat.zero_add, pu_some, l1, l5, hadd, est, B6.ld, e65, hx0, hx1, hnew, u1, B62.ld, F52.ld, G1.ld, G2.ld, e66, hbl, B63.ld, e67, s1, t1, B64.ld, F53.ld, F54.ld, F55.ld, G13.ld, G14.ld, G15.ld, G23.ld, G24.ld, G25.ld, ck1, ck2, ck3, Bool.and_true]
    exact res_c4 (rs := Try.f38.results.toList) (n := 34) results38 (by decide) (by decide) (by decide) (by decide) ld63 ld70 _ s35 t2
  · refine ⟨ow6.1, ow6.2.1, ow6.2.2.1, ?_⟩
    rcases ow6.2.2.2 with h | ⟨b, s, k1, k2, k3⟩
    · exact .inl h
    · exact .inr ⟨b, s, k1, by omega, k3⟩
  · refine ⟨E6.1, fun i e he => ?_⟩
    obtain ⟨h1, a', n', c', h2, h3, h5, h6⟩ := E6.2 i e he
    exact ⟨h1, a', n', c', h2, h3, h5, fun y hy hn => by have := h6 y hy hn; omega⟩
end
end Go.Proofs.Ytcmfgmhadeeieaa

namespace Go.Proofs.Ytcmfgmhadeeieaa
open Go Go.Abs

theorem is68 : IsFn Try.prog 68 Try.f68 := ⟨by kernel_rfl, by kernel_rfl, by kernel_rfl, by kernel_rfl⟩
theorem is73 : IsFn Try.prog 73 Try.f73 := ⟨by kernel_rfl, by kernel_rfl, by kernel_rfl, by kernel_rfl⟩
theorem is75 : IsFn Try.prog 75 Try.f75 := ⟨by kernel_rfl, by kernel_rfl, by kernel_rfl, by kernel_rfl⟩
theorem is47 : IsFn Try.prog 47 Try.f47 := ⟨by kernel_rfl, by kernel_rfl, by kernel_rfl, by kernel_rfl⟩
theorem is45 : IsFn Try.prog 45 Try.f45 := ⟨by kernel_rfl, by kernel_rfl, by kernel_rfl, by kernel_rfl⟩
theorem rc_one (J : Jn) : oneCells J.rc = true := rfl
theorem rc_hole (J : Jn) : Abs.noHoles J.rc = true := rfl

/-- A disk and a journal, boxed. -/
theorem dj_begin {h : Heap} {F : Nat → Prop} {v : Value} {S : Rf} (x : IsRf h F v S) {k8 : Blk} (ho : oneCells k8 = true) : ∃ a c g g2, v = .agg (S.cells (.slice a S.img.length c)).toArray ∧ box v h = some (ptr h.next 0, g) ∧ box (.agg k8.toArray) g = some (ptr (h.next + 1) 0, g2) ∧
    g2.get h.next = some (S.cells (.slice a S.img.length c)) ∧ g2.get (h.next + 1) = some k8 ∧ Old h g2 ∧ g2.next = h.next + 2 := by
  obtain ⟨a, c, g, hv, b1, b2, b3, b4, _⟩ := rf_begin x
  have oA : Old g (g.alloc k8) := Kept.alloc _ _ _
  refine ⟨a, c, g, g.alloc k8, hv, b1, by rw [box_at g k8 ho, b4], Old.get oA b2, by rw [Heap.get_alloc, if_pos b4.symm], b3.trans oA, by rw [Heap.next_alloc, b4]⟩

section
variable {h : Heap} {F : Nat → Prop} {v : Value} {S : Rf} (x : IsRf h F v S) {D : Dk} (q : Eqd D S) {J : Jn}
include x q
/-- Live. -/
theorem r68 (J : Jn) : ∃ h', CD 68 [v, .agg J.rc.toArray] h = some (.bool (J.live D), h') ∧ Old h h' := by
  obtain ⟨a, c, g, g2, rfl, b1, b2, b3, b4, b5, _⟩ := dj_begin x (rc_one J)
  have l1 : ld1 (ptr h.next 1) g2 = some (.bool D.down, g2) := ld1_at b3 (by rw [← q.down]; rfl) rfl
  have l5 : ld1 (ptr h.next 5) g2 = some (.int .i64 D.turn, g2) := ld1_at b3 (by rw [← q.turn]; rfl) rfl
  have m7 : ld1 (ptr (h.next + 1) 7) g2 = some (.bool false, g2) := ld1_at b4 rfl rfl
  have m0 : ld1 (ptr (h.next + 1) 0) g2 = some (.int .i64 J.turn, g2) := ld1_at b4 rfl rfl
  have he : bin Try.prog .eql 3 (.int .i64 D.turn) (.int .i64 J.turn) = some (.bool (D.turn == J.turn)) := bin_eql ..
  refine ⟨g2, CD_body is68 rfl ((t68_eq _ _ _ _).trans ?_), b5⟩
  unfold t68 Jn.live
  simp -implicitDefEqProofs only [b1, b2, thenV_some, addP_ptr, Nat.zero_add, pu_some, l1, unA_not, bOf_bool]
  cases D.down with
  | true => simp -implicitDefEqProofs only [Bool.not_true, fs, guardK_false, thenV_some, bOf_bool, Bool.false_eq_true, if_false, Bool.false_and]
  | false => simp -implicitDefEqProofs only [Bool.not_false, beq_self_eq_true, guardK_true, thenV_some, addP_ptr, Nat.zero_add, pu_some, m7, unA_not, if_true, bOf_bool, l5, m0, he, Bool.true_and]
section
variable (hl : D.img.length = 128 * D.n) (h4 : 4 ≤ D.n) (hn : D.n ≤ 4096)
include hl h4 hn
/-- Free. -/
theorem r73 (hf : J.ready = true → J.fin ≤ D.ar) : ∃ h', CD 73 [v, .agg J.rc.toArray] h = some (i64n (J.free D), h') ∧ Old h h' := by
  have x' := x
  obtain ⟨a, c, g, g2, rfl, b1, b2, b3, b4, b5, _⟩ := dj_begin x (rc_one J)
  have har : D.ar = (D.n - 2) / 2 := rfl
  obtain ⟨g3, e68, o3⟩ := r68 (x'.old b5) q J
  have l6 := rf_ld b3 rfl (cells_hole _ _ _ _)
  have l8 := ldN_whole (n := 8) b4 rfl (rc_hole J)
  have b33 := Old.get o3 b3
  have b43 := Old.get o3 b4
  have m5 : ld1 (ptr (h.next + 1) 5) g3 = some (.bool J.ready, g3) := ld1_at b43 rfl rfl
  obtain ⟨g4, e46, o4⟩ := r46 ((x'.old b5).old o3) q.img hl h4 hn
  have l63 := rf_ld b33 rfl (cells_hole _ _ _ _)
  have m6 : ld1 (ptr (h.next + 1) 6) g4 = some (i64n J.fin, g4) := ld1_at (Old.get o4 b43) rfl rfl
  have m63 : ld1 (ptr (h.next + 1) 6) g3 = some (i64n J.fin, g3) := ld1_at b43 rfl rfl
  have ck : chkR true (some (i64n J.fin, g3)) (i64n J.fin) = true := chk_at rfl (by simp [i64n, veq])
  have key : ∃ h', t73 CD (.agg (S.cells (.slice a S.img.length c)).toArray) (.agg J.rc.toArray) h = some (i64n (J.free D), h') ∧ Old h h' := by
    unfold t73 Jn.free
    simp -implicitDefEqProofs only [b1, b2, thenV_some, l6, l8, e68, unA_not, pu_some, bOf_bool]
    cases J.live D with
    | false => 
      simp -implicitDefEqProofs only [Bool.not_false, sf, guardK_false, thenV_some, if_true, Bool.false_and, Bool.false_eq_true, if_false]
      exact ⟨g3, rfl, b5.trans o3⟩
    | true =>
      simp -implicitDefEqProofs only [Bool.not_true, beq_self_eq_true, guardK_true, thenV_some, addP_ptr, Nat.zero_add, pu_some, m5, unA_not, Bool.false_eq_true, if_false, Bool.true_and]
      cases hr : J.ready with
      | false => exact ⟨g3, rfl, b5.trans o3⟩
      | true =>
        simp -implicitDefEqProofs only [Bool.not_true, thenV_some, l63, e46, addP_ptr, Nat.zero_add, pu_some, m6, m63, sub3 (hf hr) (show D.ar ≤ 9223372036854775807 by omega), ck, Bool.and_true, if_true]
        exact ⟨g4, rfl, (b5.trans o3).trans o4⟩
  obtain ⟨h', e, o⟩ := key
  exact ⟨h', CD_body is73 rfl ((t73_eq _ _ _ _).trans e), o⟩
/-- Base. -/
theorem r75 (ha : J.area ≤ 1) : ∃ h', CD 75 [v, .agg J.rc.toArray] h = some (i64n (J.base D), h') ∧ Old h h' := by
  have x' := x
  obtain ⟨a, c, g, g2, rfl, b1, b2, b3, b4, b5, _⟩ := dj_begin x (rc_one J)
  have har : D.ar = (D.n - 2) / 2 := rfl
  have hm : J.area * D.ar ≤ D.ar := by
    have := Nat.mul_le_mul_right D.ar ha
    omega
  obtain ⟨g3, e68, o3⟩ := r68 (x'.old b5) q J
  have l6 := rf_ld b3 rfl (cells_hole _ _ _ _)
  have l8 := ldN_whole (n := 8) b4 rfl (rc_hole J)
  have b33 := Old.get o3 b3
  have b43 := Old.get o3 b4
  have m1 : ld1 (ptr (h.next + 1) 1) g3 = some (.int .i64 J.slot, g3) := ld1_at b43 rfl rfl
  obtain ⟨g4, e46, o4⟩ := r46 ((x'.old b5).old o3) q.img hl h4 hn
  have l63 := rf_ld b33 rfl (cells_hole _ _ _ _)
  have m3 : ld1 (ptr (h.next + 1) 3) g3 = some (i64n J.area, g3) := ld1_at b43 rfl rfl
  have m34 : ld1 (ptr (h.next + 1) 3) g4 = some (i64n J.area, g4) := ld1_at (Old.get o4 b43) rfl rfl
  have hlss : bin Try.prog .lss 3 (.int .i64 J.slot) (.int .i64 0) = some (.bool (decide (J.slot < 0))) := bin_lss ..
  have h21 : bin Try.prog .add 3 (.int .i64 2) (i64n (J.area * D.ar)) = some (i64n (2 + J.area * D.ar)) := add3 (a := 2) (by omega)
  have ck : chkR true (some (i64n J.area, g4)) (i64n J.area) = true := chk_at rfl (by simp [i64n, veq])
  have key : ∃ h', t75 CD (.agg (S.cells (.slice a S.img.length c)).toArray) (.agg J.rc.toArray) h = some (i64n (J.base D), h') ∧ Old h h' := by
    unfold t75 Jn.base
    simp -implicitDefEqProofs only [b1, b2, thenV_some, l6, l8, e68, unA_not, pu_some, bOf_bool]
    cases J.live D with
    | false => 
      simp -implicitDefEqProofs only [Bool.not_false, sf, guardK_false, thenV_some, if_true, Bool.false_and, Bool.false_eq_true, if_false]
      exact ⟨g3, rfl, b5.trans o3⟩
    | true =>
      simp -implicitDefEqProofs only [Bool.not_true, beq_self_eq_true, guardK_true, thenV_some, addP_ptr, Nat.zero_add, pu_some, m1, hlss, Bool.false_eq_true, if_false, Bool.true_and]
      by_cases c1 : J.slot < 0
      · simp -implicitDefEqProofs only [decide_eq_true c1, decide_eq_false (show ¬ 0 ≤ J.slot by omega), Bool.false_eq_true, if_false]
        exact ⟨g3, rfl, b5.trans o3⟩
      · simp -implicitDefEqProofs only [decide_eq_false c1, decide_eq_true (show 0 ≤ J.slot by omega), if_true, thenV_some, l63, e46, addP_ptr, Nat.zero_add, pu_some, m3, m34, mul3 (show J.area * D.ar ≤ 9223372036854775807 by omega), h21, ck, Bool.and_true]
        exact ⟨g4, rfl, (b5.trans o3).trans o4⟩
  obtain ⟨h', e, o⟩ := key
  exact ⟨h', CD_body is75 rfl ((t75_eq _ _ _ _).trans e), o⟩
/-- What ReadAt answers. -/
def Jn.rd (J : Jn) (D : Dk) (at_ : Int) : Int := if J.live D then (if J.stands D at_ then 0 else 6) else 9
/-- ReadAt. -/
theorem r47 (ha : J.area ≤ 1) (at_ : Int) : ∃ w h', CD 47 [v, .agg J.rc.toArray, .int .i64 at_] h = some (.tuple #[w, .int .i64 (J.rd D at_)], h') ∧ Old h h' ∧ OwnB h' h.next w (if J.rd D at_ = 0 then D.data J.area at_.toNat (D.parts J.area at_.toNat) else []) := by
  have x' := x
  obtain ⟨a, c, g, g2, rfl, b1, b2, b3, b4, b5, b6⟩ := dj_begin x (rc_one J)
  obtain ⟨g3, e68, o3⟩ := r68 (x'.old b5) q J
  have l6 := rf_ld b3 rfl (cells_hole _ _ _ _)
  have l8 := ldN_whole (n := 8) b4 rfl (rc_hole J)
  have b33 := Old.get o3 b3
  have b43 := Old.get o3 b4
  have m7 : ld1 (ptr (h.next + 1) 7) g2 = some (.bool false, g2) := ld1_at b4 rfl rfl
  have m1 : ld1 (ptr (h.next + 1) 1) g3 = some (.int .i64 J.slot, g3) := ld1_at b43 rfl rfl
  have m2 : ld1 (ptr (h.next + 1) 2) g3 = some (.int .u64 (J.gen : Int), g3) := ld1_at b43 rfl rfl
  have m3 : ld1 (ptr (h.next + 1) 3) g3 = some (i64n J.area, g3) := ld1_at b43 rfl rfl
  have l63 := rf_ld b33 rfl (cells_hole _ _ _ _)
  have hlss : bin Try.prog .lss 3 (.int .i64 J.slot) (.int .i64 0) = some (.bool (decide (J.slot < 0))) := bin_lss ..
  have r := r76 hl h4 hn ((x'.old b5).old o3) q.img (area := J.area) (gen := J.gen) (at_ := at_) ha
  have hx0 : ∀ a b c : Value, extractA (.tuple #[a, b, c]) 0 = some a := fun _ _ _ => rfl
  have hx1 : ∀ a b c : Value, extractA (.tuple #[a, b, c]) 1 = some b := fun _ _ _ => rfl
  have hx2 : ∀ a b c : Value, extractA (.tuple #[a, b, c]) 2 = some c := fun _ _ _ => rfl
  have nil : ∀ z : Heap, OwnB z h.next (.slice none 0 0) [] := fun z => OwnB.nil _ _
  have key : ∃ w h', t47 CD (.agg (S.cells (.slice a S.img.length c)).toArray) (.agg J.rc.toArray) (.int .i64 at_) h = some (.tuple #[w, .int .i64 (J.rd D at_)], h') ∧ Old h h' ∧ OwnB h' h.next w (if J.rd D at_ = 0 then D.data J.area at_.toNat (D.parts J.area at_.toNat) else []) := by
    unfold t47 Jn.rd
    simp -implicitDefEqProofs only [b1, b2, thenV_some, addP_ptr, Nat.zero_add, pu_some, m7, l6, l8, e68, unA_not]
    cases J.live D with
    | false =>
      exact ⟨_, g3, rfl, b5.trans o3, nil _⟩
    | true =>
      simp -implicitDefEqProofs only [Bool.not_true, if_true, addP_ptr, Nat.zero_add, pu_some, thenV_some, m1, hlss]
      by_cases c1 : J.slot < 0
      · have hs : J.stands D at_ = false := by unfold Jn.stands; rw [decide_eq_false (by omega)]; rfl
        simp -implicitDefEqProofs only [decide_eq_true c1, hs, Bool.false_eq_true, if_false]
        exact ⟨_, g3, rfl, b5.trans o3, nil _⟩
      · have hs : J.stands D at_ = D.at? J.area J.gen at_ := by unfold Jn.stands Dk.at?; rw [decide_eq_true (by omega), Bool.true_and]
        rw [hs]
        rcases r with ⟨k1, h', k2, k3⟩ | ⟨k1, w, h', k2, k3, k4⟩
        · simp -implicitDefEqProofs only [decide_eq_false c1, thenV_some, l63, addP_ptr, Nat.zero_add, pu_some, m2, m3, k2, hx0, hx1, hx2, unA_not, Bool.not_false, k1, Bool.false_eq_true, if_false]
          exact ⟨_, h', rfl, (b5.trans o3).trans k3, nil _⟩
        · simp -implicitDefEqProofs only [decide_eq_false c1, thenV_some, l63, addP_ptr, Nat.zero_add, pu_some, m2, m3, k2, hx0, hx1, hx2, unA_not, Bool.not_true, k1, if_true]
          refine ⟨w, h', rfl, (b5.trans o3).trans k3, ⟨k4.own.1, k4.own.2.1, k4.own.2.2.1, ?_⟩, k4.byte⟩
          have := o3.next
          rcases k4.own.2.2.2 with h | ⟨b, s, j1, j2, j3⟩
          · exact .inl h
          · exact .inr ⟨b, s, j1, by omega, j3⟩
  obtain ⟨w, h', e, o⟩ := key
  exact ⟨w, h', CD_body is47 rfl ((t47_eq _ _ _ _ _).trans e), o⟩
/-- The journal agrees with the reference's. -/
theorem r45 {d j : Nat} (xd : IsDk h d D) (xj : IsJn h j d J) (hf : J.ready = true → J.fin ≤ D.ar) : ∃ h', CD 45 [.agg (ptr j 0 :: J.rc).toArray, v] h = some (.bool true, h') ∧ Old h h' := by
  have x' := x
  have oP : Old h (h.alloc (ptr j 0 :: J.rc)) := Kept.alloc _ _ _
  have gP : (h.alloc (ptr j 0 :: J.rc)).get h.next = some (ptr j 0 :: J.rc) := by rw [Heap.get_alloc, if_pos rfl]
  have bP := box_at h (ptr j 0 :: J.rc) rfl
  have nP : (h.alloc (ptr j 0 :: J.rc)).next = h.next + 1 := Heap.next_alloc ..
  generalize h.alloc (ptr j 0 :: J.rc) = q0 at *
  obtain ⟨a, c, g, rfl, b1, b2, b3, b4, _⟩ := rf_begin (x.old oP)
  rw [nP] at b1 b2
  have oo := oP.trans b3
  have gP1 := Old.get b3 gP
  have l6 := rf_ld b2 rfl (cells_hole _ _ _ _)
  have l8 : ∀ {z : Heap}, z.get h.next = some (ptr j 0 :: J.rc) → ldN 8 (ptr h.next 1) z = some (.agg J.rc.toArray, z) := fun e => ldN_at (n := 8) (o := 1) e (by show 1 + 8 ≤ 9; omega) rfl
  have m0 : ∀ {z : Heap}, z.get h.next = some (ptr j 0 :: J.rc) → ld1 (ptr h.next 0) z = some (ptr j 0, z) := fun e => ld1_at e rfl rfl
  have m3 : ∀ {z : Heap}, z.get h.next = some (ptr j 0 :: J.rc) → ld1 (ptr h.next 3) z = some (.int .u64 (J.gen : Int), z) := fun e => ld1_at e rfl rfl
  obtain ⟨g1, e68, o1⟩ := r68 (x'.old oo) q J
  have o01 := oo.trans o1
  have P1 := Old.get o1 gP1
  have B1 := Old.get o1 b2
  have xd1 := Old.dk o01 xd
  have xj1 := xj.keep o01 (fun h => h)
  have h2 : 2 ≤ D.n := by omega
  obtain ⟨g2, e46, o2⟩ := r46 (x'.old o01) q.img hl h4 hn
  have o02 := o01.trans o2
  have P2 := Old.get o2 P1
  have B2 := Old.get o2 B1
  have xd2 := Old.dk o02 xd
  have xj2 := xj.keep o02 (fun h => h)
  obtain ⟨g3, e73, o3⟩ := r73 (x'.old o02) q hl h4 hn hf
  have o03 := o02.trans o3
  have P3 := Old.get o3 P2
  have B3 := Old.get o3 B2
  have xd3 := Old.dk o03 xd
  have xj3 := xj.keep o03 (fun h => h)
  obtain ⟨g4, e75, o4⟩ := r75 (x'.old o03) q hl h4 hn xj.area
  have o04 := o03.trans o4
  have e34 := r34 xd1 xj1
  have e22 := r22 xd1 xj1 h2
  have e26 := r26 xd1 xj1 h2 hf
  have e74 := r74 xd1 xj1 h2
  have e26b := r26 xd2 xj2 h2 hf
  have e74b := r74 xd3 xj3 h2
  have q58 : ∀ a b : Nat, bin Try.prog .eql 58 (.int .u64 (a : Int)) (.int .u64 (b : Int)) = some (.bool (a == b)) := fun a b => by rw [bin_eql, int_beq]
  have q580 : bin Try.prog .eql 58 (.int .u64 ((0 : Nat) : Int)) (.int .u64 0) = some (.bool true) := q58 0 0
  have q30 : bin Try.prog .eql 3 (i64n 0) (.int .i64 0) = some (.bool true) := eql3 0 0
  have ck6 : ∀ z : Heap, chkR true (some (Value.agg (S.cells (.slice a S.img.length c)).toArray, z)) (.agg (S.cells (.slice a S.img.length c)).toArray) = true := fun z => chk_at rfl (veq_cells _ _ _ _)
  have ck8 : ∀ z : Heap, chkR true (some (Value.agg J.rc.toArray, z)) (.agg J.rc.toArray) = true := fun z => chk_at rfl (by simp [veq, veqL, Jn.rc, i64n])
  have ck1 : ∀ z : Heap, chkR true (some (Value.int .u64 (J.gen : Int), z)) (.int .u64 (J.gen : Int)) = true := fun z => chk_at rfl (by simp [veq])
  have key : ∃ h', t45 CD (.agg (ptr j 0 :: J.rc).toArray) (.agg (S.cells (.slice a S.img.length c)).toArray) h = some (.bool true, h') ∧ Old h h' := by
    unfold t45
    cases hL : J.live D with
    | false =>
      rw [hL] at e68 e34 e22
      have hF : J.free D = 0 := by unfold Jn.free; rw [hL]; rfl
      have hB : J.base D = 0 := by unfold Jn.base; rw [hL]; rfl
      rw [hF] at e26
      rw [hB] at e74
      simp -implicitDefEqProofs only [Bool.false_eq_true, if_false] at e34 e22
      simp -implicitDefEqProofs only [bP, b1, thenV_some, l6, addP_ptr, Nat.zero_add, pu_some, l8 gP1, e68, unA_not, Bool.not_false, m0 P1, e34, q580, bOf_bool, beq_self_eq_true, guardK_true, e22, q30, if_true, e26, e74]
      exact ⟨g1, rfl, o01⟩
    | true =>
      rw [hL] at e68 e34 e22
      simp -implicitDefEqProofs only [if_true] at e34 e22
      simp -implicitDefEqProofs only [bP, b1, thenV_some, l6, addP_ptr, Nat.zero_add, pu_some, l8 gP1, e68, unA_not, Bool.not_true, m0 P1, e34, m3 P1, q58, bOf_bool, beq_self_eq_true, guardK_true, e22, rf_ld B1 rfl (cells_hole _ _ _ _), e46, eql3, if_true, m0 P2, e26b, rf_ld B2 rfl (cells_hole _ _ _ _), l8 P2, e73, m0 P3, e74b, rf_ld B3 rfl (cells_hole _ _ _ _), l8 P3, e75, ck6, ck8, ck1, Bool.and_true]
      exact ⟨g4, rfl, o04⟩
  obtain ⟨h', e, o⟩ := key
  exact ⟨h', CD_body is45 rfl ((t45_eq _ _ _ _).trans e), o⟩
end
end
end Go.Proofs.Ytcmfgmhadeeieaa

namespace Go.Proofs.Ytcmfgmhadeeieaa
open Go Go.Abs

theorem is44 : IsFn Try.prog 44 Try.f44 := ⟨by kernel_rfl, by kernel_rfl, by kernel_rfl, by kernel_rfl⟩
theorem is37 : IsFn Try.prog 37 Try.f37 := ⟨by kernel_rfl, by kernel_rfl, by kernel_rfl, by kernel_rfl⟩
theorem is43 : IsFn Try.prog 43 Try.f43 := ⟨by kernel_rfl, by kernel_rfl, by kernel_rfl, by kernel_rfl⟩
theorem results37 : Try.f37.results.toList = [.cell 2 63, .tmp 3] := by kernel_rfl
theorem b44_exit (C : CallF) (e : Env) (h : Heap) : b44_6 C 0 e h = k44_4 C e h := rfl
theorem b43_exit (C : CallF) (e : Env) (h : Heap) : b43_10 C 0 e h = k43_8 C e h := rfl

theorem str_same (l : List Nat) : (!((strOf l).toList == (strOf l).toList)) = false := by simp
theorem OwnC.at2 {h : Heap} {N : Nat} {v : Value} {len : Nat} {cells : List Value} (o : OwnC h N 2 v len cells) {i : Nat} (hi : i < len) : ∃ b, idxS 2 v (i64n i) = some (ptr b (i * 2)) ∧ h.get b = some cells := by
  obtain ⟨_, _, _, ⟨rfl, h4⟩ | ⟨b, s, rfl, _, ⟨_, h4⟩ | ⟨rfl, h5⟩⟩⟩ := o
  · omega
  · omega
  · refine ⟨b, ?_, h5⟩
    unfold idxS
    simp only [i64n]
    rw [if_pos (by omega), Int.toNat_natCast, Nat.zero_add]
theorem OwnC.lenL {h : Heap} {N size : Nat} {v : Value} {len : Nat} {cells : List Value} (o : OwnC h N size v len cells) : lenL v = some (i64n len) := by
  obtain ⟨_, _, _, ⟨rfl, h4⟩ | ⟨b, s, rfl, _⟩⟩ := o
  · subst h4; rfl
  · rfl
/-- SameEntries, of lists that are the same. -/
theorem r44 {h : Heap} {N M : Nat} {v w : Value} {c1 c2 : List Value} {ents : List (Nat × List Nat)} (o1 : OwnC h N 2 v ents.length c1) (E1 : EntsAt h N c1 ents) (o2 : OwnC h M 2 w ents.length c2) (E2 : EntsAt h M c2 ents) (hlen : ents.length ≤ 100000) :
    CD 44 [v, w] h = some (.bool true, h) := by
  refine CD_body is44 rfl ((t44_eq _ _ _ _).trans ?_)
  unfold t44
  have hb : (ents.length == ents.length) = true := beq_self_eq_true _
  simp -implicitDefEqProofs only [thenV_some, o1.lenL, o2.lenL, pu_some, bin3n, hb, Bool.not_true]
  refine endL_fin (n := 43) (fin := fun ex _ g => ex = .exit 0 ∧ g = h) (Q := fun o : Out => o = some (Value.bool true, h))
    (loop_fin (t44l44_11010_eq CD) (Inv := fun k y g => ∃ i, i + k = ents.length ∧ y 5 = i64n i ∧ y 0 = v ∧ y 1 = w ∧ g = h) ?_ ents.length (by have : rounds = 18446744073709551616 := rfl; omega) ⟨0, Nat.zero_add _, rfl, rfl, rfl, rfl⟩) ?_
  · rintro k y g ⟨i, hk, y5, y0, y1, rfl⟩
    unfold t44l44_11010
    simp -implicitDefEqProofs only [y5, y0, o1.lenL, thenV_some, pu_some, lss3]
    by_cases hi : i < ents.length
    · obtain ⟨b, i1, g1⟩ := o1.at2 hi
      obtain ⟨b', i2, g2⟩ := o2.at2 hi
      have he : ents[i]? = some ents[i] := List.getElem?_eq_getElem hi
      obtain ⟨p1, a, n, c, p2, p3, _, _⟩ := E1.2 i _ he
      obtain ⟨q1, a', n', c', q2, q3, _, _⟩ := E2.2 i _ he
      rw [Nat.mul_comm] at p1 p2 q1 q2
      generalize ents[i] = e at *
      have l1 : ld1 (ptr b (i * 2)) g = some (i64n e.1, g) := ld1_at g1 p1 rfl
      have l2 : ld1 (ptr b (i * 2 + 1)) g = some (.slice a n c, g) := ld1_at g1 p2 rfl
      have l3 : ld1 (ptr b' (i * 2)) g = some (i64n e.1, g) := ld1_at g2 q1 rfl
      have l4 : ld1 (ptr b' (i * 2 + 1)) g = some (.slice a' n' c', g) := ld1_at g2 q2 rfl
      have he1 : (e.1 == e.1) = true := beq_self_eq_true _
      simp -implicitDefEqProofs only [decide_eq_true hi, i1, i2, y1, addP_ptr, Nat.add_zero, l1, l2, l3, l4, thenV_some, pu_some, bin3n, he1, Bool.not_true, bOf_bool, beq_self_eq_true, guardK_true, cvBS_at p3, cvBS_at q3, bin_str_neq, str_same, Bool.false_eq_true, if_false, add31 (show i + 1 ≤ 9223372036854775807 by omega)]
      exact Rnd.next (k - 1) (by omega) ⟨i + 1, by omega, rfl, y0, y1, rfl⟩
    · simp -implicitDefEqProofs only [decide_eq_false hi]
      exact Rnd.out 0 ⟨rfl, rfl⟩
  · rintro ex z g ⟨rfl, rfl⟩
    simp -implicitDefEqProofs only [endL_exit, b44_exit, t44k44_4_eq]
    unfold t44k44_4
    rw [thenV_some]

theorem rem128 (n : Nat) (h : n ≤ 100000000) : bin Try.prog .rem 3 (i64n n) (.int .i64 128) = some (i64n (n % 128)) := by
  unfold i64n
  rw [bin_rem _ _ _ _ _ (by decide)]
  have : ((n : Nat) : Int).tmod 128 = ((n % 128 : Nat) : Int) := by rw [Int.tmod_eq_emod_of_nonneg (by omega)]; omega
  rw [this]
theorem neq30 (a : Nat) : bin Try.prog .neq 3 (i64n a) (.int .i64 0) = some (.bool (!(a == 0))) := bin3n a 0
/-- Load, of bytes that are no disk. -/
theorem r37_no {h : Heap} {a : Option Addr} {n c : Nat} (hn : n ≤ 1000000) (hbad : n % 128 ≠ 0 ∨ n < 512 ∨ 524288 < n) : ∃ v' h', CD 37 [.slice a n c] h = some (.tuple #[v', .int .i64 2], h') ∧ v' = .agg zero6.toArray ∧ Old h h' := by
  have o1 : Old h (h.alloc zero6) := Kept.alloc _ _ _
  have g1 : (h.alloc zero6).get h.next = some zero6 := by rw [Heap.get_alloc, if_pos rfl]
  have hnew : newC [(.slice none 0 0), (.bool false), (.bool false), (.int .i64 0), (.int .i64 0), (.int .i64 0)] h = some (ptr h.next 0, h.alloc zero6) := rfl
  have n01 : (h.alloc zero6).n0 ≤ h.next := h.n0_le_next
  generalize h.alloc zero6 = g at *
  obtain ⟨s1, s2, s3, s4⟩ := sm_st (n := 6) g1 n01 rfl (k' := zero6) rfl rfl rfl
  have hll : lenL (.slice a n c) = some (i64n n) := rfl
  have hbl : bldR [(.slice none 0 0), (.bool false), (.bool false), (.int .i64 0), (.int .i64 0), (.int .i64 0)] [] = some (.agg zero6.toArray) := rfl
  have l512 : bin Try.prog .lss 3 (i64n n) (.int .i64 512) = some (.bool (decide (n < 512))) := lss3 n 512
  have gmax : bin Try.prog .gtr 3 (i64n n) (.int .i64 524288) = some (.bool (decide (524288 < n))) := gtr3 n 524288
  refine ⟨_, _, CD_body is37 rfl ((t37_eq _ _ _).trans ?_), rfl, o1.also s4 (fun y hy e => by omega)⟩
  unfold t37
  simp -implicitDefEqProofs only [hnew, thenV_some, hll, pu_some, rem128 n (by omega), neq30, bOf_bool]
  by_cases h1 : n % 128 = 0
  · have hb : (n % 128 == 0) = true := by rw [h1]; rfl
    simp -implicitDefEqProofs only [hb, Bool.not_true, beq_self_eq_true, guardK_true, thenV_some, hll, pu_some, l512, Bool.false_eq_true, if_false, bOf_bool]
    by_cases h2 : n < 512
    · simp -implicitDefEqProofs only [decide_eq_true h2, sf, guardK_false, thenV_some, if_true, hbl, s1, pu_some]
      exact res_rf2 (rs := Try.f37.results.toList) (n := 23) results37 (by decide) (by decide) _ s2
    · simp -implicitDefEqProofs only [decide_eq_false h2, beq_self_eq_true, guardK_true, thenV_some, hll, pu_some, gmax, Bool.false_eq_true, if_false, decide_eq_true (show 524288 < n by omega), hbl, s1]
      exact res_rf2 (rs := Try.f37.results.toList) (n := 23) results37 (by decide) (by decide) _ s2
  · have hb : (n % 128 == 0) = false := by simpa using h1
    simp -implicitDefEqProofs only [hb, Bool.not_false, sf, guardK_false, thenV_some, if_true, bOf_bool, hbl, s1, pu_some]
    exact res_rf2 (rs := Try.f37.results.toList) (n := 23) results37 (by decide) (by decide) _ s2
def Rf.of (l : List Nat) : Rf := ⟨l, false, false, 0, 0, 0⟩
/-- Load. -/
theorem r37 {h : Heap} {a : Option Addr} {n c : Nat} {l : List Nat} (hs : sliceBytes a n h = some l) (h1 : n % 128 = 0) (h2 : 512 ≤ n) (h3 : n ≤ 524288) : ∃ v' h', CD 37 [.slice a n c] h = some (.tuple #[v', .int .i64 0], h') ∧ IsRf h' (fun c => c < h.next) v' (Rf.of l) ∧ Old h h' := by
  have hll' := (sliceBytes_spec hs).1
  have o1 : Old h (h.alloc zero6) := Kept.alloc _ _ _
  have g1 : (h.alloc zero6).get h.next = some zero6 := by rw [Heap.get_alloc, if_pos rfl]
  have hnew : newC [(.slice none 0 0), (.bool false), (.bool false), (.int .i64 0), (.int .i64 0), (.int .i64 0)] h = some (ptr h.next 0, h.alloc zero6) := rfl
  have n1 : (h.alloc zero6).next = h.next + 1 := Heap.next_alloc ..
  have n01 : (h.alloc zero6).n0 ≤ h.next := h.n0_le_next
  generalize h.alloc zero6 = g at *
  have oA : Old g (g.alloc []) := Kept.alloc _ _ _
  have nA : (g.alloc []).next = g.next + 1 := Heap.next_alloc ..
  have hbs : bslR 1 (.int .u8 0) 0 [] g = some (.slice (some ⟨g.next, 0, none⟩) 0 0, g.alloc []) := rfl
  have own0 : OwnB (g.alloc []) g.next (.slice (some ⟨g.next, 0, none⟩) 0 0) [] := ⟨OwnC.empty _ (Nat.le_refl _), by simp⟩
  obtain ⟨v', g2, f1, f2, f3, f4⟩ := append_ownB (c := c) own0 (by rw [oA.n0]; omega) (by omega) (Old.bytes (o1.trans oA) hs) (by simp; omega)
  rw [List.nil_append] at f2
  have hbase : baseOf (.slice (some ⟨g.next, 0, none⟩) 0 0) = some g.next := rfl
  have g12 := f3.getE (Old.get oA g1) (fun hb => by rw [hbase] at hb; have hb := Option.some.inj hb; omega)
  have oo : Old h g2 := (o1.trans oA).also f3 (fun c hc hb => by rw [hbase] at hb; have hb := Option.some.inj hb; omega)
  obtain ⟨aa, cc, rfl, t1, t2, t3, t4⟩ := f2.bytes
  obtain ⟨s1, s2, s3, s4⟩ := sm_st (n := 6) g12 (by rw [oo.n0]; exact h.n0_le_next) rfl (k' := (Rf.of l).cells (.slice aa l.length cc)) rfl (cells_one _ _ _ _) (cells_hole _ _ _ _)
  have t5 := s4.bytesP (fun c hc => by subst hc; exact z6_plain g12) t1
  have oo2 := oo.also s4 (fun y hy e => by omega)
  have hbl : bldR [(.slice none 0 0), (.bool false), (.bool false), (.int .i64 0), (.int .i64 0), (.int .i64 0)] [(0, 1, .slice aa l.length cc)] = some (.agg ((Rf.of l).cells (.slice aa l.length cc)).toArray) := rfl
  have hll : lenL (.slice a n c) = some (i64n n) := rfl
  have l512 : bin Try.prog .lss 3 (i64n n) (.int .i64 512) = some (.bool (decide (n < 512))) := lss3 n 512
  have gmax : bin Try.prog .gtr 3 (i64n n) (.int .i64 524288) = some (.bool (decide (524288 < n))) := gtr3 n 524288
  have hb : (n % 128 == 0) = true := by rw [h1]; rfl
  refine ⟨_, _, CD_body is37 rfl ((t37_eq _ _ _).trans ?_), ⟨aa, cc, rfl, t5, t2, fun y hy _ hc => by have := t3 y hy; omega⟩, oo2⟩
  unfold t37
  simp -implicitDefEqProofs only [hnew, thenV_some, hll, pu_some, rem128 n (by omega), neq30, bOf_bool, hb, Bool.not_true, beq_self_eq_true, guardK_true, l512, Bool.false_eq_true, if_false, decide_eq_false (show ¬ n < 512 by omega), gmax, decide_eq_false (show ¬ 524288 < n by omega), hbs, f1, hbl, s1]
  exact res_rf2 (rs := Try.f37.results.toList) (n := 23) results37 (by decide) (by decide) _ s2
end Go.Proofs.Ytcmfgmhadeeieaa

namespace Go.Proofs.Ytcmfgmhadeeieaa
open Go Go.Abs

/-- The disk as the bytes are copied into it. -/
def Dk.part' (h : Heap) (n : Nat) (l : List Nat) (i : Nat) : Dk := { Dk.new h n with img := l.take (128 * i) ++ List.replicate (128 * n - 128 * i) 0 }
theorem part_splice {n i : Nat} {l : List Nat} (hl : l.length = 128 * n) (hi : i < n) : spliceN (l.take (128 * i) ++ List.replicate (128 * n - 128 * i) 0) (i * 128) ((l.drop (128 * i)).take 128) = l.take (128 * (i + 1)) ++ List.replicate (128 * n - 128 * (i + 1)) 0 := by
  unfold spliceN
  have h1 : (l.take (128 * i)).length = 128 * i := by rw [List.length_take]; omega
  have h2 : ((l.drop (128 * i)).take 128).length = 128 := by rw [List.length_take, List.length_drop]; omega
  have e1 : (l.take (128 * i) ++ List.replicate (128 * n - 128 * i) 0).take (i * 128) = l.take (128 * i) := by
    rw [Nat.mul_comm i 128]
    exact List.take_left' h1
  have e2 : (l.take (128 * i) ++ List.replicate (128 * n - 128 * i) 0).drop (i * 128 + 128) = List.replicate (128 * n - 128 * (i + 1)) 0 := by
    rw [List.drop_append, List.drop_eq_nil_of_le (by omega), h1, List.drop_replicate, List.nil_append, show 128 * n - 128 * i - (i * 128 + 128 - 128 * i) = 128 * n - 128 * (i + 1) by omega]
  rw [h2, e1, e2]
  rw [show l.take (128 * (i + 1)) = l.take (128 * i) ++ (l.drop (128 * i)).take 128 by rw [show 128 * (i + 1) = 128 * i + 128 by omega, List.take_add]]
theorem part_is {h g : Heap} {n : Nat} {l : List Nat} (hl : l.length = 128 * n) (hb : ∀ y ∈ l, y < 256) (hn : n ≤ 4096) {i : Nat} (hi : i ≤ n) (g0 : g.n0 = h.n0) (gh : g.get (h.next + 1) = some (Dk.new h n).hdr) (gi : g.get h.next = some ((Dk.part' h n l i).img.map u8)) : IsDk g (h.next + 1) (Dk.part' h n l i) := by
  have hn0 := h.n0_le_next
  refine ⟨gh, gi, ?_, ?_, by rw [g0]; omega, by rw [g0]; exact hn0, by show h.next + 1 ≠ h.next; omega, hn, ⟨Int.le_refl 0, by show (0 : Int) ≤ _; omega⟩, ⟨Int.le_refl 0, by show (0 : Int) ≤ _; omega⟩⟩
  · show (l.take (128 * i) ++ List.replicate (128 * n - 128 * i) 0).length = 128 * n
    rw [List.length_append, List.length_take, List.length_replicate]; omega
  · intro y hy
    rcases List.mem_append.1 hy with hy | hy
    · exact hb y (List.mem_of_mem_take hy)
    · rw [List.eq_of_mem_replicate hy]; decide
def ldInv (h0 : Heap) (n : Nat) (l : List Nat) (a : Option Addr) (c : Nat) (k : Nat) (y : Nat → Value) (g : Heap) : Prop :=
  ∃ i, i + k = n ∧ y 26 = i64n i ∧ y 25 = i64n n ∧ y 4 = ptr (h0.next + 1) 0 ∧ y 0 = .slice a l.length c ∧ IsDk g (h0.next + 1) (Dk.part' h0 n l i) ∧ sliceBytes a l.length g = some l ∧ Old h0 g
def ldFin (h0 : Heap) (n : Nat) (l : List Nat) (ex : Ex) (y : Nat → Value) (g : Heap) : Prop :=
  ex = .exit 0 ∧ y 4 = ptr (h0.next + 1) 0 ∧ IsDk g (h0.next + 1) (Dk.part' h0 n l n) ∧ Old h0 g
theorem ld_round {h0 : Heap} {n : Nat} {l : List Nat} {a : Option Addr} {c : Nat} (hl : l.length = 128 * n) (hn : n ≤ 4096) (hg : goodS a l.length c = true) (ha : ∀ y, a = some y → 0 < l.length → y.block < h0.next) :
    ∀ k y g, ldInv h0 n l a c k y g → Rnd 43 (ldInv h0 n l a c) (ldFin h0 n l) k (t43l43_1111010 CD y g) := by
  rintro k y g ⟨i, hk, y26, y25, y4, y0, xg, sl, old⟩
  unfold t43l43_1111010
  simp -implicitDefEqProofs only [y26, y25, lss3, thenV_some, pu_some]
  by_cases hi : i < n
  · have hbb : (Dk.part' h0 n l i).bb = h0.next := rfl
    have hnn : (Dk.part' h0 n l i).n = n := rfl
    have hl0 := xg.l0
    have himg := xg.img
    rw [hbb, hnn] at hl0
    rw [hbb] at himg
    have hix : idxS 128 (.slice (some ⟨h0.next, 0, none⟩) n n) (i64n i) = some (ptr h0.next (i * 128)) := by
      unfold idxS
      simp only [i64n]
      rw [if_pos (by omega), Int.toNat_natCast, Nat.zero_add]
    have hmul : bin Try.prog .mul 3 (i64n i) (.int .i64 128) = some (i64n (i * 128)) := mul3 (b := 128) (by omega)
    have hcl := goodS_le hg
    obtain ⟨a', c', s1, s2, s3⟩ := slR_bytes (lo := i * 128) (hi := l.length) (vl := some (i64n (i * 128))) (vh := none) hg sl (by omega) (by omega) rfl (by
      unfold boundA
      simp only [i64n]
      rw [if_pos (by omega), Int.toNat_natCast])
    have hlenI : (Dk.part' h0 n l i).img.length = 128 * n := xg.len
    obtain ⟨g', f1, f2, f3, f4, f5⟩ := copy_bytes (dl := 128) (dc := 128) (s := none) (c := c') himg (old.n0 ▸ h0.n0_le_next) s2 (off := i * 128) (by omega)
    have hmin : min (l.length - i * 128) 128 = 128 := by omega
    have htk : (((l.drop (i * 128)).take (l.length - i * 128)).take 128) = (l.drop (128 * i)).take 128 := by
      rw [List.take_take, Nat.min_eq_left (by omega), Nat.mul_comm]
    rw [hmin, htk] at f4
    have himgd : (Dk.part' h0 n l i).img = l.take (128 * i) ++ List.replicate (128 * n - 128 * i) 0 := rfl
    rw [himgd, part_splice hl hi] at f4
    have hlt : i * 128 ≤ 600000 := by omega
    simp -implicitDefEqProofs only [decide_eq_true hi, y4, y0, thenV_some, nilCheck_ptr, pu_some, addP_ptr, Nat.zero_add, Nat.add_zero, hl0, hix, arr128, hmul, s1, f1, add31 (show i + 1 ≤ 9223372036854775807 by omega)]
    have old' : Old h0 g' := by
      refine ⟨f2.trans old.n0, by rw [f3]; exact old.next, fun b hb hB => ?_⟩
      rw [f5 b (by omega)]
      exact Kept.get old b hb (fun h => h)
    refine Rnd.next (k - 1) (by omega) ⟨i + 1, by omega, rfl, y25, y4, y0, part_is hl ((sliceBytes_spec sl).2.1) hn (by omega) (f2.trans old.n0) ?_ f4, ?_, old'⟩
    · rw [f5 _ (by omega)]
      exact xg.hdr
    · rw [sliceBytes_congr (h := g)]
      · exact sl
      · intro y' hy'
        have := ha y' hy' (by omega)
        exact f5 _ (by omega)
  · simp -implicitDefEqProofs only [decide_eq_false hi]
    have hin : i = n := by omega
    subst hin
    exact Rnd.out 0 ⟨rfl, y4, xg, old⟩
/-- LoadDisk, of bytes that are no disk. -/
theorem r43_no {h : Heap} {a : Option Addr} {n c : Nat} (hn : n ≤ 1000000) (hbad : n % 128 ≠ 0 ∨ n < 512 ∨ 524288 < n) : CD 43 [.slice a n c] h = some (.tuple #[.pointer none, .int .i64 2], h) := by
  have hll : lenL (.slice a n c) = some (i64n n) := rfl
  refine CD_body is43 rfl ((t43_eq _ _ _).trans ?_)
  unfold t43
  simp -implicitDefEqProofs only [thenV_some, hll, pu_some, rem128 n (by omega), neq30]
  by_cases h1 : n % 128 = 0
  · have hb : (n % 128 == 0) = true := by rw [h1]; rfl
    have e18 : CD 18 [i64n (n / 128)] h = some (.tuple #[.pointer none, .int .i64 2], h) := CD_known (by
      rw [X18]
      unfold s18 i64n
      simp only
      rw [if_neg (by omega)])
    have hx0 : ∀ a b : Value, extractA (.tuple #[a, b]) 0 = some a := fun _ _ => rfl
    have hx1 : ∀ a b : Value, extractA (.tuple #[a, b]) 1 = some b := fun _ _ => rfl
    simp -implicitDefEqProofs only [hb, Bool.not_true, thenV_some, hll, pu_some, quo128 n (by omega), e18, hx0, hx1, bin28n0, show ((2 : Int) != 0) = true from rfl]
  · have hb : (n % 128 == 0) = false := by simpa using h1
    simp -implicitDefEqProofs only [hb, Bool.not_false]
/-- LoadDisk. -/
theorem r43 {h : Heap} {a : Option Addr} {c : Nat} {l : List Nat} (hs : sliceBytes a l.length h = some l) (hg : goodS a l.length c = true) (h1 : l.length % 128 = 0) (h2 : 512 ≤ l.length) (h3 : l.length ≤ 524288) : ∃ h', CD 43 [.slice a l.length c] h = some (.tuple #[ptr (h.next + 1) 0, .int .i64 0], h') ∧ IsDk h' (h.next + 1) { Dk.new h (l.length / 128) with img := l } ∧ Old h h' := by
  have hlt : ∀ y, a = some y → 0 < l.length → y.block < h.next := by
    intro y hy hp
    obtain ⟨b, off, s, e, hb⟩ := sliceBytes_lt hs hp
    rw [e] at hy
    cases hy
    exact hb
  have hll : lenL (.slice a l.length c) = some (i64n l.length) := rfl
  have hn : l.length = 128 * (l.length / 128) := by omega
  obtain ⟨e18, x18, o18⟩ := r18 h (n := l.length / 128) (by omega) (by omega)
  have hx0 : ∀ a b : Value, extractA (.tuple #[a, b]) 0 = some a := fun _ _ => rfl
  have hx1 : ∀ a b : Value, extractA (.tuple #[a, b]) 1 = some b := fun _ _ => rfl
  have hb : (l.length % 128 == 0) = true := by rw [h1]; rfl
  have hq := quo128 l.length (by omega)
  generalize l.length / 128 = n at *
  have l0 : ld1 (ptr (h.next + 1) 0) (newDk h n) = some (.slice (some ⟨h.next, 0, none⟩) n n, newDk h n) := x18.l0
  have hln : lenL (.slice (some ⟨h.next, 0, none⟩) n n) = some (i64n n) := rfl
  have hp0 : Dk.part' h n l 0 = Dk.new h n := by
    unfold Dk.part'
    show { Dk.new h n with img := [] ++ List.replicate (128 * n) 0 } = _
    rfl
  have hpn : Dk.part' h n l n = { Dk.new h n with img := l } := by
    unfold Dk.part'
    rw [List.take_of_length_le (by omega), Nat.sub_self, List.replicate_zero, List.append_nil]
  have key : ∀ o, t43 CD (.slice a l.length c) h = o → ∃ h', o = some (.tuple #[ptr (h.next + 1) 0, .int .i64 0], h') ∧ IsDk h' (h.next + 1) (Dk.part' h n l n) ∧ Old h h' := by
    intro o ho
    subst ho
    unfold t43
    simp -implicitDefEqProofs only [thenV_some, hll, pu_some, rem128 l.length (by omega), neq30, hb, Bool.not_true, hq, e18, hx0, hx1, bin28n0, bne_self_eq_false, nilCheck_ptr, addP_ptr, Nat.zero_add, l0, hln]
    refine endL_fin (Q := fun o : Out => ∃ h', o = some (.tuple #[ptr (h.next + 1) 0, .int .i64 0], h') ∧ IsDk h' (h.next + 1) (Dk.part' h n l n) ∧ Old h h')
      (loop_fin (t43l43_1111010_eq CD) (ld_round (h0 := h) (n := n) (l := l) (a := a) (c := c) hn (by omega) hg hlt) n (by have : rounds = 18446744073709551616 := rfl; omega)
        ⟨0, Nat.zero_add _, rfl, rfl, rfl, rfl, by rw [hp0]; exact x18, Old.bytes o18 hs, o18⟩) ?_
    rintro ex z g ⟨rfl, z4, xg, og⟩
    refine ⟨g, ?_, xg, og⟩
    simp -implicitDefEqProofs only [endL_exit, b43_exit, t43k43_8_eq]
    unfold t43k43_8
    simp -implicitDefEqProofs only [thenV_some, z4]
  obtain ⟨h', e, x, o⟩ := key _ rfl
  rw [hpn] at x
  exact ⟨h', CD_body is43 rfl ((t43_eq _ _ _).trans e), x, o⟩
end Go.Proofs.Ytcmfgmhadeeieaa

namespace Go.Proofs.Ytcmfgmhadeeieaa
open Go Go.Abs

theorem is10 : IsFn Try.prog 10 Try.f10 := ⟨by kernel_rfl, by kernel_rfl, by kernel_rfl, by kernel_rfl⟩
theorem b10_exit (C : CallF) (e : Env) (h : Heap) : b10_20 C 0 e h = k10_18 C e h := rfl
/-- ReadAt, as the reference has it. -/
theorem r28 {h : Heap} {d j : Nat} {D : Dk} {J : Jn} (x : IsDk h d D) (xj : IsJn h j d J) (h2 : 2 ≤ D.n) (at_ : Int) : ∃ w h', CD 28 [ptr j 0, .int .i64 at_] h = some (.tuple #[w, .int .i64 (J.rd D at_)], h') ∧ Old h h' ∧ OwnB h' h.next w (if J.rd D at_ = 0 then D.data J.area at_.toNat (D.parts J.area at_.toNat) else []) := by
  unfold Jn.rd
  cases hl : J.live D with
  | false => exact ⟨_, h, r28_dead x xj _ hl, Kept.refl _ _, OwnB.nil _ _⟩
  | true =>
    cases hs : J.stands D at_ with
    | false =>
      obtain ⟨h', e, o⟩ := r28_no x xj h2 at_ hl hs
      exact ⟨_, h', e, o, OwnB.nil _ _⟩
    | true =>
      have hs' := hs
      unfold Jn.stands at hs'
      simp only [Bool.and_eq_true, decide_eq_true_eq] at hs'
      obtain ⟨m, rfl⟩ : ∃ m : Nat, at_ = m := ⟨at_.toNat, by omega⟩
      obtain ⟨w, h', e, o, ow⟩ := r28_yes x xj h2 hl hs
      exact ⟨w, h', e, o, ow⟩

theorem ents_len (D : Dk) (J : Jn) : ∀ k at_, (D.ents J k at_).length ≤ k
  | 0, _ => Nat.le_refl _
  | k + 1, at_ => by
    unfold Dk.ents
    split
    · split
      · rw [List.length_cons]
        have := ents_len D J k (at_ + D.parts J.area at_)
        omega
      · have := ents_len D J k (at_ + 1)
        omega
    · simp
section
variable {h0 : Heap} {d j f m : Nat} {D : Dk} {J : Jn} {F : Nat → Prop} {v : Value} {S : Rf} (xd : IsDk h0 d D) (xj : IsJn h0 j d J) (xr : IsRf h0 F v S) (q : Eqd D S) (h4 : 4 ≤ D.n)
def loInv (h0 : Heap) (j f m : Nat) (v : Value) (J : Jn) (D : Dk) (k : Nat) (y : Nat → Value) (g : Heap) : Prop :=
  ∃ i : Nat, i + k = D.ar + 2 ∧ y 11 = .int .i64 ((i : Int) - 1) ∧ y 5 = ptr f 0 ∧ y 9 = ptr m 0 ∧ y 7 = ptr j 0 ∧ Box6 g f v ∧ g.get m = some J.rc ∧ Old h0 g
def loFin (ex : Ex) (_ : Nat → Value) (_ : Heap) : Prop := ex = .exit 0
include xd xj xr q h4
theorem lo_round : ∀ k y g, loInv h0 j f m v J D k y g → Rnd 117 (loInv h0 j f m v J D) loFin k (t10l10_111111111010 CD y g) := by
  rintro k y g ⟨i, hk, y11, y5, y9, y7, B6, gm, old⟩
  have hsm := xd.small
  have har : D.ar = (D.n - 2) / 2 := rfl
  have h2 : 2 ≤ D.n := by omega
  obtain ⟨g1, e46, o1⟩ := r46 (xr.old old) q.img xd.len h4 hsm
  have old1 := old.trans o1
  obtain ⟨w, g2, e28, o2, ow⟩ := r28 (Old.dk old1 xd) (xj.keep old1 (fun h => h)) h2 ((i : Int) - 1)
  have old2 := old1.trans o2
  obtain ⟨u, g3, e47, o3, ou⟩ := r47 (xr.old old2) q xd.len h4 hsm xj.area ((i : Int) - 1)
  have B62 := B6.keep (o1.trans o2) (fun h => h)
  have gm2 := Old.get (o1.trans o2) gm
  have gm3 := Old.get o3 gm2
  have B63 := B62.keep o3 (fun h => h)
  have ow3 := ow.keep o3 (fun _ _ h => h)
  generalize (if J.rd D ((i : Int) - 1) = 0 then D.data J.area ((i : Int) - 1).toNat (D.parts J.area ((i : Int) - 1).toNat) else []) = l at *
  obtain ⟨a1, c1, rfl, s1, _, _, _⟩ := ow3.bytes
  obtain ⟨a2, c2, rfl, s2, _, _, _⟩ := ou.bytes
  have hleq : bin Try.prog .leq 3 (.int .i64 ((i : Int) - 1)) (i64n D.ar) = some (.bool (decide ((i : Int) - 1 ≤ (D.ar : Int)))) := bin_leq ..
  have hx0 : ∀ a b : Value, extractA (.tuple #[a, b]) 0 = some a := fun _ _ => rfl
  have hx1 : ∀ a b : Value, extractA (.tuple #[a, b]) 1 = some b := fun _ _ => rfl
  have l8 := ldN_whole (n := 8) gm2 rfl (rc_hole J)
  have hne : ∀ e : Int, bin Try.prog .neq 28 (.int .i64 e) (.int .i64 e) = some (.bool false) := fun e => by
    rw [bin_neq]; simp
  have hadd : bin Try.prog .add 3 (.int .i64 ((i : Int) - 1)) (.int .i64 1) = some (.int .i64 (((i + 1 : Nat) : Int) - 1)) := by
    rw [bin_add, wrap_i64 (by omega) (by omega)]
    exact congrArg (fun q => some (Value.int .i64 q)) (by omega)
  unfold t10l10_111111111010
  simp -implicitDefEqProofs only [y11, y5, y7, y9, thenV_some, B6.ld, e46, hleq, pu_some]
  by_cases hlt : (i : Int) - 1 ≤ (D.ar : Int)
  · simp -implicitDefEqProofs only [decide_eq_true hlt, thenV_some, e28, hx0, hx1, pu_some, B62.ld, l8, e47, hne, bOf_bool, beq_self_eq_true, guardK_true, cvBS_at s1, cvBS_at s2, bin_str_neq, str_same, Bool.false_eq_true, if_false, hadd]
    exact Rnd.next (k - 1) (by omega) ⟨i + 1, by omega, rfl, y5, y9, y7, B63, gm3, old2.trans o3⟩
  · simp -implicitDefEqProofs only [decide_eq_false hlt]
    exact Rnd.out 0 rfl
end

theorem cp6 {h : Heap} {b : Nat} {S : Rf} {a : Option Addr} {n c : Nat} (g : h.get b = some (S.cells (.slice a n c))) : Plain h b := ⟨_, g, by
  intro v hv
  simp only [Rf.cells, List.mem_cons, List.not_mem_nil, or_false] at hv
  rcases hv with rfl | rfl | rfl | rfl | rfl | rfl <;> rfl⟩
set_option maxRecDepth 100000 in
/-- DiskLoads. -/
theorem dev10 {h : Heap} {a0 : Option Addr} {c0 : Nat} {l : List Nat} (hs : sliceBytes a0 l.length h = some l) : ∃ h', CD 10 [.slice a0 l.length c0] h = some (.bool true, h') := by
  have hn0 := h.n0_le_next
  have hll : lenL (.slice a0 l.length c0) = some (i64n l.length) := rfl
  have gmax : bin Try.prog .gtr 3 (i64n l.length) (.int .i64 8319) = some (.bool (decide (8319 < l.length))) := gtr3 _ 8319
  have hx0 : ∀ a b : Value, extractA (.tuple #[a, b]) 0 = some a := fun _ _ => rfl
  have hx1 : ∀ a b : Value, extractA (.tuple #[a, b]) 1 = some b := fun _ _ => rfl
  have hy0 : ∀ a b c : Value, extractA (.tuple #[a, b, c]) 0 = some a := fun _ _ _ => rfl
  have hy1 : ∀ a b c : Value, extractA (.tuple #[a, b, c]) 1 = some b := fun _ _ _ => rfl
  have hy2 : ∀ a b c : Value, extractA (.tuple #[a, b, c]) 2 = some c := fun _ _ _ => rfl
  have hz0 : ∀ a b c d : Value, extractA (.tuple #[a, b, c, d]) 0 = some a := fun _ _ _ _ => rfl
  have hz1 : ∀ a b c d : Value, extractA (.tuple #[a, b, c, d]) 1 = some b := fun _ _ _ _ => rfl
  have hz2 : ∀ a b c d : Value, extractA (.tuple #[a, b, c, d]) 2 = some c := fun _ _ _ _ => rfl
  have hz3 : ∀ a b c d : Value, extractA (.tuple #[a, b, c, d]) 3 = some d := fun _ _ _ _ => rfl
  have hne : ∀ e : Int, bin Try.prog .neq 28 (.int .i64 e) (.int .i64 e) = some (.bool false) := fun e => by
    rw [bin_neq]; simp
  have hne20 : bin Try.prog .neq 28 (.int .i64 2) (.int .i64 0) = some (.bool true) := by rw [bin_neq]; rfl
  have enil : bin Try.prog .eql 27 (.pointer none) (.pointer none) = some (.bool true) := by kernel_rfl
  have eptr : ∀ b : Nat, bin Try.prog .eql 27 (ptr b 0) (.pointer none) = some (.bool false) := fun b => by kernel_rfl
  have n4 : ∀ b : Bool, bin Try.prog .neq 4 (.bool b) (.bool b) = some (.bool false) := fun b => by cases b <;> kernel_rfl
  suffices key : ∃ h', t10 CD (.slice a0 l.length c0) h = some (.bool true, h') by
    obtain ⟨h', e⟩ := key
    exact ⟨h', CD_body is10 rfl ((t10_eq _ _ _).trans e)⟩
  by_cases hbig : 8319 < l.length
  · unfold t10
    simp -implicitDefEqProofs only [thenV_some, hll, gmax, pu_some, decide_eq_true hbig, r14]
    exact ⟨_, rfl⟩
  -- the copy of the bytes
  have oA : Old h (h.alloc []) := Kept.alloc _ _ _
  have nA : (h.alloc []).next = h.next + 1 := Heap.next_alloc ..
  have hbs : bslR 1 (.int .u8 0) 0 [] h = some (.slice (some ⟨h.next, 0, none⟩) 0 0, h.alloc []) := rfl
  have own0 : OwnB (h.alloc []) h.next (.slice (some ⟨h.next, 0, none⟩) 0 0) [] := ⟨OwnC.empty _ (Nat.le_refl _), by simp⟩
  obtain ⟨v', h1, f1, f2, f3, f4⟩ := append_ownB (c := c0) own0 (by rw [oA.n0]; omega) (by omega) (Old.bytes oA hs) (by simp; omega)
  rw [List.nil_append] at f2
  have hbase : baseOf (.slice (some ⟨h.next, 0, none⟩) 0 0) = some h.next := rfl
  have o1 : Old h h1 := oA.also f3 (fun c hc hb => by rw [hbase] at hb; have hb := Option.some.inj hb; omega)
  obtain ⟨aa, cc, rfl, t1, t2, t3, t4⟩ := f2.bytes
  by_cases hbad : l.length % 128 ≠ 0 ∨ l.length < 512 ∨ 524288 < l.length
  · have e43 := r43_no (h := h1) (a := aa) (c := cc) (n := l.length) (by omega) hbad
    obtain ⟨u, h2, e37, rfl, o2⟩ := r37_no (h := h1) (a := a0) (c := c0) (n := l.length) (by omega) hbad
    have g2 : (h2.alloc zero6).get h2.next = some zero6 := by rw [Heap.get_alloc, if_pos rfl]
    obtain ⟨u1, _⟩ := sm_st (n := 6) g2 h2.n0_le_next rfl (k' := zero6) rfl rfl rfl
    unfold t10
    simp -implicitDefEqProofs only [thenV_some, hll, gmax, pu_some, decide_eq_false hbig, hbs, f1, e43, hx0, hx1, e37, new6, u1, hne, bOf_bool, beq_self_eq_true, guardK_true, enil, hne20, n4, Bool.false_eq_true, if_false, r14]
    exact ⟨_, rfl⟩
  -- a disk
  have q1 : l.length % 128 = 0 := by omega
  have q2 : 512 ≤ l.length := by omega
  have q3 : l.length ≤ 524288 := by omega
  obtain ⟨h2, e43, x2, o2⟩ := r43 (h := h1) t1 t2 q1 q2 q3
  have hs2 := Old.bytes (o1.trans o2) hs
  obtain ⟨u, h3, e37, xr3, o3⟩ := r37 (h := h2) (c := c0) hs2 q1 q2 q3
  have hn4 : 4 ≤ l.length / 128 := by omega
  have hD : ({ Dk.new h1 (l.length / 128) with img := l } : Dk) = { Dk.new h1 (l.length / 128) with img := l } := rfl
  have hq : Eqd { Dk.new h1 (l.length / 128) with img := l } (Rf.of l) := ⟨rfl, rfl, rfl, fun h => (by cases h), fun h => (by cases h), rfl, ⟨Int.le_refl 0, by show (0 : Int) ≤ 128; omega⟩⟩
  have hDn : ({ Dk.new h1 (l.length / 128) with img := l } : Dk).n = l.length / 128 := rfl
  have hDd : ({ Dk.new h1 (l.length / 128) with img := l } : Dk).down = false := rfl
  have hDi : ({ Dk.new h1 (l.length / 128) with img := l } : Dk).img = l := rfl
  generalize ({ Dk.new h1 (l.length / 128) with img := l } : Dk) = D at *
  generalize hSl : Rf.of l = S at *
  have hSd : S.down = false := by subst hSl; rfl
  -- the reference's struct
  have n1 := o1.next
  have n2 := o2.next
  have n3 := o3.next
  have oB : Old h3 (h3.alloc zero6) := Kept.alloc _ _ _
  have gB : (h3.alloc zero6).get h3.next = some zero6 := by rw [Heap.get_alloc, if_pos rfl]
  have nB : (h3.alloc zero6).next = h3.next + 1 := Heap.next_alloc ..
  have hnew3 := new6 h3
  have n0B : (h3.alloc zero6).n0 ≤ h3.next := h3.n0_le_next
  generalize h3.alloc zero6 = hB at *
  have xrB := xr3.old oB
  obtain ⟨ar, cr, rfl, hr2⟩ := id xr3
  obtain ⟨u1, _, u3, u4⟩ := sm_st (n := 6) gB n0B rfl (k' := S.cells (.slice ar S.img.length cr)) rfl (cells_one _ _ _ _) (cells_hole _ _ _ _)
  have o35 : Old h3 (hB.set h3.next (S.cells (.slice ar S.img.length cr))) := oB.also u4 (fun c hc e => by omega)
  have n5 := u4.next
  generalize hB.set h3.next (S.cells (.slice ar S.img.length cr)) = h5 at *
  have xr5 := xr3.old o35
  have x5 := Old.dk (o3.trans o35) x2
  have hs5 := Old.bytes (o3.trans o35) hs2
  have dlt := x2.lt
  obtain ⟨j, w, cells, N, h6, e21, x6, xj6, ow6, E6, k6, hj, hjN, hN⟩ := r21 x5 (by omega) hDd
  have n6 := k6.next
  have xr6 := IsRf.keep xr5 k6 (fun b hb e => by show b < h2.next; omega)
  have g6 := k6.getE u3 (by omega)
  have hs6 : sliceBytes a0 l.length h6 = some l := k6.bytes hs5 (fun y hy hp hb => by
    obtain ⟨b, off, s, e, hb'⟩ := sliceBytes_lt hs hp
    rw [e] at hy
    cases hy
    have hb : b = h1.next + 1 := hb
    omega)
  have l6 := rf_ld g6 rfl (cells_hole _ _ _ _)
  obtain ⟨v2, w2, cells2, h7, e38, xr7, ow7, E7, o7⟩ := r38 (D := D) x5.len (by omega) x5.small xr6 hq.img hSd hq.turn
  have n7 := o7.next
  have x7 := Old.dk o7 x6
  have xj7 := xj6.keep o7 (fun h => h)
  have g7 := Old.get o7 g6
  have hs7 := Old.bytes o7 hs6
  have ow67 := ow6.keep o7 (fun _ _ h => h)
  have E67 := E6.keep o7 (fun _ h => h.elim)
  have hq2 : Eqd D.opened { S with turn := D.opened.turn } := ⟨hq.img, hq.down, hq.armed, hq.arm, hq.da, rfl, hq.kp⟩
  generalize ({ S with turn := D.opened.turn } : Rf) = S2 at *
  -- the journal's struct
  have o8 : Old h7 (h7.alloc zero8) := Kept.alloc _ _ _
  have g8 : (h7.alloc zero8).get h7.next = some zero8 := by rw [Heap.get_alloc, if_pos rfl]
  have n8 : (h7.alloc zero8).next = h7.next + 1 := Heap.next_alloc ..
  have hnew8 := new8 h7
  have n08 : (h7.alloc zero8).n0 = h7.n0 := o8.n0
  have n0h7 : h7.n0 ≤ h.next := by
    rw [o7.n0, k6.n0, o35.n0, o3.n0, o2.n0, o1.n0]; exact hn0
  generalize h7.alloc zero8 = h8 at *
  obtain ⟨a2, c2, rfl, y1, y2, y3⟩ := id xr7
  have gf8 := Old.get o8 g7
  obtain ⟨s1, _, s3, s4⟩ := sm_st (n := 6) gf8 (by omega) rfl (k' := S2.cells (.slice a2 S2.img.length c2)) rfl (cells_one _ _ _ _) (cells_hole _ _ _ _)
  have g89 := s4.getE g8 (by omega)
  have n9 := s4.next
  have n09 := s4.n0
  have k79 : Kept h7 (h8.set h3.next (S2.cells (.slice a2 S2.img.length c2))) (fun c => c = h3.next) := (o8.mono (fun _ _ h => h.elim)).also s4 (fun _ _ e => e)
  generalize h8.set h3.next (S2.cells (.slice a2 S2.img.length c2)) = h9 at *
  obtain ⟨r1, r2, r3, r4⟩ := sm_st (n := 8) g89 (by omega) rfl (k' := D.jn.rc) rfl rfl rfl
  have k710 : Kept h7 (h9.set h7.next D.jn.rc) (fun c => c = h3.next) := k79.also r4 (fun c hc e => by omega)
  have gf10 := r4.getE s3 (by omega)
  have plf : ∀ b, b = h3.next → Plain h7 b := fun b e => by subst e; exact cp6 g7
  have dbb : D.bb < h2.next := x2.blt
  have x10 := k710.dk x7 (by omega) (by show D.bb ≠ h3.next; omega)
  have xj10 := xj7.keep k710 (by omega)
  have hs10 := k710.bytesP plf hs7
  have ow610 := ow67.keep k710 (fun b hb e => by have := ow67.base hb; omega)
  have E610 := E67.keep k710 plf
  have ow710 := ow7.keep k710 (fun b hb e => by have := ow7.base hb; omega)
  have E710 := E7.keep k710 plf
  have xr10 : IsRf (h9.set h7.next D.jn.rc) (fun c => c < h2.next) _ S2 := ⟨a2, c2, rfl, k710.bytesP plf y1, y2, y3⟩
  generalize h9.set h7.next D.jn.rc = h10 at *
  have hlen : D.entries.length ≤ 100000 := by
    have h1 := ents_len D.opened D.jn D.opened.ar 0
    have h2 : D.opened.ar = (D.n - 2) / 2 := rfl
    have h3 : D.entries = D.opened.ents D.jn D.ar 0 := rfl
    have h4 : D.ar = (D.n - 2) / 2 := rfl
    rw [h3, h4]
    rw [h2] at h1
    omega
  have e44 := r44 ow610 E610 ow710 E710 hlen
  have hrest := openJ_rest D.opened D.opened.turn
  have hfin : D.jn.ready = true → D.jn.fin ≤ D.opened.ar := fun hr => by
    rw [show D.jn.ready = false from hrest.2.1] at hr
    cases hr
  obtain ⟨h11, e45, o11⟩ := r45 xr10 hq2 x10.len (by show 4 ≤ D.n; omega) x10.small x10 xj10 hfin
  have x11 := Old.dk o11 x10
  have hs11 := Old.bytes o11 hs10
  obtain ⟨ai, ci, h12, e25, t12, _, _, o12⟩ := r25 x11
  have hs12 := Old.bytes o12 hs11
  have o1012 := o11.trans o12
  have himg : D.opened.img = l := hDi
  rw [himg] at t12
  have hbl : bldR [(.pointer none), (.int .i64 0), (.int .i64 0), (.int .u64 0), (.int .i64 0), (.int .u64 0), (.bool false), (.int .i64 0), (.bool false)] [(0, 1, ptr j 0), (1, 8, .agg D.jn.rc.toArray)] = some (.agg (ptr j 0 :: D.jn.rc).toArray) := rfl
  have l810 := ldN_whole (n := 8) r3 rfl (rc_hole D.jn)
  have l610 := rf_ld gf10 rfl (cells_hole _ _ _ _)
  have ckS : chkR true (some (Value.string (strOf l), h11)) (.string (strOf l)) = true := chk_at rfl (by simp [veq])
  have B612 : Box6 h12 h3.next (.agg (S2.cells (.slice a2 S2.img.length c2)).toArray) := ⟨_, Old.get o1012 gf10, rfl, rfl, cells_hole _ _ _ _⟩
  have x12 := Old.dk o12 x11
  have xj12 := (xj10.keep o11 (fun h => h)).keep o12 (fun h => h)
  have xr12 := (xr10.old o11).old o12
  have gm12 := Old.get o1012 r3
  have key : ∀ o, t10 CD (.slice a0 l.length c0) h = o → ∃ h', o = some (.bool true, h') := by
    intro o ho
    subst ho
    unfold t10
    simp -implicitDefEqProofs only [thenV_some, hll, gmax, pu_some, decide_eq_false hbig, hbs, f1, e43, hx0, hx1, e37, hnew3, u1, hne, bOf_bool, beq_self_eq_true, guardK_true, eptr, n4, Bool.false_eq_true, if_false, e21, hy0, hy1, hy2, l6, e38, hz0, hz1, hz2, hz3, hnew8, s1, r1, e44, unA_not, Bool.not_true, l810, hbl, l610, e45, e25, cvBS_at t12, cvBS_at hs12, cvBS_at hs11, bin_str_neq, str_same, ckS, Bool.and_true]
    refine endL_fin (Q := fun o : Out => ∃ h', o = some (Value.bool true, h'))
      (loop_fin (t10l10_111111111010_eq CD) (lo_round (f := h3.next) (m := h7.next) x12 xj12 xr12 hq2 (by show 4 ≤ D.n; omega)) (D.opened.ar + 2) (by
        have : rounds = 18446744073709551616 := rfl
        have h2 : D.opened.ar = (D.n - 2) / 2 := rfl
        omega)
        ⟨0, Nat.zero_add _, rfl, rfl, rfl, rfl, B612, gm12, Kept.refl _ _⟩) ?_
    rintro ex z g rfl
    refine ⟨g, ?_⟩
    simp -implicitDefEqProofs only [endL_exit, b10_exit, t10k10_18_eq]
    unfold t10k10_18
    simp -implicitDefEqProofs only [thenV_some, r14]
  exact key _ rfl
end Go.Proofs.Ytcmfgmhadeeieaa

