/-
  The abstract machine: slices, addresses and parts of values, as the model has them.
  Conditions: none (lemmas).
-/
import Derived.Test.YtcmfgmhadeeieaaA5
namespace Go.Abs

section ops
variable {P : Program} {μ : Mu} {h : Heap} {w : World}

theorem make_sound {t : TypeId} {l l' c c' r : Value} {h' : Heap} (s : Sim μ h w) (hf : Free μ h h') (hl : VRel μ l l') (hc : VRel μ c c') (e : makeA P t l c h = some (r, h')) :
    ∃ μ' r' w', (Instr.makeSlice t l' c').run P w = .ok r' w' ∧ Sim μ' h' w' ∧ Step μ h w μ' h' w' ∧ VRel μ' r r' := by
  unfold makeA at e
  cases hu : P.underlying t with
  | none => rw [show elemT P t = none from by simp [elemT, hu]] at e; cases e
  | some d =>
    cases d with
    | slice el =>
      rw [show elemT P t = some el from by simp [elemT, hu]] at e
      split at e
      · rename_i _ _ _ l c heq
        cases heq
        rw [hl.int, hc.int]
        split at e
        · rename_i n by_ z hn hb hz
          split at e
          · rename_i hcond
            simp only [Bool.and_eq_true, decide_eq_true_eq] at hcond
            obtain ⟨⟨⟨⟨⟨⟨h0, h1⟩, h2⟩, h3⟩, hfl⟩, hzn⟩, hpos⟩ := hcond
            simp only [Option.some.injEq, Prod.mk.injEq] at e
            obtain ⟨rfl, rfl⟩ := e
            obtain ⟨i, hi, hin⟩ := info_of_sizeT hn
            have hib : i.bytes = by_ := by simp only [bytesT, hi, Option.map_some, Option.some.injEq] at hb; exact hb
            have wl : IntKind.i64.wrap l = l := IntWalk.i64_in _ (by omega)
            have wc : IntKind.i64.wrap c = c := IntWalk.i64_in _ (by omega)
            have hz1 : zeros z.cells.toList c.toNat = (List.range (c.toNat * n)).map fun i => z.cells[i % z.cells.size]! := by
              rw [← hzn, range_zeros z.cells (by omega)]
            obtain ⟨μ', w', hrun, hS, hSt, L, hL, hB, hO, _⟩ := newRow_sound (P := P) s hf (LRel.of_flat (μ := μ) (l := zeros z.cells.toList c.toNat) (by
              simp only [flatAll, List.all_eq_true, zeros, List.mem_flatMap] at hfl ⊢
              rintro x ⟨_, _, hx⟩; exact hfl x hx)) el
            have harr : (Array.range (c.toNat * n)).map (fun i => z.cells[i % z.cells.size]!) = (zeros z.cells.toList c.toNat).toArray := by
              apply Array.ext'
              rw [hz1]; simp
            refine ⟨μ', .slice (some ⟨w.heap.size, 0, none⟩) l.toNat c.toNat, w', ?_, hS, hSt, ?_⟩
            · have hlarge : (decide (c < 0) || decide ((i.bytes : Int) * c > 2 ^ 48)) = false := by
                rw [hib]
                simp only [Bool.or_eq_false_iff, decide_eq_false_iff_not]
                refine ⟨by omega, ?_⟩
                have : (2 : Int) ^ 48 = 281474976710656 := by decide
                omega
              unfold Instr.makeSlice
              simp only [Sem.run_bind, run_underlying hu, Result.andThen_ok, asInt, asIntOf, Sem.run_pure, run_typeInfo w hi, wl, wc]
              rw [hlarge]
              have hlt : decide (l < 0) = false := by simp; omega
              have hgt : decide (l > c) = false := by simp; omega
              simp only [hlt, hgt, Bool.or_self, Bool.false_eq_true, if_false, Sem.run_bind, run_askRoom, Result.andThen_ok, run_sizeT w hn]
              by_cases hcz : c.toNat * n = 0
              · have hr0 : Array.range (c.toNat * n) = #[] := by rw [hcz]; rfl
                have hnil : zeros z.cells.toList c.toNat = [] := by rw [hz1, hcz]; rfl
                rw [hnil] at hrun
                rw [if_pos hcz, hr0]
                simp [hrun]
              · rw [if_neg hcz]
                simp only [Sem.run_bind, run_zeroT w hz, Result.andThen_ok, Sem.run_pure, harr, hrun]
            · have := VRel.slice (off := 0) (len := l.toNat) (cap := c.toNat) hL
              rw [hB, hO] at this
              exact this
          · cases e
        · cases e
      · cases e
    | _ => rw [show elemT P t = none from by simp [elemT, hu]] at e; cases e



/-- Optional operands on both sides. -/
def ORel (μ : Mu) (x y : Option Value) : Prop := (x = none ∧ y = none) ∨ ∃ a b, x = some a ∧ y = some b ∧ VRel μ a b

theorem bound_eq {d y n : Nat} {x x' : Option Value} (hx : ORel μ x x') (e : boundA d y x = some n) : x' = x := by
  rcases hx with ⟨rfl, rfl⟩ | ⟨a, b, rfl, rfl, hv⟩
  · rfl
  · unfold boundA at e
    split at e
    · rename_i heq; cases heq
    · rename_i k i heq; cases heq; rw [hv.int]
    · cases e
theorem bounds_eq {len cap : Nat} {lo hi mx lo' hi' mx' : Option Value} {r : Nat × Nat × Nat} (h1 : ORel μ lo lo') (h2 : ORel μ hi hi') (h3 : ORel μ mx mx') (e : boundsA len cap lo hi mx = some r) :
    lo' = lo ∧ hi' = hi ∧ mx' = mx := by
  unfold boundsA at e
  split at e
  · rename_i m hm
    split at e
    · cases e
    · split at e
      · rename_i h hh
        split at e
        · rename_i l hl
          exact ⟨bound_eq h1 hl, bound_eq h2 hh, bound_eq h3 hm⟩
        · cases e
      · cases e
  · cases e
theorem run_bound {d y n : Nat} {v : Value} {code : BoundsCode} (e : boundA d y (some v) = some n) : (Instr.sliceBound v y code).run P w = .ok n w := by
  unfold boundA at e
  split at e
  · rename_i heq; cases heq
  · rename_i k i heq
    cases heq
    split at e
    · rename_i hc
      cases e
      simp [Instr.sliceBound, asIntOf, hc]
    · cases e
  · cases e
theorem run_bounds {isSl : Bool} {len cap : Nat} {lo hi mx : Option Value} {r : Nat × Nat × Nat} (e : boundsA len cap lo hi mx = some r) :
    (Instr.sliceBounds isSl len cap lo hi mx).run P w = .ok r w := by
  unfold boundsA at e
  split at e
  · rename_i m hm
    split at e
    · cases e
    · rename_i hne
      split at e
      · rename_i h hh
        split at e
        · rename_i l hl
          cases e
          unfold Instr.sliceBounds
          cases mx with
          | none =>
            simp only [boundA, Option.some.injEq] at hm
            subst hm
            cases hi with
            | none =>
              simp only [boundA, Option.some.injEq] at hh
              subst hh
              cases lo with
              | none => simp only [boundA, Option.some.injEq] at hl; subst hl; simp
              | some v => simp [run_bound hl]
            | some u =>
              cases lo with
              | none => simp only [boundA, Option.some.injEq] at hl; subst hl; simp [run_bound hh]
              | some v => simp [run_bound hl, run_bound hh]
          | some t =>
            cases hi with
            | none => exact (hne _ rfl rfl).elim
            | some u =>
              cases lo with
              | none => simp only [boundA, Option.some.injEq] at hl; subst hl; simp [run_bound hh, run_bound hm]
              | some v => simp [run_bound hl, run_bound hh, run_bound hm]
        · cases e
      · cases e
  · cases e

theorem bounds_le {len cap : Nat} {lo hi mx : Option Value} {l h m : Nat} (hlc : len ≤ cap) (e : boundsA len cap lo hi mx = some (l, h, m)) : l ≤ h ∧ h ≤ m ∧ (mx = none → m = cap) := by
  have b : ∀ {d y n : Nat} {x : Option Value}, boundA d y x = some n → (x = none ∧ n = d) ∨ n ≤ y := by
    intro d y n x e
    unfold boundA at e
    split at e
    · cases e; exact .inl ⟨rfl, rfl⟩
    · split at e
      · rename_i hc; cases e; right; omega
      · cases e
    · cases e
  unfold boundsA at e
  split at e
  · rename_i m' hm
    split at e
    · cases e
    · rename_i hne
      split at e
      · rename_i h' hh
        split at e
        · rename_i l' hl
          cases e
          have hm' : m = cap ∨ mx ≠ none := by
            cases mx with
            | none => simp only [boundA, Option.some.injEq] at hm; exact .inl hm.symm
            | some v => right; simp
          refine ⟨?_, ?_, ?_⟩
          · rcases b hl with ⟨_, rfl⟩ | h1
            · exact Nat.zero_le _
            · exact h1
          · rcases b hh with ⟨h0, rfl⟩ | h1
            · subst h0
              cases mx with
              | none => simp only [boundA, Option.some.injEq] at hm; omega
              | some v => exact (hne _ rfl rfl).elim
            · exact h1
          · intro h0; subst h0; simp only [boundA, Option.some.injEq] at hm; exact hm.symm
        · cases e
      · cases e
  · cases e

theorem bounds_cap {len cap cap' : Nat} {lo hi : Option Value} {l h m : Nat} (hc : cap ≤ cap') (e : boundsA len cap lo hi none = some (l, h, m)) : boundsA len cap' lo hi none = some (l, h, cap') := by
  have b : ∀ {d y y' n : Nat} {x : Option Value}, y ≤ y' → boundA d y x = some n → boundA d y' x = some n := by
    intro d y y' n x hy e
    unfold boundA at e ⊢
    split at e
    · exact e
    · split at e
      · rename_i hc; rw [if_pos (by omega)]; exact e
      · cases e
    · cases e
  have hn : ∀ c, boundA c c none = some c := fun _ => rfl
  unfold boundsA at e ⊢
  rw [hn] at e ⊢
  cases hi with
  | none =>
    simp only at e ⊢
    have hl : boundA len cap none = some len := rfl
    have hl' : boundA len cap' none = some len := rfl
    rw [hl] at e
    rw [hl']
    simp only at e ⊢
    split at e
    · cases e; rfl
    · cases e
  | some u =>
    simp only at e ⊢
    split at e
    · rename_i h' hh
      rw [b hc hh]
      simp only
      split at e
      · cases e; rfl
      · cases e
    · cases e

theorem add_rel {b off n : Nat} {L : Loc} : Addr.add ⟨L.blk, L.off + off, none⟩ n = ⟨L.blk, L.off + (off + n), none⟩ := by
  rw [Addr.add_lit, Nat.add_assoc]

theorem sliceSl_sound {t el : TypeId} {size : Nat} {x x' r : Value} {lo hi mx lo' hi' mx' : Option Value} (hu : P.underlying t = some (.slice el)) (hz : sizeT P el = some size)
    (hx : VRel μ x x') (h1 : ORel μ lo lo') (h2 : ORel μ hi hi') (h3 : ORel μ mx mx') (hstr : ∀ s, x ≠ .string s) (e : sliceSl size x lo hi mx = some r) :
    ∃ r', (Instr.slice t x' lo' hi' mx').run P w = .ok r' w ∧ VRel μ r r' := by
  have run : ∀ (a : Option Addr) (len cap : Nat) {l h m : Nat}, boundsA len cap lo' hi' mx' = some (l, h, m) →
      (Instr.slice t (.slice a len cap) lo' hi' mx').run P w = .ok (.slice (if m = l then a else a.map (·.add (l * size))) (h - l) (m - l)) w := by
    intro a len cap l h m hb
    unfold Instr.slice
    simp [run_underlying hu, run_bounds (P := P) (w := w) hb, run_sizeT w hz]
  unfold sliceSl at e
  split at e
  · rename_i len cap
    split at e
    · rename_i l h m hb
      cases e
      obtain ⟨rfl, rfl, rfl⟩ := bounds_eq h1 h2 h3 hb
      rw [hx.flat_eq rfl]
      exact ⟨_, run _ _ _ hb, by
        have : (if m = l then (none : Option Addr) else Option.map (fun (a : Addr) => a.add (l * size)) none) = none := by split <;> rfl
        rw [this]; exact .flat rfl⟩
    · cases e
  · rename_i b off len cap
    split at e
    · rename_i l h m hb
      cases e
      obtain ⟨rfl, rfl, rfl⟩ := bounds_eq h1 h2 h3 hb
      cases hx with
      | flat h => simp [flat] at h
      | slice hL =>
        rename_i L
        refine ⟨_, run _ _ _ hb, ?_⟩
        by_cases hm : m = l
        · simp only [hm, if_true]; exact .slice hL
        · simp only [hm, if_false, Option.map_some, Addr.add_lit]
          have := VRel.slice (off := off + l * size) (len := h - l) (cap := m - l) hL
          rw [← Nat.add_assoc] at this
          exact this
    · cases e
  · rename_i b off s len cap
    split at e
    · cases e
    · split at e
      · rename_i l h m hb
        split at e
        · rename_i hs
          subst hs
          cases e
          obtain ⟨rfl, rfl, rfl⟩ := bounds_eq h1 h2 h3 hb
          cases hx with
          | flat h => simp [flat] at h
          | hid hL hl hc hm' g1 g2 =>
            rename_i cap' L
            have hb' := bounds_cap hc hb
            obtain ⟨k1, k2, k3⟩ := bounds_le hl hb
            have k3 := k3 rfl
            subst k3
            refine ⟨_, run _ _ _ hb', ?_⟩
            by_cases hm : cap' = l
            · simp only [hm, if_true]
              obtain rfl : m = l := by omega
              obtain rfl : h = m := by omega
              rw [Nat.sub_self]
              exact .hemp hL
            · simp only [hm, if_false, Option.map_some, Addr.add_lit]
              have e1 : off + l * s + (m - l) * s = off + m * s := by
                rw [Nat.add_assoc, ← Nat.add_mul]; congr 2; omega
              have e2 : off + l * s + (cap' - l) * s = off + cap' * s := by
                rw [Nat.add_assoc, ← Nat.add_mul]; congr 2; omega
              have := VRel.hid (off := off + l * s) (len := h - l) (cap := m - l) (cap' := cap' - l) (s := s) hL (by omega) (by omega) (by unfold maxLen at hm' ⊢; omega) (by omega) (by omega)
              rw [← Nat.add_assoc] at this
              exact this
          | hemp hL =>
            rename_i O L
            obtain ⟨k1, k2, k3⟩ := bounds_le (Nat.le_refl _) hb
            have k3 := k3 rfl
            subst k3
            obtain rfl : h = 0 := by omega
            obtain rfl : l = 0 := by omega
            refine ⟨_, run _ _ _ hb, ?_⟩
            simp only [if_true]
            exact .hemp hL
        · cases e
      · cases e
  · exact absurd rfl (hstr _)
  · cases e

theorem sliceArr_sound {n size : Nat} {x x' r : Value} {lo hi mx lo' hi' mx' : Option Value} (hx : VRel μ x x') (h1 : ORel μ lo lo') (h2 : ORel μ hi hi') (h3 : ORel μ mx mx')
    (e : sliceArr n size x lo hi mx = some r) :
    ∃ a l h m, x' = .pointer (some a) ∧ lo' = lo ∧ hi' = hi ∧ mx' = mx ∧ boundsA n n lo hi mx = some (l, h, m) ∧ VRel μ r (.slice (some (if m = l then a else a.add (l * size))) (h - l) (m - l)) := by
  unfold sliceArr at e
  split at e
  · rename_i b off
    split at e
    · rename_i l h m hb
      cases e
      obtain ⟨e1, e2, e3⟩ := bounds_eq h1 h2 h3 hb
      obtain ⟨L, hL, rfl⟩ := addrOf_rel hx
      refine ⟨_, l, h, m, rfl, e1, e2, e3, hb, ?_⟩
      by_cases hm : m = l
      · simp only [hm, if_true]; exact .slice hL
      · simp only [hm, if_false, Addr.add_lit]
        have := VRel.slice (off := off + l * size) (len := h - l) (cap := m - l) hL
        rw [← Nat.add_assoc] at this
        exact this
    · cases e
  · cases e

theorem slice_sound {t : TypeId} {x x' r : Value} {lo hi mx lo' hi' mx' : Option Value} (hx : VRel μ x x') (h1 : ORel μ lo lo') (h2 : ORel μ hi hi') (h3 : ORel μ mx mx') (e : sliceA P t x lo hi mx = some r) :
    ∃ r', (Instr.sliceAt t x' lo' hi' mx').run P w = .ok r' w ∧ VRel μ r r' := by
  unfold sliceA at e
  split at e
  · rename_i n el hu
    simp only [Option.bind_eq_some_iff] at e
    obtain ⟨z, hz, e⟩ := e
    obtain ⟨a, l, h, m, rfl, rfl, rfl, rfl, hb, hv⟩ := sliceArr_sound hx h1 h2 h3 e
    exact ⟨_, by simp [Instr.sliceAt, run_underlying hu, Instr.sureAddr, run_bounds (P := P) (w := w) hb, run_sizeT w hz], hv⟩
  · rename_i arr hu
    split at e
    · rename_i n el ha
      simp only [Option.bind_eq_some_iff] at e
      obtain ⟨z, hz, e⟩ := e
      obtain ⟨a, l, h, m, rfl, rfl, rfl, rfl, hb, hv⟩ := sliceArr_sound hx h1 h2 h3 e
      exact ⟨_, by simp [Instr.sliceAt, Instr.slice, run_underlying hu, run_underlying ha, asAddr, run_bounds (P := P) (w := w) hb, run_sizeT w hz], hv⟩
    · cases e
  · rename_i el hu
    split at e
    · cases e
    · rename_i hns
      simp only [Option.bind_eq_some_iff] at e
      obtain ⟨z, hz, e⟩ := e
      obtain ⟨r', hrun, hv⟩ := sliceSl_sound (P := P) (w := w) hu hz hx h1 h2 h3 (fun s h => hns s h) e
      exact ⟨r', by simpa [Instr.sliceAt, run_underlying hu] using hrun, hv⟩
  · rename_i hu
    split at e
    · rename_i sb
      unfold sliceSl at e
      simp only at e
      split at e
      · cases e
      · split at e
        · rename_i l h m hb
          cases e
          obtain ⟨rfl, rfl, rfl⟩ := bounds_eq h1 h2 h3 hb
          rw [hx.flat_eq rfl]
          exact ⟨_, by simp [Instr.sliceAt, Instr.slice, run_underlying hu, run_bounds (P := P) (w := w) hb], .flat rfl⟩
        · cases e
    · cases e
  · cases e

theorem addP_rel {v v' r : Value} {n : Nat} (hv : VRel μ v v') (e : addP v n = some r) : ∃ a, v' = .pointer (some a) ∧ VRel μ r (.pointer (some (a.add n))) := by
  unfold addP at e
  split at e
  · rename_i b off
    cases e
    obtain ⟨L, hL, rfl⟩ := addrOf_rel hv
    refine ⟨_, rfl, ?_⟩
    rw [Addr.add_lit]
    have := VRel.ptr (off := off + n) hL
    rw [← Nat.add_assoc] at this
    exact this
  · cases e

theorem fieldAt_sound {t : TypeId} {x x' r : Value} {i : Nat} (hx : VRel μ x x') (e : fieldAtA P t x i = some r) : ∃ r', (Instr.fieldAt t x' i).run P w = .ok r' w ∧ VRel μ r r' := by
  unfold fieldAtA at e
  split at e
  · rename_i fs hu
    split at e
    · rename_i f hf
      split at e
      · rename_i n hn
        split at e
        · cases e
        · rename_i h0
          obtain ⟨a, rfl, hv⟩ := addP_rel hx e
          refine ⟨_, ?_, hv⟩
          simp [Instr.fieldAt, run_underlying hu, hf, Instr.sureAddr, fieldPlace, run_sizeT w hn, h0]
      · cases e
    · cases e
  · cases e

theorem indexAt_sound {t : TypeId} {x x' ix ix' r : Value} (hx : VRel μ x x') (hi : VRel μ ix ix') (e : indexAtA P t x ix = some r) : ∃ r', (Instr.indexAt t x' ix').run P w = .ok r' w ∧ VRel μ r r' := by
  unfold indexAtA at e
  split at e
  · rename_i n el hu
    simp only [Option.bind_eq_some_iff] at e
    obtain ⟨z, hz, e⟩ := e
    unfold idxA at e
    split at e
    · rename_i k i
      rw [hi.int]
      split at e
      · rename_i hc
        obtain ⟨a, rfl, hv⟩ := addP_rel hx e
        refine ⟨_, ?_, hv⟩
        simp [Instr.indexAt, asIntOf, run_underlying hu, Instr.sureAddr, hc, run_sizeT w hz]
      · cases e
    · cases e
  · rename_i el hu
    simp only [Option.bind_eq_some_iff] at e
    obtain ⟨z, hz, e⟩ := e
    unfold idxS at e
    split at e
    · rename_i b off sp len cap k i
      rw [hi.int]
      split at e
      · rename_i hc
        cases e
        have main : ∀ (L : Loc) (c' : Nat), μ b = some L → x' = .slice (some ⟨L.blk, L.off + off, none⟩) len c' → ∃ r', (Instr.indexAt t x' (.int k i)).run P w = .ok r' w ∧ VRel μ (ptr b (off + i.toNat * z)) r' := by
          rintro L c' hL rfl
          refine ⟨.pointer (some ⟨L.blk, L.off + off + i.toNat * z, none⟩), ?_, ?_⟩
          · simp [Instr.indexAt, asIntOf, run_underlying hu, hc, run_sizeT w hz, Addr.add_lit]
          · have := VRel.ptr (off := off + i.toNat * z) hL
            rw [← Nat.add_assoc] at this
            exact this
        cases hx with
        | flat h => simp [flat] at h
        | slice h => exact main _ _ h rfl
        | hid h => exact main _ _ h rfl
        | hemp h => simp at hc; omega
      · cases e
    · cases e
  · cases e

theorem part_sound {t : TypeId} {cs cs' : Array Value} {off : Nat} {r : Value} (hc : LRel μ cs.toList cs'.toList) (e : partA P t cs off = some r) : ∃ r', (part t cs' off).run P w = .ok r' w ∧ VRel μ r r' := by
  unfold partA at e
  split at e
  · rename_i n ha hs
    cases e
    refine ⟨.agg (cs'.extract off (off + n)), by simp [part, run_aggT w ha, run_sizeT w hs], ?_⟩
    have := (hc.drop off).take n
    have e1 : cs.extract off (off + n) = ((cs.toList.drop off).take n).toArray := by
      apply Array.ext'; simp
    have e2 : cs'.extract off (off + n) = ((cs'.toList.drop off).take n).toArray := by
      apply Array.ext'; simp
    rw [e1, e2]
    exact .of_list_agg this
  · rename_i n ha hs
    obtain ⟨y, hy, hv⟩ := hc.get (i := off) (by simpa using e)
    refine ⟨y, ?_, hv⟩
    have hy' : cs'[off]? = some y := by simpa using hy
    simp [part, run_aggT w ha, hy']
  · cases e

theorem field_sound {t : TypeId} {x x' r : Value} {i : Nat} (hx : VRel μ x x') (e : fieldA P t x i = some r) : ∃ r', (Instr.field t x' i).run P w = .ok r' w ∧ VRel μ r r' := by
  unfold fieldA at e
  split at e
  · rename_i fs cs hu
    split at e
    · rename_i f hf
      obtain ⟨ys, rfl, hl⟩ := hx.agg_iff
      obtain ⟨r', hrun, hv⟩ := part_sound (P := P) (w := w) hl e
      exact ⟨r', by simp [Instr.field, run_underlying hu, hf, asAgg, hrun], hv⟩
    · cases e
  · cases e

theorem index_sound {t : TypeId} {x x' ix ix' r : Value} (hx : VRel μ x x') (hi : VRel μ ix ix') (e : indexA P t x ix = some r) : ∃ r', (Instr.index t x' ix').run P w = .ok r' w ∧ VRel μ r r' := by
  unfold indexA at e
  split at e
  · rename_i n el cs k i hu
    split at e
    · rename_i hc
      simp only [Option.bind_eq_some_iff] at e
      obtain ⟨z, hz, e⟩ := e
      obtain ⟨ys, rfl, hl⟩ := hx.agg_iff
      rw [hi.int]
      obtain ⟨r', hrun, hv⟩ := part_sound (P := P) (w := w) hl e
      exact ⟨r', by simp [Instr.index, asIntOf, run_underlying hu, hc, run_sizeT w hz, hrun], hv⟩
    · cases e
  · rename_i s k i hu
    split at e
    · rename_i hc
      simp only [Option.map_eq_some_iff] at e
      obtain ⟨b, hb, rfl⟩ := e
      rw [hi.int, hx.flat_eq rfl]
      exact ⟨_, by simp [Instr.index, asIntOf, run_underlying hu, hc, hb], .flat rfl⟩
    · cases e
  · cases e

theorem extract_sound {x x' r : Value} {i : Nat} (hx : VRel μ x x') (e : extractA x i = some r) : ∃ r', (Instr.extract x' i).run P w = .ok r' w ∧ VRel μ r r' := by
  unfold extractA at e
  split at e
  · rename_i vs
    obtain ⟨ys, rfl, hl⟩ := hx.tuple_iff
    obtain ⟨y, hy, hv⟩ := hl.get (i := i) (by simpa using e)
    have hy' : ys[i]? = some y := by simpa using hy
    exact ⟨y, by simp [Instr.extract, hy'], hv⟩
  · cases e

end ops
end Go.Abs
