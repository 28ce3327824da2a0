/-
  DiskRotHides returns true at all numbers of blocks, all records and all calls, and leaves its arguments.
  Conditions: none beyond the given statement's.
-/
import Derived.Test.YtcmfgmhadeeieaaG9
import Derived.Test.YtcmfgmhadeeieaaRows
import Derived.ProofKit
namespace Go.Proofs.Ytcmfgmhadeeieaa
open Go Go.Abs
open Go.ChangeShapes Go.WideShapes Go.ChangeAt Go.RowKit

theorem Try.own : ownKnob Try.prog.godebug = none := by kernel_rfl
theorem Try.laidOut : laidOutB Try.prog = true := by kernel_rfl
theorem noGlobals : Try.prog.globals.size = 0 := by kernel_rfl

theorem nice_cell {P : Program} {W : World} {base : Nat} {t e : TypeId} {v : Value} (ht : P.underlying t = some (.slice e)) (h : Cell.okWide P W .any base t v) : nice W.heap.size v = true ∧ v.cells.toList = [v] := by
  unfold Cell.okWide at h
  rw [ht] at h
  simp only at h
  unfold Cell.ok at h
  rw [ht] at h
  cases v with
  | slice a l c =>
    cases a with
    | none => exact ⟨rfl, rfl⟩
    | some a =>
      simp only at h
      obtain ⟨_, _, _, hs, row, cells, hsh, _⟩ := h
      obtain ⟨b, off, s⟩ := a
      have hs' : s = none := hs
      subst hs'
      refine ⟨?_, rfl⟩
      have hb : b < W.heap.size := by
        unfold World.shape? at hsh
        split at hsh
        · rename_i heq
          exact (Array.getElem?_eq_some_iff.1 heq).1
        · cases hsh
      simpa [nice] using hb
  | _ => simp at h
theorem nice_slice {P : Program} {W : World} {base : Nat} {t e : TypeId} {v : Value} (ht : P.underlying t = some (.slice e)) (h : Value.okWide P W .any base t v) : nice W.heap.size v = true ∧ v.cells.toList = [v] := by
  unfold Value.okWide at h
  rw [ht] at h
  exact nice_cell ht h
/-- A list of records as an argument. -/
theorem trod_recsI {H : Type} {enc : TypeId × Value → H} {W : World} {fuel : Nat} {v : Value} {x : DataW H × List MemPlace} (hn : nice W.heap.size v = true) (h : DataW.trod enc Try.prog W 0 (fun _ => true) true fuel 31 [v] = some x) :
    ∃ ls, RecsI (topHeap W (view W)) v ls := by
  obtain ⟨_, ls, hls⟩ := trod_recs h
  rw [clean_flat hn] at hls
  refine ⟨ls, hls, ?_⟩
  rcases DataW.trod_slice Try.underlying31 h with ⟨h1, _⟩ | ⟨a, len, cap, elems, rest, n, _, h1, _, _, hlc, _⟩
  · cases h1
    exact ⟨none, 0, 0, rfl, Nat.le_refl _, fun y hy => by cases hy⟩
  · cases h1
    refine ⟨some a, len, cap, rfl, hlc, fun y hy _ => ?_⟩
    cases hy
    obtain ⟨b, off, s⟩ := a
    cases s with
    | none => rfl
    | some s => simp [nice, flat] at hn
theorem cellTypes34 : Try.prog.cellTypes Try.prog.depth 34 = some [3, 3, 3, 5, 32, 31] := by kernel_rfl
set_option maxRecDepth 100000 in
/-- A call as an argument. -/
theorem trod_opI {H : Type} {enc : TypeId × Value → H} {W : World} {base fuel : Nat} {v : Value} {x : DataW H × List MemPlace} (hv : Value.okWide Try.prog W .any base 34 v) (h : DataW.trod enc Try.prog W 0 (fun _ => true) true fuel 34 v.cells.toList = some x) :
    ∃ kind A B m da dn dc ra rn rc, v = .agg #[.int .i64 kind, .int .i64 A, .int .i64 B, u8 m, .slice da dn dc, .slice ra rn rc] ∧ inI64 A = true ∧ inI64 B = true ∧ m < 256 ∧ nice W.heap.size (.slice da dn dc) = true ∧ nice W.heap.size (.slice ra rn rc) = true := by
  unfold Value.okWide at hv
  rw [Try.underlying34] at hv
  simp only at hv
  obtain ⟨cs, rfl, hsz, ts, hts, _, hrow⟩ := hv
  rw [cellTypes34] at hts
  cases hts
  obtain ⟨c0, c1, c2, c3, c4, c5, op, hcs, hop⟩ := trod_op h
  obtain ⟨cs⟩ := cs
  have hcs : cs = [c0, c1, c2, c3, c4, c5] := hcs
  subst hcs
  have n4 : nice W.heap.size c4 = true := by
    obtain ⟨u, hu, hc⟩ := hrow 4 c4 rfl
    cases hu
    exact (nice_cell Try.underlying32 hc).1
  have n5 : nice W.heap.size c5 = true := by
    obtain ⟨u, hu, hc⟩ := hrow 5 c5 rfl
    cases hu
    exact (nice_cell Try.underlying31 hc).1
  have flatc : ∀ c k n, clean W.heap.size c = .int k n → c = .int k n := by
    intro c k n hc
    unfold clean at hc
    split at hc
    · exact hc
    · split at hc <;> cases hc
  have k0 := flatc _ _ _ (Option.some.inj hop.kind)
  have k1 := flatc _ _ _ (Option.some.inj hop.A)
  have k2 := flatc _ _ _ (Option.some.inj hop.B)
  have k3 := flatc _ _ _ (Option.some.inj hop.mask)
  obtain ⟨dv, d1, _, da, dn, dc, rfl, _⟩ := hop.data
  obtain ⟨rv, r1, _, ra, rn, rc, rfl, _⟩ := hop.recs
  replace d1 := Option.some.inj d1
  replace r1 := Option.some.inj r1
  rw [clean_flat n4] at d1
  rw [clean_flat n5] at r1
  subst k0 k1 k2 k3 d1 r1
  exact ⟨_, _, _, _, _, _, _, _, _, _, rfl, hop.wf.2.1, hop.wf.2.2.1, hop.wf.2.2.2, n4, n5⟩

set_option maxRecDepth 100000 in
theorem diskRotHides_lifted (os : Os) (started : os.Started) (H : Type) (enc : TypeId × Value → H) :
    ReturnsInHanded {} Try.checked os 6 .any (Rows.diskRotHidesSpec.pre6 enc Try.prog Try.f6 Rows.diskRotHidesRow.domain false) (Rows.diskRotHidesSpec.post enc Try.prog Try.f6 false true false false) := by
  refine returnsInHanded_of_change (C := Try.checked) Try.own started (by kernel_rfl) Try.func6
    (ChangeSpec.witness6 (enc := enc) (C := Try.checked) false ⟨#[], #[.int .i64 0, .slice none 0 0, .agg #[.int .i64 0, .int .i64 0, .int .i64 0, .int .u8 0, .slice none 0 0, .slice none 0 0]], []⟩ 8 (by kernel_rfl) (by kernel_rfl) (by kernel_rfl) (by kernel_rfl)) ?_
  intro W base args ds gs before hval0 hW hcnd _
  have hval : ∀ (j : Nat) t v, Try.f6.params[j]? = some t → args[j]? = some v → Value.okWide Try.prog W .any base t v := hval0
  have hW' := hW
  have hlt := fun p hp => hW.lt p hp
  obtain ⟨p, q, hA0, hV, rfl, hfz, hnd⟩ := hW
  have hA : DataW.TrodAll enc Try.prog W 0 (fun _ => true) true Try.f6.params.toList args.toList ds p := hA0
  rw [Try.params6] at hA hval
  obtain ⟨v0, v1, v2, d0, d1, d2, p0, p1, p2, rfl, rfl, rfl, h0, h1, h2⟩ := trodAll_three hA
  obtain ⟨rfl, rfl⟩ := trodVars_none hV
  obtain ⟨a, rfl, rfl, rfl, wa⟩ := open_int Try.underlying3 (hval 0 3 v0 rfl rfl) h0
  obtain ⟨hn1, hc1⟩ := nice_slice Try.underlying31 (hval 1 31 v1 rfl rfl)
  have hv2 := hval 2 34 v2 rfl rfl
  clear hA0 hval0
  obtain ⟨fuel, hf⟩ := h1
  have hf' := hf
  rw [hc1] at hf'
  obtain ⟨ls, R⟩ := trod_recsI hn1 hf'
  obtain ⟨fuel2, hf2⟩ := h2
  obtain ⟨kind, A, B, m, da, dn, dc, ra, rn, rc, rfl, hA1, hB1, hm, hd, hr⟩ := trod_opI hv2 hf2
  have hrel : VRel (topMu W) (.agg #[.int .i64 kind, .int .i64 A, .int .i64 B, u8 m, .slice da dn dc, .slice ra rn rc]) (.agg #[.int .i64 kind, .int .i64 A, .int .i64 B, u8 m, .slice da dn dc, .slice ra rn rc]) := by
    refine VRel.agg rfl (fun i x y hx hy => ?_)
    rw [hx] at hy
    cases hy
    have hi : i < 6 := (Array.getElem?_eq_some_iff.1 hx).1
    match i, hi with
    | 0, _ => cases hx; exact .flat rfl
    | 1, _ => cases hx; exact .flat rfl
    | 2, _ => cases hx; exact .flat rfl
    | 3, _ => cases hx; exact .flat rfl
    | 4, _ => cases hx; exact nice_rel hd
    | 5, _ => cases hx; exact nice_rel hr
  have hbd : bdV W.heap.size (.agg #[.int .i64 kind, .int .i64 A, .int .i64 B, u8 m, .slice da dn dc, .slice ra rn rc]) = true := by
    show bdL W.heap.size [.int .i64 kind, .int .i64 A, .int .i64 B, u8 m, .slice da dn dc, .slice ra rn rc] = true
    simp [bdL, nice_bd hd, nice_bd hr, bdV_flat (n := W.heap.size) (v := .int .i64 kind) rfl, bdV_flat (n := W.heap.size) (v := .int .i64 A) rfl, bdV_flat (n := W.heap.size) (v := .int .i64 B) rfl, bdV_flat (n := W.heap.size) (v := u8 m) rfl]
  refine ((Contract.of_CC mixed XX_sound is6).call_data noGlobals [.int .i64 a, v1, _] [.int .i64 a, v1, _] W (LRel.cons (.flat rfl) (LRel.cons (nice_rel hn1) (LRel.cons hrel (LRel.nil _)))) (by
    simp only [bdL, nice_bd hn1, hbd, bdV_flat (n := W.heap.size) (v := .int .i64 a) rfl, Bool.and_true]) (.bool true) rfl (hides6 a R hm hA1 hB1)).mono fun e W' ⟨he, hbelow⟩ => ?_
  have h1' := Below.trod Try.laidOut (by kernel_rfl) (of_decide_eq_true (by kernel_rfl)) (⟨fuel, hf⟩ : DataW.Trod enc Try.prog W 0 (fun _ => true) true 31 v1 d1 p1) hbelow (fun x hx => hlt x (by simp [hx]))
  have h2' := Below.trod Try.laidOut (by kernel_rfl) (of_decide_eq_true (by kernel_rfl)) (⟨fuel2, hf2⟩ : DataW.Trod enc Try.prog W 0 (fun _ => true) true 34 _ d2 p2) hbelow (fun x hx => hlt x (by simp [hx]))
  exact ⟨_, he, _, _, _, [], _, [], hW', trodAll_mk1 (shut_bool Try.underlying4 true), trodAll_mk3 (shut_int Try.underlying3 wa) h1' h2', rfl, hbelow.frame _, fun h => by cases h⟩

theorem diskRotHides_holds : Rows.DiskRotHidesSaid :=
  OpenClaim.holds_of_wide 6 Try.f6 rfl rfl rfl rfl rfl rfl rfl ⟨rfl, rfl, rfl, rfl, rfl⟩ rfl rfl rfl rfl rfl (by kernel_rfl) Try.func6 (by kernel_rfl)
    (of_decide_eq_true (by kernel_rfl)) (by unfold Func.isWrapper; first | (rw [if_pos (by decide +kernel)]; kernel_rfl) | (rw [if_neg (by decide +kernel)]; exact ⟨rfl, rfl⟩))
    (fun os started H enc _ => diskRotHides_lifted os started H enc)
end Go.Proofs.Ytcmfgmhadeeieaa

