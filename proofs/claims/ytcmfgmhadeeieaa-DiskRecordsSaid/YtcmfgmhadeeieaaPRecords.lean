/-
  DiskRecords returns true at all numbers of blocks and all records, and leaves its arguments.
  Conditions: none beyond the given statement's.
-/
import Derived.Test.YtcmfgmhadeeieaaG8
import Derived.Test.YtcmfgmhadeeieaaRows
import Derived.ProofKit
namespace Go.Proofs.Ytcmfgmhadeeieaa
open Go Go.Abs
open Go.ChangeShapes Go.WideShapes Go.ChangeAt Go.RowKit

theorem Try.own : ownKnob Try.prog.godebug = none := by kernel_rfl
theorem Try.laidOut : laidOutB Try.prog = true := by kernel_rfl
theorem noGlobals : Try.prog.globals.size = 0 := by kernel_rfl

theorem nice_cell {P : Program} {W : World} {base : Nat} {t e : TypeId} {v : Value} (ht : P.underlying t = some (.slice e)) (h : Cell.okWide P W .any base t v) : nice W.heap.size v = true ∧ v.cells.toList = [v] := by
  unfold Cell.okWide at h
  rw [ht] at h
  simp only at h
  unfold Cell.ok at h
  rw [ht] at h
  cases v with
  | slice a l c =>
    cases a with
    | none => exact ⟨rfl, rfl⟩
    | some a =>
      simp only at h
      obtain ⟨_, _, _, hs, row, cells, hsh, _⟩ := h
      obtain ⟨b, off, s⟩ := a
      have hs' : s = none := hs
      subst hs'
      refine ⟨?_, rfl⟩
      have hb : b < W.heap.size := by
        unfold World.shape? at hsh
        split at hsh
        · rename_i heq
          exact (Array.getElem?_eq_some_iff.1 heq).1
        · cases hsh
      simpa [nice] using hb
  | _ => simp at h
theorem nice_slice {P : Program} {W : World} {base : Nat} {t e : TypeId} {v : Value} (ht : P.underlying t = some (.slice e)) (h : Value.okWide P W .any base t v) : nice W.heap.size v = true ∧ v.cells.toList = [v] := by
  unfold Value.okWide at h
  rw [ht] at h
  exact nice_cell ht h
/-- A list of records as an argument. -/
theorem trod_recsI {H : Type} {enc : TypeId × Value → H} {W : World} {fuel : Nat} {v : Value} {x : DataW H × List MemPlace} (hn : nice W.heap.size v = true) (h : DataW.trod enc Try.prog W 0 (fun _ => true) true fuel 31 [v] = some x) :
    ∃ ls, RecsI (topHeap W (view W)) v ls := by
  obtain ⟨_, ls, hls⟩ := trod_recs h
  rw [clean_flat hn] at hls
  refine ⟨ls, hls, ?_⟩
  rcases DataW.trod_slice Try.underlying31 h with ⟨h1, _⟩ | ⟨a, len, cap, elems, rest, n, _, h1, _, _, hlc, _⟩
  · cases h1
    exact ⟨none, 0, 0, rfl, Nat.le_refl _, fun y hy => by cases hy⟩
  · cases h1
    refine ⟨some a, len, cap, rfl, hlc, fun y hy _ => ?_⟩
    cases hy
    obtain ⟨b, off, s⟩ := a
    cases s with
    | none => rfl
    | some s => simp [nice, flat] at hn
set_option maxRecDepth 100000 in
theorem diskRecords_lifted (os : Os) (started : os.Started) (H : Type) (enc : TypeId × Value → H) :
    ReturnsInHanded {} Try.checked os 5 .any (Rows.diskRecordsSpec.pre6 enc Try.prog Try.f5 Rows.diskRecordsRow.domain false) (Rows.diskRecordsSpec.post enc Try.prog Try.f5 false true false false) := by
  refine returnsInHanded_of_change (C := Try.checked) Try.own started (by kernel_rfl) Try.func5
    (ChangeSpec.witness6 (enc := enc) (C := Try.checked) false ⟨#[], #[.int .i64 0, .slice none 0 0, .slice none 0 0], []⟩ 8 (by kernel_rfl) (by kernel_rfl) (by kernel_rfl) (by kernel_rfl)) ?_
  intro W base args ds gs before hval0 hW hcnd _
  have hval : ∀ (j : Nat) t v, Try.f5.params[j]? = some t → args[j]? = some v → Value.okWide Try.prog W .any base t v := hval0
  have hW' := hW
  have hlt := fun p hp => hW.lt p hp
  obtain ⟨p, q, hA0, hV, rfl, hfz, hnd⟩ := hW
  have hA : DataW.TrodAll enc Try.prog W 0 (fun _ => true) true Try.f5.params.toList args.toList ds p := hA0
  rw [Try.params5] at hA hval
  obtain ⟨v0, v1, v2, d0, d1, d2, p0, p1, p2, rfl, rfl, rfl, h0, h1, h2⟩ := trodAll_three hA
  obtain ⟨rfl, rfl⟩ := trodVars_none hV
  obtain ⟨a, rfl, rfl, rfl, wa⟩ := open_int Try.underlying3 (hval 0 3 v0 rfl rfl) h0
  obtain ⟨hn1, hc1⟩ := nice_slice Try.underlying31 (hval 1 31 v1 rfl rfl)
  obtain ⟨hn2, hc2⟩ := nice_slice Try.underlying31 (hval 2 31 v2 rfl rfl)
  clear hA0 hval0
  obtain ⟨fuel, hf⟩ := h1
  have hf' := hf
  rw [hc1] at hf'
  obtain ⟨ls, R⟩ := trod_recsI hn1 hf'
  obtain ⟨fuel2, hf2⟩ := h2
  have hf2' := hf2
  rw [hc2] at hf2'
  obtain ⟨ls2, R2⟩ := trod_recsI hn2 hf2'
  refine ((Contract.of_CC mixed XX_sound is5).call_data noGlobals [.int .i64 a, v1, v2] [.int .i64 a, v1, v2] W (LRel.cons (.flat rfl) (LRel.cons (nice_rel hn1) (LRel.cons (nice_rel hn2) (LRel.nil _)))) (by
    simp only [bdL, nice_bd hn1, nice_bd hn2, bdV_flat (n := W.heap.size) (v := .int .i64 a) rfl, Bool.and_true]) (.bool true) rfl (rec5 a R R2)).mono fun e W' ⟨he, hbelow⟩ => ?_
  have h1' := Below.trod Try.laidOut (by kernel_rfl) (of_decide_eq_true (by kernel_rfl)) (⟨fuel, hf⟩ : DataW.Trod enc Try.prog W 0 (fun _ => true) true 31 v1 d1 p1) hbelow (fun x hx => hlt x (by simp [hx]))
  have h2' := Below.trod Try.laidOut (by kernel_rfl) (of_decide_eq_true (by kernel_rfl)) (⟨fuel2, hf2⟩ : DataW.Trod enc Try.prog W 0 (fun _ => true) true 31 v2 d2 p2) hbelow (fun x hx => hlt x (by simp [hx]))
  exact ⟨_, he, _, _, _, [], _, [], hW', trodAll_mk1 (shut_bool Try.underlying4 true), trodAll_mk3 (shut_int Try.underlying3 wa) h1' h2', rfl, hbelow.frame _, fun h => by cases h⟩

theorem diskRecords_holds : Rows.DiskRecordsSaid :=
  OpenClaim.holds_of_wide 5 Try.f5 rfl rfl rfl rfl rfl rfl rfl ⟨rfl, rfl, rfl, rfl, rfl⟩ rfl rfl rfl rfl rfl (by kernel_rfl) Try.func5 (by kernel_rfl)
    (of_decide_eq_true (by kernel_rfl)) (by unfold Func.isWrapper; first | (rw [if_pos (by decide +kernel)]; kernel_rfl) | (rw [if_neg (by decide +kernel)]; exact ⟨rfl, rfl⟩))
    (fun os started H enc _ => diskRecords_lifted os started H enc)
end Go.Proofs.Ytcmfgmhadeeieaa

