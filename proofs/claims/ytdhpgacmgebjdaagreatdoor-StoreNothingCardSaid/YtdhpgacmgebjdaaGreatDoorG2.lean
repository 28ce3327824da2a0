/-
  The abstract machine: operations on values, rows of cells, as the model does them.
  Conditions: none (lemmas).
  The abstract machine: slices, addresses and parts of values, as the model has them.
  Conditions: none (lemmas).
  The abstract machine: append, copy, clear, len, max and min, as the model does them.
  Conditions: none (lemmas).
-/
import Derived.Test.YtdhpgacmgebjdaaGreatDoorG1
namespace Go.Abs
noncomputable section

theorem pureRun_sound {α : Type} {P : Program} (s : Sem α) {a : α} (h : pureRun P s = some a) (w : World) : s.run P w = .ok a w := by
  induction s with
  | pure b => simp [pureRun] at h; subst h; rfl
  | program k ih => simp only [pureRun] at h; simp only [Sem.run]; exact ih P h
  | _ => simp [pureRun] at h

theorem range_zeros (z : Array Value) (hz : 0 < z.size) : ∀ n, ((List.range (n * z.size)).map fun i => z[i % z.size]!) = zeros z.toList n
  | 0 => by simp [zeros]
  | n + 1 => by
    rw [Nat.succ_mul, List.range_add, List.map_append, range_zeros z hz n]
    simp only [zeros, List.range_succ, List.flatMap_append, List.flatMap_cons, List.flatMap_nil, List.append_nil]
    congr 1
    rw [List.map_map]
    apply List.ext_getElem?
    intro j
    rw [List.getElem?_map]
    by_cases hj : j < z.size
    · have h1 : (n * z.size + j) % z.size = j := by rw [Nat.mul_comm, Nat.mul_add_mod, Nat.mod_eq_of_lt hj]
      simp [List.getElem?_range hj, h1, hj]
    · rw [List.getElem?_eq_none (by simp; omega), List.getElem?_eq_none (by simp; omega)]; rfl

section ops
variable {P : Program} {μ : Mu} {h : Heap} {w : World}

theorem bits_sound {op : BinOp} {k : IntKind} {a b : Int} {r : Value} (e : bitsA op k a b = some r) : (Op.intBits op k a b).run P w = .ok r w := by
  unfold bitsA at e
  unfold Op.intBits
  cases op <;> simp at e ⊢ <;> exact e

theorem binI_sound {op : BinOp} {t : TypeId} {k k' : IntKind} {a b : Int} {r : Value} (e : binI op k k' a b = some r) : (binOp op t (.int k a) (.int k' b)).run P w = .ok r w := by
  unfold binI at e
  cases op
  case shl =>
    simp only at e
    split at e
    · cases e
    · rename_i hb
      cases e
      simp [binOp, Op.shift, hb]
  case shr =>
    simp only at e
    split at e
    · cases e
    · rename_i hb
      cases e
      simp [binOp, Op.shift, hb]
  all_goals
    simp only at e
    split at e
    · cases e
    · rename_i hk
      have hk' : k = k' := Decidable.not_not.1 hk
      subst hk'
      first
        | (simp only [Option.some.injEq] at e; subst e; simp [binOp, Op.intArith, Op.intCmp])
        | (split at e
           · cases e
           · rename_i hb
             cases e
             simp [binOp, Op.intDiv, hb])
        | (have := bits_sound (P := P) (w := w) e
           simp [binOp]; exact this)

/-- The same kind of value on both sides. -/
theorem VRel.nilptr {b : Option Addr} {v : Value} (hv : VRel μ (.pointer b) v) : ∃ b', v = .pointer b' ∧ b'.isNone = b.isNone := by
  cases hv with
  | flat h => exact ⟨b, rfl, rfl⟩
  | ptr h => exact ⟨_, rfl, rfl⟩
theorem VRel.nilslice {b : Option Addr} {l c : Nat} {v : Value} (hv : VRel μ (.slice b l c) v) : ∃ b' c', v = .slice b' l c' ∧ b'.isNone = b.isNone := by
  cases hv with
  | flat h => exact ⟨b, c, rfl, rfl⟩
  | slice h => exact ⟨_, _, rfl, rfl⟩
  | hid h => exact ⟨_, _, rfl, rfl⟩
  | hemp h => exact ⟨_, _, rfl, rfl⟩
  | zer => exact ⟨_, _, rfl, rfl⟩

theorem run_equal_ptr {t e : TypeId} (hu : P.underlying t = some (.pointer e)) (a b : Option Addr) (h : a = none ∨ b = none) :
    (Op.equal t (.pointer a) (.pointer b)).run P w = .ok (a.isNone && b.isNone) w := by
  show (Op.equalIn (9999 + 1) t (.pointer a) (.pointer b)).run P w = _
  unfold Op.equalIn
  rw [Sem.run_bind, run_underlying hu, Result.andThen_ok]
  rcases h with rfl | rfl
  · simp
  · cases a <;> simp
theorem run_equal_slice {t e : TypeId} (hu : P.underlying t = some (.slice e)) (a b : Option Addr) (l m c d : Nat) (h : a = none ∨ b = none) :
    (Op.equal t (.slice a l c) (.slice b m d)).run P w = .ok (a.isNone && b.isNone) w := by
  show (Op.equalIn (9999 + 1) t (.slice a l c) (.slice b m d)).run P w = _
  unfold Op.equalIn
  rw [Sem.run_bind, run_underlying hu, Result.andThen_ok]
  rcases h with rfl | rfl
  · simp
  · cases a <;> simp

theorem run_equal_map {t k e : TypeId} (hu : P.underlying t = some (.map k e)) (a b : Option Nat) (h : a = none ∨ b = none) :
    (Op.equal t (.map a) (.map b)).run P w = .ok (a.isNone && b.isNone) w := by
  show (Op.equalIn (9999 + 1) t (.map a) (.map b)).run P w = _
  unfold Op.equalIn
  rw [Sem.run_bind, run_underlying hu, Result.andThen_ok]
  rcases h with rfl | rfl
  · simp
  · cases a <;> simp
theorem VRel.nilmap {b : Option Nat} {v : Value} (hv : VRel μ (.map b) v) : ∃ b', v = .map b' ∧ b'.isNone = b.isNone := by
  cases hv with
  | flat h => exact ⟨b, rfl, rfl⟩
  | map h => exact ⟨_, rfl, rfl⟩
theorem isNone_orN {a b : Option Nat} (h : a.isNone = true ∨ b.isNone = true) : a = none ∨ b = none := by
  simpa [Option.isNone_iff_eq_none] using h
theorem isNone_or {a b : Option Addr} (h : a.isNone = true ∨ b.isNone = true) : a = none ∨ b = none := by
  simpa [Option.isNone_iff_eq_none] using h

theorem binA_sound {op : BinOp} {t : TypeId} {x y x' y' r : Value} (hx : VRel μ x x') (hy : VRel μ y y') (e : binA P op t x y = some r) :
    (binOp op t x' y').run P w = .ok r w := by
  unfold binA at e
  split at e
  · rw [hx.int, hy.int]; exact binI_sound e
  · rename_i a b
    obtain ⟨a', rfl, ha⟩ := hx.nilptr
    obtain ⟨b', rfl, hb⟩ := hy.nilptr
    split at e <;> first
      | (cases e; done)
      | (rename_i hu
         simp only [Option.some.injEq] at e
         subst e
         have hn : a' = none ∨ b' = none := isNone_or (by simp [ha, hb])
         simp [binOp, run_equal_ptr hu a' b' hn, ha, hb])
  · rename_i a l c b m d
    obtain ⟨a', c', rfl, ha⟩ := hx.nilslice
    obtain ⟨b', d', rfl, hb⟩ := hy.nilslice
    split at e <;> first
      | (cases e; done)
      | (rename_i hu
         simp only [Option.some.injEq] at e
         subst e
         have hn : a' = none ∨ b' = none := isNone_or (by simp [ha, hb])
         simp [binOp, run_equal_slice hu a' b' l m c' d' hn, ha, hb])
  · rename_i a b
    obtain ⟨a', rfl, ha⟩ := hx.nilmap
    obtain ⟨b', rfl, hb⟩ := hy.nilmap
    split at e <;> first
      | (cases e; done)
      | (rename_i hu
         simp only [Option.some.injEq] at e
         subst e
         have hn : a' = none ∨ b' = none := isNone_orN (by simp [ha, hb])
         simp [binOp, run_equal_map hu a' b' hn, ha, hb])
  · split at e
    · rename_i hg
      simp only [Bool.and_eq_true] at hg
      rw [hx.ground_eq hg.1, hy.ground_eq hg.2]
      split at e
      · rename_i r hr
        split at e
        · cases e; exact pureRun_sound _ hr w
        · cases e
      · cases e
    · cases e

theorem VRel.to_nilIface {x : Value} (hx : VRel μ x .nilIface) : x = .nilIface := by cases hx; rfl
theorem VRel.to_agg {x : Value} {ys : Array Value} (hx : VRel μ x (.agg ys)) : ∃ xs, x = .agg xs := by
  cases hx with
  | flat h => simp [Abs.flat] at h
  | agg _ _ => exact ⟨_, rfl⟩

theorem eqGuard_sound {op : BinOp} {t : TypeId} {ox oy : Operand} {x y x' y' : Value} (hx : VRel μ x x') (hy : VRel μ y y') (e : eqOk P op t x y = true) :
    (eqGuard op t ox oy x' y').run P w = .ok () w := by
  have key : op = .eql ∨ op = .neq ∨ (op ≠ .eql ∧ op ≠ .neq) := by cases op <;> simp
  have main : (op = .eql ∨ op = .neq) → (eqGuard op t ox oy x' y').run P w = .ok () w := by
    intro h1
    have hm : ∀ (o : BinOp), o = op → (eqGuard o t ox oy x' y').run P w = .ok () w := by
      intro o ho
      rcases h1 with h1 | h1 <;> (
        rw [h1] at ho; subst ho; rw [h1] at e
        unfold eqGuard
        simp only [Bool.not_true, Bool.false_eq_true, if_false]
        split
        · have := hx.to_nilIface
          have := hy.to_nilIface
          subst_vars
          simp [eqOk] at e
        · obtain ⟨xs, rfl⟩ := hx.to_agg
          obtain ⟨ys, rfl⟩ := hy.to_agg
          simp [eqOk] at e
          simp [e]
        · rfl)
    exact hm op rfl
  rcases key with h1 | h1 | h1
  · exact main (.inl h1)
  · exact main (.inr h1)
  · have hm : eqGuard op t ox oy x' y' = pure () := by cases op <;> first | rfl | (simp at h1; done)
    rw [hm]; rfl

theorem bin_sound {op : BinOp} {t : TypeId} {ox oy : Operand} {x y x' y' r : Value} (hx : VRel μ x x') (hy : VRel μ y y') (e : bin P op t x y = some r) :
    (do eqGuard op t ox oy x' y'; binOp op t x' y' : Sem Value).run P w = .ok r w := by
  unfold bin at e
  split at e
  · rename_i hg
    rw [Sem.run_bind, eqGuard_sound hx hy hg, Result.andThen_ok]
    exact binA_sound hx hy e
  · cases e

theorem un_sound {op : UnOp} {x x' r : Value} (hx : VRel μ x x') (e : unA op x = some r) : (Op.unary op x').run P w = .ok r w := by
  unfold unA at e
  split at e
  · rw [hx.int]; cases e; simp [Op.unary, Op.intArith]
  · rw [hx.int]; simp only [Op.unary]; exact bits_sound e
  · rw [hx.bool]; cases e; simp [Op.unary]
  · cases e

theorem bits_flat {op : BinOp} {k : IntKind} {a b : Int} {r : Value} (e : bitsA op k a b = some r) : flat r = true := by
  unfold bitsA at e
  cases op <;> simp at e <;> subst e <;> rfl
theorem binI_flat {op : BinOp} {k k' : IntKind} {a b : Int} {r : Value} (e : binI op k k' a b = some r) : flat r = true := by
  unfold binI at e
  cases op <;> simp only at e <;> (repeat' split at e) <;> first
    | (cases e; done)
    | (simp only [Option.some.injEq] at e; subst e; rfl)
    | exact bits_flat e
theorem bin_flat {op : BinOp} {t : TypeId} {x y r : Value} (e : bin P op t x y = some r) : flat r = true := by
  unfold bin at e
  split at e
  · unfold binA at e
    split at e
    · exact binI_flat e
    · split at e <;> first
        | (cases e; done)
        | (simp only [Option.some.injEq] at e; subst e; rfl)
    · split at e <;> first
        | (cases e; done)
        | (simp only [Option.some.injEq] at e; subst e; rfl)
    · split at e <;> first
        | (cases e; done)
        | (simp only [Option.some.injEq] at e; subst e; rfl)
    · split at e
      · split at e
        · split at e
          · rename_i hf; cases e; exact hf
          · cases e
        · cases e
      · cases e
  · cases e
theorem un_flat {op : UnOp} {x r : Value} (e : unA op x = some r) : flat r = true := by
  unfold unA at e
  split at e
  · cases e; rfl
  · exact bits_flat e
  · cases e; rfl
  · cases e

theorem nilCheck_rel {x x' r : Value} (hx : VRel μ x x') (e : nilCheckA x = some r) : VRel μ r x' ∧ ((∃ a, x' = .pointer (some a)) ∨ (∃ f a b, x' = .func (.func f) a b) ∨ ∃ f a b, x' = .func (.yield f) a b) := by
  unfold nilCheckA at e
  split at e
  · cases e
    refine ⟨hx, ?_⟩
    cases hx with
    | flat h => simp [flat] at h
    | ptr h => exact .inl ⟨_, rfl⟩
  · cases e
    refine ⟨hx, ?_⟩
    cases hx with
    | flat h => exact .inr (.inl ⟨_, _, _, rfl⟩)
    | func hf _ _ _ _ => cases hf; exact .inr (.inl ⟨_, _, _, rfl⟩)
  · cases e
    refine ⟨hx, ?_⟩
    cases hx with
    | flat h => simp [flat] at h
    | func hf _ _ _ _ => obtain ⟨L, _, rfl⟩ := hf; exact .inr (.inr ⟨_, _, _, rfl⟩)
  · cases e

theorem buildSlice_sound {t : TypeId} {len : Nat} {aps : List (Nat × Value)} {cps : Array (Nat × Value)} {r : Value} {h' : Heap} (s : Sim μ h w) (hf : Free μ h h') (hl : aps.length = cps.size)
    (hr : ∀ (i : Nat) (x y : Nat × Value), aps[i]? = some x → cps.toList[i]? = some y → x.1 = y.1 ∧ VRel μ x.2 y.2) (e : buildSliceA P t len aps h = some (r, h')) :
    ∃ μ' r' w', (Instr.buildSlice t len cps).run P w = .ok r' w' ∧ Sim μ' h' w' ∧ Step μ h w μ' h' w' ∧ VRel μ' r r' := by
  unfold buildSliceA at e
  cases hu : P.underlying t with
  | none => rw [show elemT P t = none from by simp [elemT, hu]] at e; cases e
  | some d =>
    cases d with
    | slice el =>
      rw [show elemT P t = some el from by simp [elemT, hu]] at e
      simp only at e
      split at e
      · rename_i n z hn hz
        split at e
        · rename_i hc
          simp only [Bool.and_eq_true, decide_eq_true_eq] at hc
          obtain ⟨⟨⟨⟨hfl, hzn⟩, hpos⟩, hsz⟩, hone⟩ := hc
          split at e
          · rename_i cs hcs
            simp only [Option.some.injEq, Prod.mk.injEq] at e
            obtain ⟨rfl, rfl⟩ := e
            have hz1 : zeros z.cells.toList len = (List.range (len * n)).map fun i => z.cells[i % z.cells.size]! := by
              rw [← hzn, range_zeros z.cells (by omega)]
            obtain ⟨out, ho, hrel⟩ := fill_sound (Parts.of_array (n := n) (by simpa using hl) hr) (LRel.of_flat (μ := μ) (l := zeros z.cells.toList len) (by
              simp only [flatAll, List.all_eq_true, zeros, List.mem_flatMap] at hfl ⊢
              rintro x ⟨_, _, hx⟩; exact hfl x hx)) hcs
            have harr : (Array.range (len * n)).map (fun i => z.cells[i % z.cells.size]!) = (zeros z.cells.toList len).toArray := by
              apply Array.ext'
              rw [hz1]; simp
            obtain ⟨μ', w', hrun, hS, hSt, L, hL, hB, hO, _⟩ := newRow_sound (P := P) s hf hrel el
            refine ⟨μ', .slice (some ⟨w.heap.size, 0, none⟩) len len, w', ?_, hS, hSt, ?_⟩
            · by_cases hlen : len * n = 0
              · have hnil : zeros z.cells.toList len = [] := by rw [hz1, hlen]; rfl
                rw [hnil] at ho
                simp only [Instr.buildSlice, Sem.run_bind, run_underlying hu, Result.andThen_ok, run_sizeT w hn]
                rw [if_neg (by omega)]
                have ho' : Instr.fill (fun i => some (i * n, n)) #[] cps.toList = some out.toArray := ho
                have hr0 : Array.range (len * n) = #[] := by rw [hlen]; rfl
                rw [if_pos hlen, hr0]
                simp [ho', hrun]
              · simp only [Instr.buildSlice, Sem.run_bind, run_underlying hu, Result.andThen_ok, run_sizeT w hn]
                rw [if_neg (by omega)]
                simp only [hlen, if_false, Sem.run_bind, run_zeroT w hz, Result.andThen_ok, Sem.run_pure, harr, ho, hrun]
            · have := VRel.slice (off := 0) (len := len) (cap := len) hL
              rw [hB, hO] at this
              exact this
          · cases e
        · cases e
      · cases e
    | _ => rw [show elemT P t = none from by simp [elemT, hu]] at e; cases e



theorem modify_push {α : Type} (a : Array α) (x : α) (f : α → α) : (a.push x).modify a.size f = a.push (f x) := by
  apply Array.ext
  · simp
  · intro i h1 h2
    rw [Array.getElem_modify]
    by_cases e : a.size = i
    · subst e; simp
    · rw [if_neg e, Array.getElem_push, Array.getElem_push]
      simp at h1
      rw [dif_pos (by omega), dif_pos (by omega)]

theorem freeze_push (w : World) (arr : Array Value) (e : TypeId) :
    ({ w with heap := w.heap.push (.cells arr e (0, 0)) } : World).freeze ⟨w.heap.size, arr.size, none⟩ 1 = { w with heap := w.heap.push (.cells arr e (arr.size, arr.size + 1)) } := by
  unfold World.freeze
  rw [if_neg (by decide)]
  simp only [modify_push]
  rfl

/-- The row that a conversion of a string makes. -/
theorem run_stringToBytes (e : TypeId) (sb : ByteArray) (hsz : sb.size ≤ maxLen) : ∃ cap arr, sb.size ≤ cap ∧ cap ≤ maxLen ∧ arr.size = cap ∧
    (arr.toList.take sb.size = sb.data.toList.map fun b => .int .u8 b.toNat) ∧
    (Conv.stringToBytes e sb).run P w = .ok (.slice (some ⟨w.heap.size, 0, none⟩) sb.size cap) { w.drew with heap := w.heap.push (.cells arr e (arr.size, arr.size + 1)) } := by
  have hge := grownCap_ge w sb.size 0 e
  have hle := grownCap_le_maxLen w sb.size 0 e hsz
  have hds : sb.data.size = sb.size := rfl
  refine ⟨grownCap w sb.size 0 e, (sb.data.map fun (b : UInt8) => Value.int .u8 (b.toNat : Int)) ++ Array.replicate (grownCap w sb.size 0 e - sb.size) (.int .u8 0), hge, hle, ?_, ?_, ?_⟩
  · simp [Array.size_append]; omega
  · rw [Array.toList_append, List.take_append_of_le_length (by simp [hds]), List.take_of_length_le (by simp [hds])]
    simp
  · unfold Conv.stringToBytes markStringish
    rw [Sem.run_bind, run_choose]
    simp only [Question.forced, Bool.false_eq_true, if_false, Result.andThen_ok, Sem.run_bind, Go.newRow, run_newObj, Sem.run_pure, run_shape, World.shape?, Array.getElem?_push_size, run_freeze]
    have := freeze_push w.drew ((sb.data.map fun (b : UInt8) => Value.int .u8 (b.toNat : Int)) ++ Array.replicate (grownCap w sb.size 0 e - sb.size) (.int .u8 0)) e
    exact congrArg (Result.ok _) this

/-- A mark behind the cells of a block. -/
theorem Sim.freeze {b O : Nat} {k : Blk} {L : Loc} (s : Sim μ h w) (hb : h.n0 ≤ b) (hg : h.get b = some k) (hL : μ b = some L) :
    ∃ w', (markStringish ⟨L.blk, O, none⟩).run P w = .ok () w' ∧ Sim μ h w' ∧ Step μ h w μ h w' := by
  obtain ⟨L', arr, T, fr, h1, h2, h4, h5, h6, h7, h8, h9⟩ := s.new b k hb hg
  rw [hL] at h1; cases h1
  have hsame : ∀ B, B ≠ L.blk → (w.freeze ⟨L.blk, arr.size, none⟩ 1).heap[B]? = w.heap[B]? := by
    intro B hB
    unfold World.freeze
    rw [if_neg (by decide)]
    simp only [Array.getElem?_modify]
    rw [if_neg (Ne.symm hB)]
  obtain ⟨fr', hfr', hnew⟩ : ∃ fr', arr.size ≤ fr'.1 ∧ (w.freeze ⟨L.blk, arr.size, none⟩ 1).heap[L.blk]? = some (.cells arr T fr') := by
    unfold World.freeze
    rw [if_neg (by decide)]
    simp only [Array.getElem?_modify]
    rw [if_pos trivial, h4]
    obtain ⟨lo, hi⟩ := fr
    simp only [Option.map_some]
    by_cases e : lo = hi
    · subst e; exact ⟨(arr.size, arr.size + 1), Nat.le_refl _, by simp⟩
    · refine ⟨(min lo arr.size, max hi (arr.size + 1)), ?_, by simp [e]⟩
      simp only at h7 ⊢
      omega
  refine ⟨w.freeze ⟨L.blk, arr.size, none⟩ 1, ?_, ⟨?_, ?_, ?_, s.inj, ?_, s.low⟩, ⟨fun _ _ => rfl, rfl, rfl, Nat.le_refl _, rfl, rfl, rfl, ?_, ?_, fun B hB => .inl hB, fun B r hB => ⟨r, by rw [hsame _ (by rintro rfl; rw [h4] at hB; cases hB)]; exact hB⟩, by simp [World.freeze]; try (repeat' split) <;> exact Nat.le_refl _⟩⟩
  · unfold markStringish
    simp only [Sem.run_bind, run_shape, World.shape?, h4, Result.andThen_ok, run_freeze]
  · intro c cs hc hcs
    obtain ⟨L2, a, T2, f2, g1, g2, g3, g4, g5⟩ := s.old c cs hc hcs
    exact ⟨L2, a, T2, f2, g1, g2, g3, by rw [hsame c (by omega)]; exact g4, g5⟩
  · intro c kc hc hgc
    by_cases e : c = b
    · subst e
      rw [hg] at hgc; cases hgc
      exact ⟨L, arr, T, fr', hL, h2, hnew, h5, h6, .inr hfr', h8, h9⟩
    · obtain ⟨L2, a, T2, f2, g1, g2, g4, g5⟩ := s.new c kc hc hgc
      exact ⟨L2, a, T2, f2, g1, g2, by rw [hsame _ (s.inj c b _ _ L2 L hc hb e (h.getB_of_get hgc) (h.getB_of_get hg) g1 hL)]; exact g4, g5⟩
  · intro c o hc hgc
    obtain ⟨L2, ob, g1, g2, g3, g4⟩ := s.obj c o hc hgc
    have e : c ≠ b := by
      rintro rfl
      rw [h.getB_of_get hg] at hgc
      cases hgc
    exact ⟨L2, ob, g1, by rw [hsame _ (s.inj c b _ _ L2 L hc hb e hgc (h.getB_of_get hg) g1 hL)]; exact g2, g3, g4⟩
  · unfold World.freeze; simpa using s.size
  · unfold World.freeze; simp
  · intro B hB hO
    exact hsame B (fun e => hO ⟨b, _, L, hb, h.getB_of_get hg, hL, e.symm⟩)

/-- Bytes out of cells. -/
theorem asByte_list {l : List Value} {bs : List UInt8} (e : l.mapM asByte = some bs) : ∃ ns : List Int, l = ns.map (Value.int .u8) ∧ ns.map (fun n => UInt8.ofNat n.toNat) = bs := by
  induction l generalizing bs with
  | nil => simp at e; subst e; exact ⟨[], rfl, rfl⟩
  | cons v l ih =>
    rw [List.mapM_cons] at e
    simp only [bind, Option.bind_eq_some_iff, pure, Option.some.injEq] at e
    obtain ⟨a, ha, r, hr, rfl⟩ := e
    unfold asByte at ha
    split at ha
    · rename_i n
      cases ha
      obtain ⟨ns, rfl, rfl⟩ := ih hr
      exact ⟨n :: ns, rfl, rfl⟩
    · cases ha
theorem foldl_push (ns : List Int) : ∀ (s : ByteArray), ns.foldl (fun r n => r.push (UInt8.ofNat n.toNat)) s = ⟨s.data ++ (ns.map fun n => UInt8.ofNat n.toNat).toArray⟩ := by
  induction ns with
  | nil => intro s; simp
  | cons n ns ih =>
    intro s
    simp only [List.foldl_cons, ih, List.map_cons]
    simp [ByteArray.push]

theorem firstA_slice {size n : Nat} {a : Option Addr} {len cap : Nat} {v' : Value} {cs : List Value} (s : Sim μ h w) (hx : VRel μ (.slice a len cap) v') (e : firstA size n (.slice a len cap) h = some cs) (hn : n ≤ len) (P : Program) :
    ∃ cs', (∀ w', w'.heap = w.heap → (Builtin.firstCells size n v').run P w' = .ok cs'.toArray w') ∧ LRel μ cs cs' ∧ ∀ a' l c, v' = .slice (some a') l c → (Go.loadCells a' (n * size)).run P w = .ok cs'.toArray w := by
  unfold firstA at e
  split at e
  · rename_i heq
    cases heq
    split at e
    · cases e
      rw [hx.flat_eq rfl]
      exact ⟨[], by intro w' _; simp [Builtin.firstCells], LRel.nil μ, by intro a' l c h; cases h⟩
    · cases e
  · rename_i b off sp l c heq
    cases heq
    split at e
    · rename_i h0
      cases e
      refine ⟨[], ?_, LRel.nil μ, ?_⟩
      · intro w' _; cases hx <;> simp [Builtin.firstCells, h0, Go.loadCells, Go.loadCellsFrom]
      · intro a' l c _; simp [h0, Go.loadCells, Go.loadCellsFrom]
    · rename_i h0
      split at e
      · rename_i k hk
        split at e
        · rename_i hle
          cases e
          have hne : n ≠ 0 := by rintro rfl; simp at h0
          obtain ⟨L, cs', hL, hr, hrun⟩ := s.loadCells hk hle.1 hle.2 P
          cases hx with
          | flat h => simp [flat] at h
          | slice h => rw [h] at hL; cases hL; exact ⟨cs', by simpa [Builtin.firstCells] using hrun, hr, by intro a' l c h; cases h; exact hrun w rfl⟩
          | hid h => rw [h] at hL; cases hL; exact ⟨cs', by simpa [Builtin.firstCells] using hrun, hr, by intro a' l c h; cases h; exact hrun w rfl⟩
          | hemp h => exact absurd hn (by omega)
          | zer => exact absurd hn (by omega)
        · cases e
      · cases e
  · rename_i heq; cases heq
  · cases e

theorem conv_sound {src dst : TypeId} {x x' r : Value} {h' : Heap} (s : Sim μ h w) (hf : Free μ h h') (hx : VRel μ x x') (e : convA P src dst x h = some (r, h')) :
    ∃ μ' r' w', (convert src dst x').run P w = .ok r' w' ∧ Sim μ' h' w' ∧ Step μ h w μ' h' w' ∧ VRel μ' r r' := by
  unfold convA at e
  split at e
  · rename_i hs hd
    rw [hx.int]
    cases e
    refine ⟨μ, _, w, ?_, s, .same_world, .flat rfl⟩
    simp [convert, run_underlying hs, run_underlying hd, Conv.intToInt]
  · rename_i hs hd
    rw [hx.flat_eq rfl]
    cases e
    refine ⟨μ, _, w, ?_, s, .same_world, .flat rfl⟩
    rename_i d _ _ _
    cases d <;> simp [convert, run_underlying hs, run_underlying hd]
  · rename_i d el sb hs hd
    rw [hx.flat_eq rfl]
    split at e
    · rename_i hel
      split at e
      · rename_i hsz
        simp only [Option.some.injEq, Prod.mk.injEq] at e
        obtain ⟨rfl, rfl⟩ := e
        obtain ⟨cap, arr, c1, c2, c3, c4, c5⟩ := run_stringToBytes (P := P) (w := w) el sb (by unfold maxLen; omega)
        obtain ⟨hS, hSt⟩ := s.alloc (k := sb.data.toList.map fun b => .int .u8 b.toNat) hf (arr := arr) (T := el) (fr := (arr.size, arr.size + 1)) (.inr (Nat.le_refl _))
          (by have : sb.data.size = sb.size := rfl; simp; omega)
          (by have : sb.data.size = sb.size := rfl
              simp only [List.length_map, Array.length_toList, this, c4]
              exact LRel.of_flat (by rw [flatAll, List.all_eq_true]; intro x hx; obtain ⟨b, _, rfl⟩ := List.mem_map.1 hx; rfl)) (w1 := { w.drew with heap := w.heap.push (.cells arr el (arr.size, arr.size + 1)) }) rfl rfl rfl rfl
        refine ⟨_, .slice (some ⟨w.heap.size, 0, none⟩) sb.size cap, _, ?_, hS, hSt, ?_⟩
        · have : (convert src dst (.string sb)).run P w = (Conv.stringToBytes el sb).run P w := by
            cases d <;> simp [convert, run_underlying hs, run_underlying hd, run_underlying hel]
          rw [this, c5]
        · have : sb.data.size = sb.size := rfl
          have := VRel.hid (μ := μ.put h.next ⟨w.heap.size, 0, arr.size, (sb.data.toList.map fun b => Value.int .u8 b.toNat).length⟩) (b := h.next) (off := 0) (len := sb.size) (cap := sb.size) (cap' := cap) (s := 1)
            (Mu.put_same _ _ _) (Nat.le_refl _) c1 c2 (by simp) (by simp only; omega)
          simpa using this
      · cases e
    · cases e
  · rename_i el0 el a n c hs hd
    split at e
    · rename_i hel
      split at e
      · rename_i hc
        simp only [Bool.and_eq_true, decide_eq_true_eq] at hc
        obtain ⟨⟨⟨rfl, hb⟩, hlive⟩, hsp⟩ := hc
        obtain ⟨k, hk⟩ := Option.isSome_iff_exists.1 hlive
        cases e
        rw [hs] at hd; cases hd
        have main : ∀ (L : Loc) (O c' : Nat), μ a.block = some L → x' = .slice (some ⟨L.blk, O, none⟩) n c' → ∃ μ' r' w', (convert src src x').run P w = .ok r' w' ∧ Sim μ' h w' ∧ Step μ h w μ' h w' ∧ VRel μ' (.slice (some a) n c) r' := by
          rintro L O c' hL rfl
          obtain ⟨w', hrun, hS, hSt⟩ := s.freeze (P := P) (O := O) hb hk hL
          refine ⟨μ, _, w', ?_, hS, hSt, hx⟩
          simp [convert, run_underlying hs, run_underlying hel, hrun]
        cases hx with
        | flat h => simp [flat] at h
        | slice h => exact main _ _ _ h rfl
        | hid h => exact main _ _ _ h rfl
        | hemp h => exact main _ _ _ h rfl
        | zer => simp at hsp
      · cases e
    · cases e
  · rename_i el a n c hs hd
    split at e
    · rename_i hel
      split at e
      · rename_i l hl
        split at e
        · rename_i bs hbs
          cases e
          obtain ⟨cs', h1, h2, h3⟩ := firstA_slice s hx hl (Nat.le_refl _) P
          obtain ⟨ns, rfl, rfl⟩ := asByte_list hbs
          have hcs : cs' = ns.map (Value.int .u8) := h2.flat_eq (by simp [flatAll, flat])
          subst hcs
          refine ⟨μ, .string ⟨(ns.map fun n => UInt8.ofNat n.toNat).toArray⟩, w, ?_, s, .same_world, .flat rfl⟩
          obtain ⟨b', c', rfl, hnone⟩ := hx.nilslice
          rw [run_convert_bytes_string w src dst el b' n c' hs hel hd]
          cases b' with
          | none =>
            have : a = none := by simpa using hnone.symm
            subst this
            have hns : ns = [] := by
              have hl' : (if n = 0 then some [] else none) = some (ns.map (Value.int .u8)) := hl
              split at hl'
              · simpa using (Option.some.inj hl').symm
              · simp at hl'
            subst hns
            rfl
          | some a' =>
            have hrun := h3 a' n c' rfl
            rw [Nat.mul_one] at hrun
            rw [run_bytesToString w a' n c' ns hrun, foldl_push]
            simp
        · cases e
      · cases e
    · cases e
  · cases e

end ops
end
end Go.Abs

namespace Go.Abs
noncomputable section

section ops
variable {P : Program} {μ : Mu} {h : Heap} {w : World}

theorem make_sound {t : TypeId} {l l' c c' r : Value} {h' : Heap} (s : Sim μ h w) (hf : Free μ h h') (hl : VRel μ l l') (hc : VRel μ c c') (e : makeA P t l c h = some (r, h')) :
    ∃ μ' r' w', (Instr.makeSlice t l' c').run P w = .ok r' w' ∧ Sim μ' h' w' ∧ Step μ h w μ' h' w' ∧ VRel μ' r r' := by
  unfold makeA at e
  cases hu : P.underlying t with
  | none => rw [show elemT P t = none from by simp [elemT, hu]] at e; cases e
  | some d =>
    cases d with
    | slice el =>
      rw [show elemT P t = some el from by simp [elemT, hu]] at e
      split at e
      · rename_i _ _ _ l c heq
        cases heq
        rw [hl.int, hc.int]
        split at e
        · rename_i n by_ z hn hb hz
          split at e
          · rename_i hcond
            simp only [Bool.and_eq_true, decide_eq_true_eq] at hcond
            obtain ⟨⟨⟨⟨⟨⟨h0, h1⟩, h2⟩, h3⟩, hfl⟩, hzn⟩, hpos⟩ := hcond
            simp only [Option.some.injEq, Prod.mk.injEq] at e
            obtain ⟨rfl, rfl⟩ := e
            obtain ⟨i, hi, hin⟩ := info_of_sizeT hn
            have hib : i.bytes = by_ := by simp only [bytesT, hi, Option.map_some, Option.some.injEq] at hb; exact hb
            have wl : IntKind.i64.wrap l = l := IntWalk.i64_in _ (by omega)
            have wc : IntKind.i64.wrap c = c := IntWalk.i64_in _ (by omega)
            have hz1 : zeros z.cells.toList c.toNat = (List.range (c.toNat * n)).map fun i => z.cells[i % z.cells.size]! := by
              rw [← hzn, range_zeros z.cells (by omega)]
            obtain ⟨μ', w', hrun, hS, hSt, L, hL, hB, hO, _⟩ := newRow_sound (P := P) s hf (LRel.of_flat (μ := μ) (l := zeros z.cells.toList c.toNat) (by
              simp only [flatAll, List.all_eq_true, zeros, List.mem_flatMap] at hfl ⊢
              rintro x ⟨_, _, hx⟩; exact hfl x hx)) el
            have harr : (Array.range (c.toNat * n)).map (fun i => z.cells[i % z.cells.size]!) = (zeros z.cells.toList c.toNat).toArray := by
              apply Array.ext'
              rw [hz1]; simp
            refine ⟨μ', .slice (some ⟨w.heap.size, 0, none⟩) l.toNat c.toNat, w', ?_, hS, hSt, ?_⟩
            · have hlarge : (decide (c < 0) || decide ((i.bytes : Int) * c > 2 ^ 48)) = false := by
                rw [hib]
                simp only [Bool.or_eq_false_iff, decide_eq_false_iff_not]
                refine ⟨by omega, ?_⟩
                have : (2 : Int) ^ 48 = 281474976710656 := by decide
                omega
              unfold Instr.makeSlice
              simp only [Sem.run_bind, run_underlying hu, Result.andThen_ok, asInt, asIntOf, Sem.run_pure, run_typeInfo w hi, wl, wc]
              rw [hlarge]
              have hlt : decide (l < 0) = false := by simp; omega
              have hgt : decide (l > c) = false := by simp; omega
              simp only [hlt, hgt, Bool.or_self, Bool.false_eq_true, if_false, Sem.run_bind, run_askRoom, Result.andThen_ok, run_sizeT w hn]
              by_cases hcz : c.toNat * n = 0
              · have hr0 : Array.range (c.toNat * n) = #[] := by rw [hcz]; rfl
                have hnil : zeros z.cells.toList c.toNat = [] := by rw [hz1, hcz]; rfl
                rw [hnil] at hrun
                rw [if_pos hcz, hr0]
                simp [hrun]
              · rw [if_neg hcz]
                simp only [Sem.run_bind, run_zeroT w hz, Result.andThen_ok, Sem.run_pure, harr, hrun]
            · have := VRel.slice (off := 0) (len := l.toNat) (cap := c.toNat) hL
              rw [hB, hO] at this
              exact this
          · cases e
        · cases e
      · cases e
    | _ => rw [show elemT P t = none from by simp [elemT, hu]] at e; cases e



/-- Optional operands on both sides. -/
def ORel (μ : Mu) (x y : Option Value) : Prop := (x = none ∧ y = none) ∨ ∃ a b, x = some a ∧ y = some b ∧ VRel μ a b

theorem bound_eq {d y n : Nat} {x x' : Option Value} (hx : ORel μ x x') (e : boundA d y x = some n) : x' = x := by
  rcases hx with ⟨rfl, rfl⟩ | ⟨a, b, rfl, rfl, hv⟩
  · rfl
  · unfold boundA at e
    split at e
    · rename_i heq; cases heq
    · rename_i k i heq; cases heq; rw [hv.int]
    · cases e
theorem bounds_eq {len cap : Nat} {lo hi mx lo' hi' mx' : Option Value} {r : Nat × Nat × Nat} (h1 : ORel μ lo lo') (h2 : ORel μ hi hi') (h3 : ORel μ mx mx') (e : boundsA len cap lo hi mx = some r) :
    lo' = lo ∧ hi' = hi ∧ mx' = mx := by
  unfold boundsA at e
  split at e
  · rename_i m hm
    split at e
    · cases e
    · split at e
      · rename_i h hh
        split at e
        · rename_i l hl
          exact ⟨bound_eq h1 hl, bound_eq h2 hh, bound_eq h3 hm⟩
        · cases e
      · cases e
  · cases e
theorem run_bound {d y n : Nat} {v : Value} {code : BoundsCode} (e : boundA d y (some v) = some n) : (Instr.sliceBound v y code).run P w = .ok n w := by
  unfold boundA at e
  split at e
  · rename_i heq; cases heq
  · rename_i k i heq
    cases heq
    split at e
    · rename_i hc
      cases e
      simp [Instr.sliceBound, asIntOf, hc]
    · cases e
  · cases e
theorem run_bounds {isSl : Bool} {len cap : Nat} {lo hi mx : Option Value} {r : Nat × Nat × Nat} (e : boundsA len cap lo hi mx = some r) :
    (Instr.sliceBounds isSl len cap lo hi mx).run P w = .ok r w := by
  unfold boundsA at e
  split at e
  · rename_i m hm
    split at e
    · cases e
    · rename_i hne
      split at e
      · rename_i h hh
        split at e
        · rename_i l hl
          cases e
          unfold Instr.sliceBounds
          cases mx with
          | none =>
            simp only [boundA, Option.some.injEq] at hm
            subst hm
            cases hi with
            | none =>
              simp only [boundA, Option.some.injEq] at hh
              subst hh
              cases lo with
              | none => simp only [boundA, Option.some.injEq] at hl; subst hl; simp
              | some v => simp [run_bound hl]
            | some u =>
              cases lo with
              | none => simp only [boundA, Option.some.injEq] at hl; subst hl; simp [run_bound hh]
              | some v => simp [run_bound hl, run_bound hh]
          | some t =>
            cases hi with
            | none => exact (hne _ rfl rfl).elim
            | some u =>
              cases lo with
              | none => simp only [boundA, Option.some.injEq] at hl; subst hl; simp [run_bound hh, run_bound hm]
              | some v => simp [run_bound hl, run_bound hh, run_bound hm]
        · cases e
      · cases e
  · cases e

theorem bounds_le {len cap : Nat} {lo hi mx : Option Value} {l h m : Nat} (hlc : len ≤ cap) (e : boundsA len cap lo hi mx = some (l, h, m)) : l ≤ h ∧ h ≤ m ∧ (mx = none → m = cap) := by
  have b : ∀ {d y n : Nat} {x : Option Value}, boundA d y x = some n → (x = none ∧ n = d) ∨ n ≤ y := by
    intro d y n x e
    unfold boundA at e
    split at e
    · cases e; exact .inl ⟨rfl, rfl⟩
    · split at e
      · rename_i hc; cases e; right; omega
      · cases e
    · cases e
  unfold boundsA at e
  split at e
  · rename_i m' hm
    split at e
    · cases e
    · rename_i hne
      split at e
      · rename_i h' hh
        split at e
        · rename_i l' hl
          cases e
          have hm' : m = cap ∨ mx ≠ none := by
            cases mx with
            | none => simp only [boundA, Option.some.injEq] at hm; exact .inl hm.symm
            | some v => right; simp
          refine ⟨?_, ?_, ?_⟩
          · rcases b hl with ⟨_, rfl⟩ | h1
            · exact Nat.zero_le _
            · exact h1
          · rcases b hh with ⟨h0, rfl⟩ | h1
            · subst h0
              cases mx with
              | none => simp only [boundA, Option.some.injEq] at hm; omega
              | some v => exact (hne _ rfl rfl).elim
            · exact h1
          · intro h0; subst h0; simp only [boundA, Option.some.injEq] at hm; exact hm.symm
        · cases e
      · cases e
  · cases e

theorem bounds_cap {len cap cap' : Nat} {lo hi : Option Value} {l h m : Nat} (hc : cap ≤ cap') (e : boundsA len cap lo hi none = some (l, h, m)) : boundsA len cap' lo hi none = some (l, h, cap') := by
  have b : ∀ {d y y' n : Nat} {x : Option Value}, y ≤ y' → boundA d y x = some n → boundA d y' x = some n := by
    intro d y y' n x hy e
    unfold boundA at e ⊢
    split at e
    · exact e
    · split at e
      · rename_i hc; rw [if_pos (by omega)]; exact e
      · cases e
    · cases e
  have hn : ∀ c, boundA c c none = some c := fun _ => rfl
  unfold boundsA at e ⊢
  rw [hn] at e ⊢
  cases hi with
  | none =>
    simp only at e ⊢
    have hl : boundA len cap none = some len := rfl
    have hl' : boundA len cap' none = some len := rfl
    rw [hl] at e
    rw [hl']
    simp only at e ⊢
    split at e
    · cases e; rfl
    · cases e
  | some u =>
    simp only at e ⊢
    split at e
    · rename_i h' hh
      rw [b hc hh]
      simp only
      split at e
      · cases e; rfl
      · cases e
    · cases e

theorem bounds_le' {len cap : Nat} {lo hi : Option Value} {u : Value} {l h m : Nat} (e : boundsA len cap lo hi (some u) = some (l, h, m)) : l ≤ h ∧ h ≤ m ∧ m ≤ cap := by
  have b : ∀ {d y n : Nat} {x : Option Value}, boundA d y x = some n → (x = none ∧ n = d) ∨ n ≤ y := by
    intro d y n x e
    unfold boundA at e
    split at e
    · cases e; exact .inl ⟨rfl, rfl⟩
    · split at e
      · rename_i hc; cases e; right; omega
      · cases e
    · cases e
  unfold boundsA at e
  split at e
  · rename_i m' hm
    split at e
    · cases e
    · rename_i hne
      split at e
      · rename_i h' hh
        split at e
        · rename_i l' hl
          cases e
          refine ⟨?_, ?_, by rcases b hm with ⟨q, _⟩ | h1; exact absurd q (by simp); exact h1⟩
          · rcases b hl with ⟨_, rfl⟩ | h1
            · exact Nat.zero_le _
            · exact h1
          · rcases b hh with ⟨h0, rfl⟩ | h1
            · subst h0
              exact (hne _ rfl rfl).elim
            · exact h1
        · cases e
      · cases e
  · cases e
theorem bounds_capS {len cap cap' : Nat} {lo hi : Option Value} {u : Value} {r : Nat × Nat × Nat} (hc : cap ≤ cap') (e : boundsA len cap lo hi (some u) = some r) : boundsA len cap' lo hi (some u) = some r := by
  have hm : ∀ n, boundA cap cap (some u) = some n → boundA cap' cap' (some u) = some n := by
    intro n e
    unfold boundA at e ⊢
    cases u with
    | int k i =>
      simp only at e ⊢
      split at e
      · rename_i h
        rw [if_pos ⟨h.1, by omega⟩]
        exact e
      · cases e
    | _ => cases e
  unfold boundsA at e ⊢
  cases hb : boundA cap cap (some u) with
  | none => rw [hb] at e; cases e
  | some m =>
    rw [hb] at e
    rw [hm m hb]
    exact e
theorem sliceSl_sound {t el : TypeId} {size : Nat} {x x' r : Value} {lo hi mx lo' hi' mx' : Option Value} (hu : P.underlying t = some (.slice el)) (hz : sizeT P el = some size)
    (hx : VRel μ x x') (h1 : ORel μ lo lo') (h2 : ORel μ hi hi') (h3 : ORel μ mx mx') (hstr : ∀ s, x ≠ .string s) (e : sliceSl size x lo hi mx = some r) :
    ∃ r', (Instr.slice t x' lo' hi' mx').run P w = .ok r' w ∧ VRel μ r r' := by
  have run : ∀ (a : Option Addr) (len cap : Nat) {l h m : Nat}, boundsA len cap lo' hi' mx' = some (l, h, m) →
      (Instr.slice t (.slice a len cap) lo' hi' mx').run P w = .ok (.slice (if m = l then a else a.map (·.add (l * size))) (h - l) (m - l)) w := by
    intro a len cap l h m hb
    unfold Instr.slice
    simp [run_underlying hu, run_bounds (P := P) (w := w) hb, run_sizeT w hz]
  unfold sliceSl at e
  split at e
  · rename_i len cap
    split at e
    · rename_i l h m hb
      cases e
      obtain ⟨rfl, rfl, rfl⟩ := bounds_eq h1 h2 h3 hb
      rw [hx.flat_eq rfl]
      exact ⟨_, run _ _ _ hb, by
        have : (if m = l then (none : Option Addr) else Option.map (fun (a : Addr) => a.add (l * size)) none) = none := by split <;> rfl
        rw [this]; exact .flat rfl⟩
    · cases e
  · rename_i b off len cap
    split at e
    · rename_i l h m hb
      cases e
      obtain ⟨rfl, rfl, rfl⟩ := bounds_eq h1 h2 h3 hb
      cases hx with
      | flat h => simp [flat] at h
      | slice hL =>
        rename_i L
        refine ⟨_, run _ _ _ hb, ?_⟩
        by_cases hm : m = l
        · simp only [hm, if_true]; exact .slice hL
        · simp only [hm, if_false, Option.map_some, Addr.add_lit]
          have := VRel.slice (off := off + l * size) (len := h - l) (cap := m - l) hL
          rw [← Nat.add_assoc] at this
          exact this
    · cases e
  · rename_i b off s len cap
    split at e
    · rename_i u
      split at e
      · rename_i l h m hb
        split at e
        · rename_i hs
          obtain ⟨hs, hs0⟩ := hs
          subst hs
          obtain ⟨rfl, rfl, rfl⟩ := bounds_eq h1 h2 h3 hb
          obtain ⟨k1, k2, k9⟩ := bounds_le' hb
          cases hx with
          | flat h => simp [flat] at h
          | hid hL hl hc hm' g1 g2 =>
            rename_i cap' L
            have hb' := bounds_capS hc hb
            refine ⟨_, run _ _ _ hb', ?_⟩
            by_cases hm : m = l
            · rw [if_pos hm] at e
              cases e
              obtain rfl : h = m := by omega
              subst hm
              simp only [if_true, Nat.sub_self]
              exact .hemp hL
            · rw [if_neg hm] at e
              cases e
              simp only [hm, if_false, Option.map_some, Addr.add_lit]
              have := VRel.slice (off := off + l * s) (len := h - l) (cap := m - l) hL
              rw [← Nat.add_assoc] at this
              exact this
          | hemp hL =>
            rename_i O L
            have hm0 : m = 0 := by omega
            obtain rfl : m = 0 := hm0
            obtain rfl : h = 0 := by omega
            obtain rfl : l = 0 := by omega
            rw [if_pos rfl] at e
            cases e
            refine ⟨_, run _ _ _ hb, ?_⟩
            simp only [if_true]
            exact .hemp hL
          | zer => exact absurd rfl hs0
        · cases e
      · cases e
    · split at e
      · rename_i l h m hb
        split at e
        · rename_i hs
          obtain ⟨hs, hs0⟩ := hs
          subst hs
          cases e
          obtain ⟨rfl, rfl, rfl⟩ := bounds_eq h1 h2 h3 hb
          cases hx with
          | flat h => simp [flat] at h
          | hid hL hl hc hm' g1 g2 =>
            rename_i cap' L
            have hb' := bounds_cap hc hb
            obtain ⟨k1, k2, k3⟩ := bounds_le hl hb
            have k3 := k3 rfl
            subst k3
            refine ⟨_, run _ _ _ hb', ?_⟩
            by_cases hm : cap' = l
            · simp only [hm, if_true]
              obtain rfl : m = l := by omega
              obtain rfl : h = m := by omega
              rw [Nat.sub_self]
              exact .hemp hL
            · simp only [hm, if_false, Option.map_some, Addr.add_lit]
              have e1 : off + l * s + (m - l) * s = off + m * s := by
                rw [Nat.add_assoc, ← Nat.add_mul]; congr 2; omega
              have e2 : off + l * s + (cap' - l) * s = off + cap' * s := by
                rw [Nat.add_assoc, ← Nat.add_mul]; congr 2; omega
              have := VRel.hid (off := off + l * s) (len := h - l) (cap := m - l) (cap' := cap' - l) (s := s) hL (by omega) (by omega) (by unfold maxLen at hm' ⊢; omega) (by omega) (by omega)
              rw [← Nat.add_assoc] at this
              exact this
          | hemp hL =>
            rename_i O L
            obtain ⟨k1, k2, k3⟩ := bounds_le (Nat.le_refl _) hb
            have k3 := k3 rfl
            subst k3
            obtain rfl : h = 0 := by omega
            obtain rfl : l = 0 := by omega
            refine ⟨_, run _ _ _ hb, ?_⟩
            simp only [if_true]
            exact .hemp hL
          | zer => exact absurd rfl hs0
        · split at e
          · rename_i hz0
            obtain ⟨hz1, hz2, hz3⟩ := hz0
            subst hz1 hz2 hz3
            cases e
            obtain ⟨rfl, rfl, rfl⟩ := bounds_eq h1 h2 h3 hb
            obtain ⟨k1, k2, k3⟩ := bounds_le (Nat.le_refl _) hb
            have k3 := k3 rfl
            subst k3
            obtain rfl : h = 0 := by omega
            obtain rfl : l = 0 := by omega
            cases hx with
            | flat h => simp [flat] at h
            | hid hL hl hc hm' g1 g2 =>
              rename_i cap' L
              have hb' := bounds_cap hc hb
              refine ⟨_, run _ _ _ hb', ?_⟩
              by_cases hm : cap' = 0
              · subst hm
                simp only [if_true, Nat.sub_self]
                exact .hemp hL
              · simp only [hm, if_false, Option.map_some, Addr.add_lit, Nat.zero_mul, Nat.add_zero, Nat.sub_zero]
                exact .hid hL hl hc hm' g1 g2
            | hemp hL =>
              refine ⟨_, run _ _ _ hb, ?_⟩
              simp only [if_true]
              exact .hemp hL
            | zer =>
              refine ⟨_, run _ _ _ hb, ?_⟩
              simp only [if_true]
              exact .zer
          · cases e
      · cases e
  · exact absurd rfl (hstr _)
  · cases e

theorem sliceArr_sound {n size : Nat} {x x' r : Value} {lo hi mx lo' hi' mx' : Option Value} (hx : VRel μ x x') (h1 : ORel μ lo lo') (h2 : ORel μ hi hi') (h3 : ORel μ mx mx')
    (e : sliceArr n size x lo hi mx = some r) :
    ∃ a l h m, x' = .pointer (some a) ∧ lo' = lo ∧ hi' = hi ∧ mx' = mx ∧ boundsA n n lo hi mx = some (l, h, m) ∧ VRel μ r (.slice (some (if m = l then a else a.add (l * size))) (h - l) (m - l)) := by
  unfold sliceArr at e
  split at e
  · rename_i b off
    split at e
    · rename_i l h m hb
      cases e
      obtain ⟨e1, e2, e3⟩ := bounds_eq h1 h2 h3 hb
      obtain ⟨L, hL, rfl⟩ := addrOf_rel hx
      refine ⟨_, l, h, m, rfl, e1, e2, e3, hb, ?_⟩
      by_cases hm : m = l
      · simp only [hm, if_true]; exact .slice hL
      · simp only [hm, if_false, Addr.add_lit]
        have := VRel.slice (off := off + l * size) (len := h - l) (cap := m - l) hL
        rw [← Nat.add_assoc] at this
        exact this
    · cases e
  · cases e

theorem slice_sound {t : TypeId} {x x' r : Value} {lo hi mx lo' hi' mx' : Option Value} (hx : VRel μ x x') (h1 : ORel μ lo lo') (h2 : ORel μ hi hi') (h3 : ORel μ mx mx') (e : sliceA P t x lo hi mx = some r) :
    ∃ r', (Instr.sliceAt t x' lo' hi' mx').run P w = .ok r' w ∧ VRel μ r r' := by
  unfold sliceA at e
  split at e
  · rename_i n el hu
    simp only [Option.bind_eq_some_iff] at e
    obtain ⟨z, hz, e⟩ := e
    obtain ⟨a, l, h, m, rfl, rfl, rfl, rfl, hb, hv⟩ := sliceArr_sound hx h1 h2 h3 e
    exact ⟨_, by simp [Instr.sliceAt, run_underlying hu, Instr.sureAddr, run_bounds (P := P) (w := w) hb, run_sizeT w hz], hv⟩
  · rename_i arr hu
    split at e
    · rename_i n el ha
      simp only [Option.bind_eq_some_iff] at e
      obtain ⟨z, hz, e⟩ := e
      obtain ⟨a, l, h, m, rfl, rfl, rfl, rfl, hb, hv⟩ := sliceArr_sound hx h1 h2 h3 e
      exact ⟨_, by simp [Instr.sliceAt, Instr.slice, run_underlying hu, run_underlying ha, asAddr, run_bounds (P := P) (w := w) hb, run_sizeT w hz], hv⟩
    · cases e
  · rename_i el hu
    split at e
    · cases e
    · rename_i hns
      simp only [Option.bind_eq_some_iff] at e
      obtain ⟨z, hz, e⟩ := e
      obtain ⟨r', hrun, hv⟩ := sliceSl_sound (P := P) (w := w) hu hz hx h1 h2 h3 (fun s h => hns s h) e
      exact ⟨r', by simpa [Instr.sliceAt, run_underlying hu] using hrun, hv⟩
  · rename_i hu
    split at e
    · rename_i sb
      unfold sliceSl at e
      simp only at e
      split at e
      · cases e
      · split at e
        · rename_i l h m hb
          cases e
          obtain ⟨rfl, rfl, rfl⟩ := bounds_eq h1 h2 h3 hb
          rw [hx.flat_eq rfl]
          exact ⟨_, by simp [Instr.sliceAt, Instr.slice, run_underlying hu, run_bounds (P := P) (w := w) hb], .flat rfl⟩
        · cases e
    · cases e
  · cases e

theorem addP_rel {v v' r : Value} {n : Nat} (hv : VRel μ v v') (e : addP v n = some r) : ∃ a, v' = .pointer (some a) ∧ VRel μ r (.pointer (some (a.add n))) := by
  unfold addP at e
  split at e
  · rename_i b off
    cases e
    obtain ⟨L, hL, rfl⟩ := addrOf_rel hv
    refine ⟨_, rfl, ?_⟩
    rw [Addr.add_lit]
    have := VRel.ptr (off := off + n) hL
    rw [← Nat.add_assoc] at this
    exact this
  · cases e

theorem fieldAt_sound {t : TypeId} {x x' r : Value} {i : Nat} (hx : VRel μ x x') (e : fieldAtA P t x i = some r) : ∃ r', (Instr.fieldAt t x' i).run P w = .ok r' w ∧ VRel μ r r' := by
  unfold fieldAtA at e
  split at e
  · rename_i fs hu
    split at e
    · rename_i f hf
      split at e
      · rename_i n hn
        split at e
        · cases e
        · rename_i h0
          obtain ⟨a, rfl, hv⟩ := addP_rel hx e
          refine ⟨_, ?_, hv⟩
          simp [Instr.fieldAt, run_underlying hu, hf, Instr.sureAddr, fieldPlace, run_sizeT w hn, h0]
      · cases e
    · cases e
  · cases e

theorem indexAt_sound {t : TypeId} {x x' ix ix' r : Value} (hx : VRel μ x x') (hi : VRel μ ix ix') (e : indexAtA P t x ix = some r) : ∃ r', (Instr.indexAt t x' ix').run P w = .ok r' w ∧ VRel μ r r' := by
  unfold indexAtA at e
  split at e
  · rename_i n el hu
    simp only [Option.bind_eq_some_iff] at e
    obtain ⟨z, hz, e⟩ := e
    unfold idxA at e
    split at e
    · rename_i k i
      rw [hi.int]
      split at e
      · rename_i hc
        obtain ⟨a, rfl, hv⟩ := addP_rel hx e
        refine ⟨_, ?_, hv⟩
        simp [Instr.indexAt, asIntOf, run_underlying hu, Instr.sureAddr, hc, run_sizeT w hz]
      · cases e
    · cases e
  · rename_i el hu
    simp only [Option.bind_eq_some_iff] at e
    obtain ⟨z, hz, e⟩ := e
    unfold idxS at e
    split at e
    · rename_i b off sp len cap k i
      rw [hi.int]
      split at e
      · rename_i hc
        cases e
        have main : ∀ (L : Loc) (c' : Nat), μ b = some L → x' = .slice (some ⟨L.blk, L.off + off, none⟩) len c' → ∃ r', (Instr.indexAt t x' (.int k i)).run P w = .ok r' w ∧ VRel μ (ptr b (off + i.toNat * z)) r' := by
          rintro L c' hL rfl
          refine ⟨.pointer (some ⟨L.blk, L.off + off + i.toNat * z, none⟩), ?_, ?_⟩
          · simp [Instr.indexAt, asIntOf, run_underlying hu, hc, run_sizeT w hz, Addr.add_lit]
          · have := VRel.ptr (off := off + i.toNat * z) hL
            rw [← Nat.add_assoc] at this
            exact this
        cases hx with
        | flat h => simp [flat] at h
        | slice h => exact main _ _ h rfl
        | hid h => exact main _ _ h rfl
        | hemp h => simp at hc; omega
        | zer => simp at hc; omega
      · cases e
    · cases e
  · cases e

theorem part_sound {t : TypeId} {cs cs' : Array Value} {off : Nat} {r : Value} (hc : LRel μ cs.toList cs'.toList) (e : partA P t cs off = some r) : ∃ r', (part t cs' off).run P w = .ok r' w ∧ VRel μ r r' := by
  unfold partA at e
  split at e
  · rename_i n ha hs
    cases e
    refine ⟨.agg (cs'.extract off (off + n)), by simp [part, run_aggT w ha, run_sizeT w hs], ?_⟩
    have := (hc.drop off).take n
    have e1 : cs.extract off (off + n) = ((cs.toList.drop off).take n).toArray := by
      apply Array.ext'; simp
    have e2 : cs'.extract off (off + n) = ((cs'.toList.drop off).take n).toArray := by
      apply Array.ext'; simp
    rw [e1, e2]
    exact .of_list_agg this
  · rename_i n ha hs
    obtain ⟨y, hy, hv⟩ := hc.get (i := off) (by simpa using e)
    refine ⟨y, ?_, hv⟩
    have hy' : cs'[off]? = some y := by simpa using hy
    simp [part, run_aggT w ha, hy']
  · cases e

theorem field_sound {t : TypeId} {x x' r : Value} {i : Nat} (hx : VRel μ x x') (e : fieldA P t x i = some r) : ∃ r', (Instr.field t x' i).run P w = .ok r' w ∧ VRel μ r r' := by
  unfold fieldA at e
  split at e
  · rename_i fs cs hu
    split at e
    · rename_i f hf
      obtain ⟨ys, rfl, hl⟩ := hx.agg_iff
      obtain ⟨r', hrun, hv⟩ := part_sound (P := P) (w := w) hl e
      exact ⟨r', by simp [Instr.field, run_underlying hu, hf, asAgg, hrun], hv⟩
    · cases e
  · cases e

theorem index_sound {t : TypeId} {x x' ix ix' r : Value} (hx : VRel μ x x') (hi : VRel μ ix ix') (e : indexA P t x ix = some r) : ∃ r', (Instr.index t x' ix').run P w = .ok r' w ∧ VRel μ r r' := by
  unfold indexA at e
  split at e
  · rename_i n el cs k i hu
    split at e
    · rename_i hc
      simp only [Option.bind_eq_some_iff] at e
      obtain ⟨z, hz, e⟩ := e
      obtain ⟨ys, rfl, hl⟩ := hx.agg_iff
      rw [hi.int]
      obtain ⟨r', hrun, hv⟩ := part_sound (P := P) (w := w) hl e
      exact ⟨r', by simp [Instr.index, asIntOf, run_underlying hu, hc, run_sizeT w hz, hrun], hv⟩
    · cases e
  · rename_i s k i hu
    split at e
    · rename_i hc
      simp only [Option.map_eq_some_iff] at e
      obtain ⟨b, hb, rfl⟩ := e
      rw [hi.int, hx.flat_eq rfl]
      exact ⟨_, by simp [Instr.index, asIntOf, run_underlying hu, hc, hb], .flat rfl⟩
    · cases e
  · cases e

theorem extract_sound {x x' r : Value} {i : Nat} (hx : VRel μ x x') (e : extractA x i = some r) : ∃ r', (Instr.extract x' i).run P w = .ok r' w ∧ VRel μ r r' := by
  unfold extractA at e
  split at e
  · rename_i vs
    obtain ⟨ys, rfl, hl⟩ := hx.tuple_iff
    obtain ⟨y, hy, hv⟩ := hl.get (i := i) (by simpa using e)
    have hy' : ys[i]? = some y := by simpa using hy
    exact ⟨y, by simp [Instr.extract, hy'], hv⟩
  · cases e

end ops
end
end Go.Abs

namespace Go.Abs
noncomputable section

section ops
variable {P : Program} {μ : Mu} {h : Heap} {w : World}

theorem firstA_any {size n : Nat} {x x' : Value} {cs : List Value} (s : Sim μ h w) (hx : VRel μ x x') (e : firstA size n x h = some cs) (hn : ∀ m, lenA x = some m → n ≤ m) (P : Program) :
    ∃ cs', (∀ w', w'.heap = w.heap → (Builtin.firstCells size n x').run P w' = .ok cs'.toArray w') ∧ LRel μ cs cs' := by
  cases x with
  | slice a len cap =>
    obtain ⟨cs', h1, h2, _⟩ := firstA_slice s hx e (hn len rfl) P
    exact ⟨cs', h1, h2⟩
  | string sb =>
    rw [hx.flat_eq rfl]
    simp only [firstA, Option.some.injEq] at e
    subst e
    refine ⟨(sb.extract 0 n).data.toList.map fun b => .int .u8 b.toNat, ?_, LRel.of_flat (by rw [flatAll, List.all_eq_true]; intro x hx; obtain ⟨b, _, rfl⟩ := List.mem_map.1 hx; rfl)⟩
    intro w' _
    simp only [Builtin.firstCells, Sem.run_pure]
    congr 1
    apply Array.ext'
    simp
  | _ => simp [firstA] at e

theorem run_lenOf {x x' : Value} {m : Nat} (hx : VRel μ x x') (e : lenA x = some m) : (Builtin.lenOf x').run P w = .ok m w := by
  cases x with
  | slice a len cap =>
    obtain ⟨a', c', rfl, _⟩ := hx.nilslice
    simp only [lenA, Option.some.injEq] at e
    subst e
    simp [Builtin.lenOf]
  | string sb =>
    rw [hx.flat_eq rfl]
    simp only [lenA, Option.some.injEq] at e
    subst e
    simp [Builtin.lenOf]
  | _ => simp [lenA] at e

/-- append, where there is room. -/
theorem run_append_in {t tx ty el : TypeId} {i : TypeInfo} {d : TypeDesc} (hu : P.underlying t = some (.slice el)) (hx : P.underlying tx = some d) (hd : isIntT d = false)
    (hi : P.info? el = some i) {base : Option Addr} {len cap m : Nat} {x : Value} (hm : (Builtin.lenOf x).run P w = .ok m w) (hc : len + m ≤ cap)
    {new : List Value} {w' : World} (hf : (Builtin.firstCells i.size m x).run P w = .ok new.toArray w)
    (hs : ∀ a, base = some a → (storeCells (a.add (len * i.size)) new).run P w = .ok () w') (hn : base = none → w' = w) :
    (Builtin.append_ #[t, tx] ty #[.slice base len cap, x]).run P w = .ok (.slice base (len + m) cap) w' := by
  have hz' : (match (generalizing := false) d with | .int _ => true | _ => false) = false := by cases d <;> first | rfl | (simp [isIntT] at hd; done)
  have e0 : (#[t, tx] : Array TypeId)[0]? = some t := rfl
  have e1 : (#[t, tx] : Array TypeId)[1]? = some tx := rfl
  have e2 : (#[.slice base len cap, x] : Array Value)[0]? = some (.slice base len cap) := rfl
  have e3 : (#[.slice base len cap, x] : Array Value)[1]? = some x := rfl
  unfold Builtin.append_
  simp only [e0, e1, e2, e3, Sem.run_bind, run_underlying hu, run_underlying hx, Result.andThen_ok, sizeOf, run_typeInfo w hi, Sem.run_pure, hz', Bool.false_eq_true, if_false, hm, Bool.not_false, if_true]
  split
  · exact absurd hd (by simp [isIntT])
  · simp only [Bool.false_eq_true, if_false, Sem.run_bind, hm, Result.andThen_ok, Bool.not_false, if_true, false_or, Sem.run_pure, hc, hf]
    cases base with
    | none => simp [hn rfl]
    | some a => simp [hs a rfl]

/-- append, where there is none. -/
theorem run_append_out {t tx ty el : TypeId} {i : TypeInfo} {d : TypeDesc} (hu : P.underlying t = some (.slice el)) (hx : P.underlying tx = some d) (hd : isIntT d = false)
    (hi : P.info? el = some i) {base : Option Addr} {len cap m : Nat} {x : Value} (hm : (Builtin.lenOf x).run P w = .ok m w) (hc : ¬ len + m ≤ cap)
    {z : Value} {olds news : List Value} (hz : zeroT P el = some z)
    (hfo : (Builtin.firstCells i.size len (.slice base len cap)).run P w.drew = .ok olds.toArray w.drew)
    (hfn : (Builtin.firstCells i.size m x).run P w.drew = .ok news.toArray w.drew)
    (h63 : len + m ≤ 4611686018427387904) (hfit : Builtin.nextslicecap (len + m) cap * i.bytes ≤ 281474976710656) :
    (Builtin.append_ #[t, tx] ty #[.slice base len cap, x]).run P w =
      .ok (.slice (some ⟨w.heap.size, 0, none⟩) (len + m) (grownCap w (len + m) cap el))
        { w.drew with heap := w.heap.push (.cells ((olds ++ news ++ (Builtin.zeroCells z.cells (grownCap w (len + m) cap el - (len + m))).toList).toArray) el (0, 0)) } := by
  have hmax : IntKind.i64.max = 9223372036854775807 := by decide
  have h1 : ¬ (((len + m : Nat) : Int) > IntKind.i64.max ∧ i.bytes = 0) := by rw [hmax]; omega
  have h2 : ¬ (Builtin.nextslicecap (len + m) cap * i.bytes > 2 ^ 48) := by
    have : (2 : Nat) ^ 48 = 281474976710656 := by decide
    omega
  have hz' : (match (generalizing := false) d with | .int _ => true | _ => false) = false := by cases d <;> first | rfl | (simp [isIntT] at hd; done)
  have e0 : (#[t, tx] : Array TypeId)[0]? = some t := rfl
  have e1 : (#[t, tx] : Array TypeId)[1]? = some tx := rfl
  have e2 : (#[.slice base len cap, x] : Array Value)[0]? = some (.slice base len cap) := rfl
  have e3 : (#[.slice base len cap, x] : Array Value)[1]? = some x := rfl
  unfold Builtin.append_
  simp only [e0, e1, e2, e3, Sem.run_bind, run_underlying hu, run_underlying hx, Result.andThen_ok, sizeOf, run_typeInfo w hi, Sem.run_pure, hz', Bool.false_eq_true, if_false, hm, Bool.not_false, if_true]
  split
  · exact absurd hd (by simp [isIntT])
  · simp only [Bool.false_eq_true, if_false, Sem.run_bind, hm, Result.andThen_ok, Bool.not_false, if_true, false_or, Sem.run_pure, hc, run_typeInfo w hi]
    rw [if_neg h1]
    simp only [Sem.run_bind, run_typeInfo w hi, Result.andThen_ok]
    rw [if_neg h2]
    simp only [Sem.run_bind, Sem.run_pure, Result.andThen_ok, run_choose, Question.forced, Bool.false_eq_true, if_false, run_askRoom]
    have hdr : ({ w with drawn := w.drawn + 1 } : World) = w.drew := rfl
    rw [hdr]
    simp only [run_typeInfo w.drew hi, Result.andThen_ok, run_askRoom]
    rw [hfo]
    simp only [Result.andThen_ok]
    rw [hfn]
    simp only [Result.andThen_ok, run_zeroT w.drew hz, Go.newRow, Sem.run_bind, run_newObj, Sem.run_pure, grownCap]
    have : olds.toArray ++ news.toArray ++ Builtin.zeroCells z.cells ((Question.appendCap (len + m) cap el).cut (w.tape w.drawn (Question.appendCap (len + m) cap el)) - (len + m)) =
        (olds ++ news ++ (Builtin.zeroCells z.cells ((Question.appendCap (len + m) cap el).cut (w.tape w.drawn (Question.appendCap (len + m) cap el)) - (len + m))).toList).toArray := by
      apply Array.ext'; simp
    rw [this]
    rfl

/-- The new row that an append makes. -/
theorem grow_sound {z : Value} {size c : Nat} {el : TypeId} {olds news olds' news' : List Value} {n : Nat} (s : Sim μ h w) (hf : Free μ h (h.alloc (olds ++ news))) (ho : LRel μ olds olds') (hn : LRel μ news news')
    (hzs : z.cells.size = size) (hpos : 0 < size) (hlen : olds.length + news.length = n * size) (hc : n ≤ c) (hcm : c ≤ maxLen) :
    ∃ μ' w', w' = { w.drew with heap := w.heap.push (.cells ((olds' ++ news' ++ (Builtin.zeroCells z.cells (c - n)).toList).toArray) el (0, 0)) } ∧
      Sim μ' (h.alloc (olds ++ news)) w' ∧ Step μ h w μ' (h.alloc (olds ++ news)) w' ∧ VRel μ' (.slice (some ⟨h.next, 0, some size⟩) n n) (.slice (some ⟨w.heap.size, 0, none⟩) n c) := by
  have hl := ho.1
  have hl' := hn.1
  have hzc : (Builtin.zeroCells z.cells (c - n)).size = (c - n) * size := by rw [size_zeroCells, hzs]
  have hsz : ((olds' ++ news' ++ (Builtin.zeroCells z.cells (c - n)).toList).toArray).size = c * size := by
    simp only [List.size_toArray, List.length_append, Array.length_toList, hzc, ← hl, ← hl', hlen, ← Nat.add_mul]
    congr 1; omega
  have hnc : n * size ≤ c * size := Nat.mul_le_mul_right _ hc
  obtain ⟨hS, hSt⟩ := s.alloc (k := olds ++ news) hf (arr := (olds' ++ news' ++ (Builtin.zeroCells z.cells (c - n)).toList).toArray) (T := el) (fr := (0, 0)) (.inl rfl)
    (by rw [hsz, List.length_append, hlen]; exact hnc)
    (by
      have : (olds ++ news).length = (olds' ++ news').length := by simp [hl, hl']
      rw [this, List.take_left]; exact ho.append hn)
    (w1 := { w.drew with heap := w.heap.push (.cells ((olds' ++ news' ++ (Builtin.zeroCells z.cells (c - n)).toList).toArray) el (0, 0)) }) rfl rfl rfl rfl
  refine ⟨_, _, rfl, hS, hSt, ?_⟩
  have := VRel.hid (b := h.next) (off := 0) (len := n) (cap := n) (cap' := c) (s := size) (Mu.put_same μ h.next ⟨w.heap.size, 0, ((olds' ++ news' ++ (Builtin.zeroCells z.cells (c - n)).toList).toArray).size, (olds ++ news).length⟩) (Nat.le_refl _) hc hcm
    (by simp only [List.length_append, hlen, Nat.zero_add]) (by simp only [hsz]; omega)
  simpa using this

/-- A slice grows within the room that its block has behind the cells that are known. -/
theorem Sim.regrow {b off n1 : Nat} {k : Blk} {L : Loc} {news news' : List Value} (s : Sim μ h w) (hb : h.n0 ≤ b) (hg : h.get b = some k) (hL : μ b = some L) (h1 : off + n1 ≤ k.length)
    (hx : LRel μ news news') (hone : oneCells news = true) (hext : L.off + off + n1 + news.length ≤ L.ext) (hf : Free μ h ((h.kill b).alloc ((k.drop off).take n1 ++ news))) :
    ∃ μ' w', (Go.storeCells ⟨L.blk, L.off + off + n1, none⟩ news').run P w = .ok () w' ∧ Sim μ' ((h.kill b).alloc ((k.drop off).take n1 ++ news)) w' ∧ Step μ h w μ' ((h.kill b).alloc ((k.drop off).take n1 ++ news)) w' ∧
      μ' h.next = some ⟨L.blk, L.off + off, L.ext, n1 + news.length⟩ := by
  obtain ⟨L', arr, T, fr, e1, e2, e4, e5, e6, e7, e8, e9⟩ := s.new b k hb hg
  rw [hL] at e1; cases e1
  have hal : arr.toList.length = arr.size := Array.length_toList
  have hlt := h.lt_of_get hg
  have hnl : news'.length = news.length := hx.1.symm
  have hnone : μ h.next = none := hf _ (Nat.le_refl _) (by simp)
  have hm := Mu.put_mono (L := ⟨L.blk, L.off + off, L.ext, n1 + news.length⟩) hnone
  have hget : ∀ c kc, ((h.kill b).alloc ((k.drop off).take n1 ++ news)).get c = some kc → (c = h.next ∧ kc = (k.drop off).take n1 ++ news) ∨ (c ≠ h.next ∧ c ≠ b ∧ h.get c = some kc) := by
    intro c kc hc
    rw [Heap.get_alloc, Heap.next_kill] at hc
    by_cases ec : c = h.next
    · rw [if_pos ec] at hc; cases hc; exact .inl ⟨ec, rfl⟩
    · rw [if_neg ec] at hc
      unfold Heap.kill at hc
      rw [h.get_put hb hlt] at hc
      by_cases eb : c = b
      · rw [if_pos eb] at hc; cases hc
      · rw [if_neg eb] at hc; exact .inr ⟨ec, eb, hc⟩
  have hgetB : ∀ c kc, ((h.kill b).alloc ((k.drop off).take n1 ++ news)).getB c = some kc → (c = h.next ∧ kc = .cells ((k.drop off).take n1 ++ news)) ∨ (c ≠ h.next ∧ c ≠ b ∧ h.getB c = some kc) := by
    intro c kc hc
    rw [Heap.getB_alloc, Heap.next_kill] at hc
    by_cases ec : c = h.next
    · rw [if_pos ec] at hc; cases hc; exact .inl ⟨ec, rfl⟩
    · rw [if_neg ec] at hc
      unfold Heap.kill at hc
      rw [h.getB_put hb hlt] at hc
      by_cases eb : c = b
      · rw [if_pos eb] at hc; cases hc
      · rw [if_neg eb] at hc; exact .inr ⟨ec, eb, hc⟩
  have hB : (w.setRow L.blk (splice arr.toList (L.off + off + n1) news').toArray).heap[L.blk]? = some (.cells (splice arr.toList (L.off + off + n1) news').toArray T fr) := setRow_heap w L.blk arr _ T fr e4
  have hsz : ((splice arr.toList (L.off + off + n1) news').toArray).size = arr.size := by
    rw [List.size_toArray, length_splice (by omega), hal]
  refine ⟨μ.put h.next ⟨L.blk, L.off + off, L.ext, n1 + news.length⟩, w.setRow L.blk (splice arr.toList (L.off + off + n1) news').toArray, ?_, ⟨?_, ?_, ?_, ?_, ?_, fun b hb => by obtain ⟨L, h1, h2⟩ := s.low b hb; exact ⟨L, hm _ _ h1, h2⟩⟩, ⟨?_, rfl, rfl, by simp, rfl, rfl, rfl, by simp [World.setRow], ?_, ?_, fun B r hB => ⟨r, by rw [setRow_other _ _ _ _ (by rintro rfl; rw [e4] at hB; cases hB)]; exact hB⟩, Nat.le_refl _⟩, Mu.put_same _ _ _⟩
  · have := run_storeCells_any P L.blk (L.off + off + n1) T fr news' 0 arr w e4 e7 (by omega) (hx.oneCells hone)
    simpa using this
  · intro c cs hc hcs
    obtain ⟨L2, a2, T2, f2, g1, g2, g3, g4, g5⟩ := s.old c cs (by simpa using hc) hcs
    refine ⟨L2, a2, T2, f2, hm _ _ g1, g2, g3, ?_, g5.mono hm⟩
    rw [setRow_other _ _ _ _ (by simp at hc; omega)]; exact g4
  · intro c kc hc hgc
    rcases hget c kc hgc with ⟨rfl, rfl⟩ | ⟨n1', n2', hgc'⟩
    · refine ⟨_, _, T, fr, Mu.put_same _ _ _, ?_, hB, hsz.trans e5, ?_, by rw [hsz]; exact e7, by simpa using e8, ?_⟩
      · simp only [List.length_append, List.length_take, List.length_drop]; omega
      · simp only; omega
      · simp only
        have hr := (e9.drop off).take n1
        rw [List.drop_take, List.drop_drop, List.take_take, show min n1 (L.len - off) = n1 from by omega] at hr
        have : ((splice arr.toList (L.off + off + n1) news').drop (L.off + off)).take (n1 + news.length) = (arr.toList.drop (L.off + off)).take n1 ++ news' := by
          unfold splice
          have e1 : (arr.toList.take (L.off + off + n1)).drop (L.off + off) = (arr.toList.drop (L.off + off)).take n1 := by rw [List.drop_take]; congr 1; omega
          rw [List.append_assoc, List.drop_append_of_le_length (by simp; omega), e1, ← List.append_assoc]
          exact List.take_left' (by simp; omega)
        rw [this]
        exact (hr.append hx).mono hm
    · obtain ⟨L2, a2, T2, f2, g1, g2, g4, g5, g6, g7, g8, g9⟩ := s.new c kc hc hgc'
      refine ⟨L2, a2, T2, f2, hm _ _ g1, g2, ?_, g5, g6, g7, g8, g9.mono hm⟩
      rw [setRow_other _ _ _ _ (s.inj c b _ _ L2 L hc hb n2' (h.getB_of_get hgc') (h.getB_of_get hg) g1 hL)]; exact g4
  · intro c o hc hgc
    rcases hgetB c _ hgc with ⟨rfl, e⟩ | ⟨n1', n2', hgc'⟩
    · cases e
    · obtain ⟨L2, ob, g1, g2, g3, g4⟩ := s.obj c o hc hgc'
      exact ⟨L2, ob, hm _ _ g1, by rw [setRow_other _ _ _ _ (s.inj c b _ _ L2 L hc hb n2' hgc' (h.getB_of_get hg) g1 hL)]; exact g2, g3.mono hm, g4⟩
  · intro c c' kc kc' Lc Lc' hc hc' hne hgc hgc' h2 h3
    have hg := h.getB_of_get hg
    rcases hgetB c kc hgc with ⟨rfl, rfl⟩ | ⟨n1', n2', g1⟩
    · rw [Mu.put_same] at h2; cases h2
      rcases hgetB c' kc' hgc' with ⟨rfl, rfl⟩ | ⟨m1, m2, g2⟩
      · exact absurd rfl hne
      · rw [Mu.put_other _ _ m1] at h3
        exact s.inj b c' _ kc' L Lc' hb hc' (Ne.symm m2) hg g2 hL h3
    · rw [Mu.put_other _ _ n1'] at h2
      rcases hgetB c' kc' hgc' with ⟨rfl, rfl⟩ | ⟨m1, m2, g2⟩
      · rw [Mu.put_same] at h3; cases h3
        exact s.inj c b kc _ Lc L hc hb n2' g1 hg h2 hL
      · rw [Mu.put_other _ _ m1] at h3
        exact s.inj c c' kc kc' Lc Lc' hc hc' hne g1 g2 h2 h3
  · simpa [World.setRow] using s.size
  · intro c hc
    rw [Mu.put_other _ _ (by simp at hc; omega)]
  · intro B hB' hO
    exact setRow_other _ _ _ _ (fun e => hO ⟨b, _, L, hb, h.getB_of_get hg, hL, e.symm⟩)
  · rintro B ⟨c, kc, Lc, hc, hgc, h2, rfl⟩
    rcases hgetB c kc hgc with ⟨rfl, rfl⟩ | ⟨n1', n2', g1⟩
    · rw [Mu.put_same] at h2; cases h2; exact .inl ⟨b, _, L, hb, h.getB_of_get hg, hL, rfl⟩
    · rw [Mu.put_other _ _ n1'] at h2; exact .inl ⟨c, kc, Lc, hc, g1, h2, rfl⟩

theorem append_sound {t tx ty el : TypeId} {d : TypeDesc} {size by_ : Nat} {z s s' x x' r : Value} {h' : Heap} (hu : P.underlying t = some (.slice el)) (htx : P.underlying tx = some d) (hd : isIntT d = false)
    (hsz : sizeT P el = some size) (hby : bytesT P el = some by_) (hz : zeroT P el = some z) (hzs : z.cells.size = size) (hpos : 0 < size)
    (S : Sim μ h w) (hf : Free μ h h') (hs : VRel μ s s') (hx : VRel μ x x') (e : appendA size by_ s x h = some (r, h')) :
    ∃ μ' r' w', (Builtin.append_ #[t, tx] ty #[s', x']).run P w = .ok r' w' ∧ Sim μ' h' w' ∧ Step μ h w μ' h' w' ∧ VRel μ' r r' := by
  obtain ⟨i, hi, hin⟩ := info_of_sizeT hsz
  have hib : i.bytes = by_ := by simp only [bytesT, hi, Option.map_some, Option.some.injEq] at hby; exact hby
  subst hin hib
  unfold appendA at e
  split at e
  · rename_i base len cap m hm
    have hlen := run_lenOf (P := P) (w := w) hx hm
    split at e
    · cases e
    · rename_i news hnews
      split at e
      · cases e
      · rename_i hcond
        simp only [Bool.or_eq_true, Bool.not_eq_true', decide_eq_true_eq, not_or, Bool.not_eq_false, decide_eq_false_iff_not, Decidable.not_not, ne_eq] at hcond
        obtain ⟨⟨⟨hone, hbytes⟩, h62⟩, hnl⟩ := hcond
        have hle : ∀ m', lenA x = some m' → m ≤ m' := by intro m' h; rw [hm] at h; cases h; exact Nat.le_refl _
        obtain ⟨news', hrn, hrel⟩ := firstA_any S hx hnews hle P
        -- the place of what is written, and the slice that comes back
        have place : ∀ {b off : Nat} {h1 : Heap} {L : Loc} {c' : Nat}, μ b = some L → stL b (off + len * i.size) news h = some h1 → s' = .slice (some ⟨L.blk, L.off + off, none⟩) len c' → len + m ≤ c' →
            ∃ w', (Builtin.append_ #[t, tx] ty #[s', x']).run P w = .ok (.slice (some ⟨L.blk, L.off + off, none⟩) (len + m) c') w' ∧ Sim μ h1 w' ∧ Step μ h w μ h1 w' := by
          intro b off h1 L c' hL hst hs' hc
          subst hs'
          obtain ⟨L', w', hL', hrun, hS, hSt⟩ := stL_sound (P := P) S hrel hst
          rw [hL] at hL'; cases hL'
          refine ⟨w', run_append_in hu htx hd hi hlen hc (hrn w rfl) ?_ (by intro h; cases h), hS, hSt⟩
          intro a ha
          cases ha
          rw [Addr.add_lit, Nat.add_assoc]; exact hrun
        have grow : ∀ {olds olds' : List Value} {h1 : Heap} {base' : Option Addr} {c' : Nat}, Sim μ h1 w → Free μ h1 (h1.alloc (olds ++ news)) → olds.length = len * i.size → LRel μ olds olds' →
            (∀ w', w'.heap = w.heap → (Builtin.firstCells i.size len (.slice base' len c')).run P w' = .ok olds'.toArray w') → s' = .slice base' len c' → ¬ len + m ≤ c' →
            ∃ μ' r' w', (Builtin.append_ #[t, tx] ty #[s', x']).run P w = .ok r' w' ∧ Sim μ' (h1.alloc (olds ++ news)) w' ∧ Step μ h1 w μ' (h1.alloc (olds ++ news)) w' ∧
              VRel μ' (.slice (some ⟨h1.next, 0, some i.size⟩) (len + m) (len + m)) r' := by
          intro olds olds' h1 base' c' S1 hf1 hol horel hro hs' hc
          subst hs'
          have hfit : Builtin.nextslicecap (len + m) c' * i.bytes ≤ 281474976710656 := growslice_fits (by omega) hbytes
          have hrun := run_append_out (ty := ty) hu htx hd hi hlen hc hz (hro w.drew rfl) (hrn w.drew rfl) h62 hfit
          obtain ⟨μ', w', hw', hS, hSt, hv⟩ := grow_sound (z := z) (size := i.size) (c := grownCap w (len + m) c' el) (el := el) (n := len + m) S1 hf1 horel hrel hzs hpos
            (by rw [hol, hnl, Nat.add_mul]) (grownCap_ge w (len + m) c' el) (grownCap_le_maxLen w (len + m) c' el (by unfold maxLen; omega))
          exact ⟨μ', _, w', by rw [hrun, hw'], hS, hSt, hv⟩
        split at e
        · rename_i hroom
          split at e
          · rename_i hm0
            subst hm0
            cases e
            have hn0 : news' = [] := by
              have := hrel.1
              simp only [hnl, Nat.zero_mul] at this
              exact List.eq_nil_of_length_eq_zero this.symm
            subst hn0
            have fin : ∀ (b' : Option Addr) (c' : Nat), s' = .slice b' len c' → cap ≤ c' → ∃ μ' r' w', (Builtin.append_ #[t, tx] ty #[s', x']).run P w = .ok r' w' ∧ Sim μ' h w' ∧ Step μ h w μ' h w' ∧ VRel μ' (.slice base len cap) r' := by
              rintro b' c' rfl hc
              refine ⟨μ, .slice b' (len + 0) c', w, run_append_in hu htx hd hi hlen (by omega) (hrn w rfl) (fun a _ => rfl) (fun _ => rfl), S, .same_world, hs⟩
            cases hs with
            | flat h => exact fin _ _ rfl (Nat.le_refl _)
            | slice h => exact fin _ _ rfl (Nat.le_refl _)
            | hid h _ hc => exact fin _ _ rfl hc
            | hemp h => exact fin _ _ rfl (Nat.le_refl _)
            | zer => exact fin _ _ rfl (Nat.le_refl _)
          · rename_i hm0
            split at e
            · rename_i b off sp
              simp only [Option.map_eq_some_iff, Prod.mk.injEq] at e
              obtain ⟨h1, hst, rfl, rfl⟩ := e
              cases hs with
              | flat h => simp [flat] at h
              | slice hL =>
                obtain ⟨w', hrun, hS, hSt⟩ := place hL hst rfl hroom
                exact ⟨μ, _, w', hrun, hS, hSt, .slice hL⟩
              | hid hL hl hc hmx g1 g2 =>
                obtain ⟨w', hrun, hS, hSt⟩ := place hL hst rfl (by omega)
                exact ⟨μ, _, w', hrun, hS, hSt, .hid hL hroom hc hmx g1 g2⟩
              | hemp hL => omega
              | zer => omega
            · cases e
        · rename_i hroom
          split at e
          · split at e
            · rename_i h0
              subst h0
              simp only [Option.some.injEq, Prod.mk.injEq] at e
              obtain ⟨rfl, rfl⟩ := e
              have hs' := hs.flat_eq rfl
              have := grow (olds := []) (olds' := []) (h1 := h) S (by simpa using hf) (by simp) (LRel.nil μ) (by intro w' _; simp [Builtin.firstCells]) hs' hroom
              simpa using this
            · cases e
          · rename_i b off sp
            split at e
            · cases e
            · rename_i olds holds
              split at e
              · cases e
              · rename_i hol
                have hol' : olds.length = len * i.size := Decidable.not_not.1 hol
                obtain ⟨olds', hro, horel⟩ := firstA_any S hs holds (by intro m' h; cases h; exact Nat.le_refl _) P
                split at e
                · simp only [Option.some.injEq, Prod.mk.injEq] at e
                  obtain ⟨rfl, rfl⟩ := e
                  cases hs with
                  | flat h => simp [flat] at h
                  | slice hL => exact grow S hf hol' horel hro rfl hroom
                · rename_i zz
                  split at e
                  · rename_i hc
                    simp only [Bool.and_eq_true, decide_eq_true_eq] at hc
                    obtain ⟨⟨rfl, hb⟩, hlive⟩ := hc
                    obtain ⟨k, hk⟩ := Option.isSome_iff_exists.1 hlive
                    simp only [Option.some.injEq, Prod.mk.injEq] at e
                    obtain ⟨rfl, rfl⟩ := e
                    obtain ⟨S1, St1⟩ := S.kill hb (h.lt_of_get hk)
                    have hf1 : Free μ (h.kill b) ((h.kill b).alloc (olds ++ news)) := hf
                    generalize hq : i.size = q at hs
                    cases hs with
                    | flat h => simp [flat] at h
                    | zer => omega
                    | hid hL hl hc hmx g1 g2 =>
                      rename_i cap' L
                      subst hq
                      by_cases hin : len + m ≤ cap'
                      · have hkl : L.len = k.length := by
                          obtain ⟨L', arr, T, fr, e1, e2, _⟩ := S.new b k hb hk
                          rw [hL] at e1; cases e1; exact e2
                        have hls : len * i.size ≤ cap * i.size := Nat.mul_le_mul_right _ hl
                        have hms : (len + m) * i.size ≤ cap' * i.size := Nat.mul_le_mul_right _ hin
                        have hadd : (len + m) * i.size = len * i.size + m * i.size := Nat.add_mul _ _ _
                        have holds' : olds = (k.drop off).take (len * i.size) := by
                          unfold firstA at holds
                          simp only [hk] at holds
                          split at holds
                          · rename_i h0; cases holds; rw [h0]; rfl
                          · split at holds
                            · cases holds; rfl
                            · cases holds
                        subst holds'
                        obtain ⟨μ', w', hrun, hS, hSt, hμ⟩ := S.regrow (P := P) (off := off) (n1 := len * i.size) hb hk hL (by omega) hrel hone (by omega) hf
                        refine ⟨μ', .slice (some ⟨L.blk, L.off + off, none⟩) (len + m) cap', w', run_append_in hu htx hd hi hlen hin (hrn w rfl) ?_ (by intro h; cases h), hS, hSt, ?_⟩
                        · intro a ha
                          cases ha
                          rw [Addr.add_lit]; exact hrun
                        · have := VRel.hid (μ := μ') (b := h.next) (off := 0) (len := len + m) (cap := len + m) (cap' := cap') (s := i.size) hμ (Nat.le_refl _) hin hmx (by simp only; omega) (by simp only; omega)
                          simpa using this
                      · obtain ⟨μ', r', w', hrun, hS, hSt, hv⟩ := grow S1 hf1 hol' horel hro rfl hin
                        exact ⟨μ', r', w', hrun, hS, St1.trans hSt, hv⟩
                    | hemp hL =>
                      subst hq
                      obtain ⟨μ', r', w', hrun, hS, hSt, hv⟩ := grow S1 hf1 hol' horel hro rfl (by omega)
                      exact ⟨μ', r', w', hrun, hS, St1.trans hSt, hv⟩
                  · cases e
  · cases e


theorem copy_sound {dT sT ty el : TypeId} {size : Nat} {d d' s s' r : Value} {h' : Heap} (hu : P.underlying dT = some (.slice el)) (hsz : sizeT P el = some size)
    (S : Sim μ h w) (hd : VRel μ d d') (hs : VRel μ s s') (e : copyA size d s h = some (r, h')) :
    ∃ w', (Builtin.copy_ #[dT, sT] ty #[d', s']).run P w = .ok r w' ∧ Sim μ h' w' ∧ Step μ h w μ h' w' ∧ ∃ n : Nat, r = .int .i64 n := by
  unfold copyA at e
  split at e
  · rename_i base dLen dCap m hm
    have hlen := run_lenOf (P := P) (w := w) hs hm
    simp only at e
    split at e
    · cases e
    · rename_i news hnews
      obtain ⟨news', hrn, hrel⟩ := firstA_any S hs hnews (by intro m' h; rw [hm] at h; cases h; exact Nat.min_le_left _ _) P
      obtain ⟨b', c', rfl, hb'⟩ := hd.nilslice
      have head : ∀ w', (∀ a, b' = some a → (storeCells a news').run P w = .ok () w') → (b' = none → w' = w) →
          (Builtin.copy_ #[dT, sT] ty #[.slice b' dLen c', s']).run P w = .ok (.int .i64 (min m dLen : Nat)) w' := by
        intro w' hs hn
        have e0 : (#[dT, sT] : Array TypeId)[0]? = some dT := rfl
        have e2 : (#[.slice b' dLen c', s'] : Array Value)[0]? = some (.slice b' dLen c') := rfl
        have e3 : (#[.slice b' dLen c', s'] : Array Value)[1]? = some s' := rfl
        unfold Builtin.copy_
        simp only [e0, e2, e3, Sem.run_bind, run_underlying hu, Result.andThen_ok, hlen, run_sizeT w hsz, Nat.min_def]
        have hrn0 := hrn w rfl
        rw [Nat.min_def] at hrn0
        rw [hrn0]
        cases b' with
        | none => simp [hn rfl, goInt]
        | some a => simp [hs a rfl, goInt]
      split at e
      · rename_i h0
        cases e
        have hn0 : news' = [] := by
          have h1 := hrel.1
          have : news = [] := by
            unfold firstA at hnews
            rw [h0] at hnews
            split at hnews
            · simpa using hnews.symm
            · simpa using hnews.symm
            · simp only [Option.some.injEq] at hnews
              rw [← hnews]
              simp
            · cases hnews
          subst this
          exact List.eq_nil_of_length_eq_zero h1.symm
        subst hn0
        exact ⟨w, head w (fun _ _ => rfl) (fun _ => rfl), S, .same_world, _, rfl⟩
      · rename_i h0
        split at e
        · cases e
        · rename_i b off sp
          simp only [Option.map_eq_some_iff, Prod.mk.injEq] at e
          obtain ⟨h1, hst, rfl, rfl⟩ := e
          obtain ⟨L, w', hL, hrun, hS, hSt⟩ := stL_sound (P := P) S hrel hst
          have hb2 : b' = some ⟨L.blk, L.off + off, none⟩ := by
            cases hd with
            | flat h => simp [flat] at h
            | slice h => rw [h] at hL; cases hL; rfl
            | hid h => rw [h] at hL; cases hL; rfl
            | hemp h => simp at h0
            | zer => simp at h0
          refine ⟨w', head w' ?_ (by intro h; rw [hb2] at h; cases h), hS, hSt, _, rfl⟩
          intro a ha
          rw [hb2] at ha; cases ha; exact hrun
  · cases e

theorem clear_sound {t ty el : TypeId} {size : Nat} {d d' r : Value} {h' : Heap} (hu : P.underlying t = some (.slice el)) 
    (S : Sim μ h w) (hd : VRel μ d d') (e : clearA P el size d h = some (r, h')) :
    ∃ w', (Builtin.clear_ #[t] ty #[d']).run P w = .ok r w' ∧ Sim μ h' w' ∧ Step μ h w μ h' w' ∧ r = undef := by
  have e0 : (#[t] : Array TypeId)[0]? = some t := rfl
  have e2 : ∀ v : Value, (#[v] : Array Value)[0]? = some v := fun _ => rfl
  unfold clearA at e
  split at e
  · cases e
    rw [hd.flat_eq rfl]
    refine ⟨w, ?_, S, .same_world, rfl⟩
    simp [Builtin.clear_, run_underlying hu, undef]
  · rename_i b off sp n c
    split at e
    · rename_i h0
      subst h0
      cases e
      obtain ⟨b', c', rfl, hb'⟩ := hd.nilslice
      refine ⟨w, ?_, S, .same_world, rfl⟩
      cases b' <;> simp [Builtin.clear_, run_underlying hu, undef]
    · rename_i h0
      split at e
      · rename_i z hz
        split at e
        · rename_i hc
          simp only [Bool.and_eq_true, decide_eq_true_eq] at hc
          obtain ⟨⟨hfl, hzn⟩, hpos⟩ := hc
          simp only [Option.map_eq_some_iff, Prod.mk.injEq] at e
          obtain ⟨h1, hst, rfl, rfl⟩ := e
          have hzz : (Builtin.zeroCells z.cells n).toList = zeros z.cells.toList n := by
            rw [← range_zeros z.cells (by omega)]
            simp [Builtin.zeroCells]
          obtain ⟨L, w', hL, hrun, hS, hSt⟩ := stL_sound (P := P) S (LRel.of_flat (μ := μ) (l := zeros z.cells.toList n) (by
              simp only [flatAll, List.all_eq_true, zeros, List.mem_flatMap] at hfl ⊢
              rintro x ⟨_, _, hx⟩; exact hfl x hx)) hst
          have hb2 : ∃ c', d' = .slice (some ⟨L.blk, L.off + off, none⟩) n c' := by
            cases hd with
            | flat h => simp [flat] at h
            | slice h => rw [h] at hL; cases hL; exact ⟨_, rfl⟩
            | hid h => rw [h] at hL; cases hL; exact ⟨_, rfl⟩
            | hemp h => exact absurd rfl h0
            | zer => exact absurd rfl h0
          obtain ⟨c', rfl⟩ := hb2
          refine ⟨w', ?_, hS, hSt, rfl⟩
          obtain ⟨n, rfl⟩ : ∃ n', n = n' + 1 := ⟨n - 1, by omega⟩
          unfold Builtin.clear_
          simp only [e0, e2, Sem.run_bind, run_underlying hu, Result.andThen_ok, run_zeroT w hz, hzz, hrun, Sem.run_pure]
          rfl
        · cases e
      · cases e
  · cases e

theorem len_sound {t ty : TypeId} {x x' r : Value} (hx : VRel μ x x') (e : lenOfT P t x = some r) : (Builtin.len_ #[t] ty #[x']).run P w = .ok r w ∧ flat r = true := by
  unfold lenOfT at e
  split at e
  · rename_i hu; cases e; rw [hx.flat_eq rfl]; exact ⟨by simp [Builtin.len_, run_underlying hu, goInt], rfl⟩
  · rename_i n el _ _ hu; cases e; exact ⟨by simp [Builtin.len_, run_underlying hu, goInt], rfl⟩
  · rename_i arr hu
    split at e
    · rename_i ha; cases e; exact ⟨by simp [Builtin.len_, run_underlying hu, run_underlying ha, goInt], rfl⟩
    · cases e
  · rename_i hu
    cases e
    obtain ⟨b', c', rfl, _⟩ := hx.nilslice
    exact ⟨by simp [Builtin.len_, run_underlying hu, goInt], rfl⟩
  · cases e

theorem max_fold : ∀ (l : List Value) (v r : Value), minmax true v l = some r → (l.foldlM Builtin.max2 v).run P w = .ok r w ∧ (flatAll l = true → flat v = true → flat r = true)
  | [], v, r, e => by cases e; exact ⟨rfl, fun _ h => h⟩
  | x :: l, v, r, e => by
    unfold minmax at e
    split at e
    · rename_i h; cases h
    · rename_i k a k' b rest heq
      cases heq
      split at e
      · rename_i hk
        subst hk
        obtain ⟨h1, h2⟩ := max_fold l _ r e
        refine ⟨?_, fun hl _ => h2 ?_ rfl⟩
        · simp only [List.foldlM_cons, Sem.run_bind, Builtin.max2, Sem.run_pure, Result.andThen_ok]
          simpa using h1
        · simp only [flatAll, List.all_cons, Bool.and_eq_true] at hl ⊢; exact hl.2
      · cases e
    · cases e
theorem min_fold : ∀ (l : List Value) (v r : Value), minmax false v l = some r → (l.foldlM Builtin.min2 v).run P w = .ok r w ∧ (flatAll l = true → flat v = true → flat r = true)
  | [], v, r, e => by cases e; exact ⟨rfl, fun _ h => h⟩
  | x :: l, v, r, e => by
    unfold minmax at e
    split at e
    · rename_i h; cases h
    · rename_i k a k' b rest heq
      cases heq
      split at e
      · rename_i hk
        subst hk
        obtain ⟨h1, h2⟩ := min_fold l _ r e
        refine ⟨?_, fun hl _ => h2 ?_ rfl⟩
        · simp only [List.foldlM_cons, Sem.run_bind, Builtin.min2, Sem.run_pure, Result.andThen_ok]
          simpa using h1
        · simp only [flatAll, List.all_cons, Bool.and_eq_true] at hl ⊢; exact hl.2
      · cases e
    · cases e
theorem minmax_ints : ∀ {mx : Bool} {l : List Value} {v r : Value}, minmax mx v l = some r → l ≠ [] → flatAll (v :: l) = true ∧ flat r = true
  | mx, [], v, r, e, h => absurd rfl h
  | mx, x :: l, v, r, e, _ => by
    unfold minmax at e
    split at e
    · rename_i h; cases h
    · rename_i k a k' b rest heq
      cases heq
      split at e
      · cases l with
        | nil => cases e; exact ⟨rfl, rfl⟩
        | cons y l =>
          obtain ⟨h1, h2⟩ := minmax_ints e (by simp)
          simp only [flatAll, List.all_cons, Bool.and_eq_true] at h1 ⊢
          exact ⟨⟨rfl, rfl, h1.2⟩, h2⟩
      · cases e
    · cases e

end ops
end
end Go.Abs

