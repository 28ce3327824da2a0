/-
  The abstract machine: operations on values, rows of cells, as the model does them.
  Conditions: none (lemmas).
-/
import Derived.Test.YtcmfgmhadeeieaaA4
namespace Go.Abs

theorem pureRun_sound {α : Type} {P : Program} (s : Sem α) {a : α} (h : pureRun P s = some a) (w : World) : s.run P w = .ok a w := by
  induction s with
  | pure b => simp [pureRun] at h; subst h; rfl
  | program k ih => simp only [pureRun] at h; simp only [Sem.run]; exact ih P h
  | _ => simp [pureRun] at h

theorem range_zeros (z : Array Value) (hz : 0 < z.size) : ∀ n, ((List.range (n * z.size)).map fun i => z[i % z.size]!) = zeros z.toList n
  | 0 => by simp [zeros]
  | n + 1 => by
    rw [Nat.succ_mul, List.range_add, List.map_append, range_zeros z hz n]
    simp only [zeros, List.range_succ, List.flatMap_append, List.flatMap_cons, List.flatMap_nil, List.append_nil]
    congr 1
    rw [List.map_map]
    apply List.ext_getElem?
    intro j
    rw [List.getElem?_map]
    by_cases hj : j < z.size
    · have h1 : (n * z.size + j) % z.size = j := by rw [Nat.mul_comm, Nat.mul_add_mod, Nat.mod_eq_of_lt hj]
      simp [List.getElem?_range hj, h1, hj]
    · rw [List.getElem?_eq_none (by simp; omega), List.getElem?_eq_none (by simp; omega)]; rfl

section ops
variable {P : Program} {μ : Mu} {h : Heap} {w : World}

theorem bits_sound {op : BinOp} {k : IntKind} {a b : Int} {r : Value} (e : bitsA op k a b = some r) : (Op.intBits op k a b).run P w = .ok r w := by
  unfold bitsA at e
  unfold Op.intBits
  cases op <;> simp at e ⊢ <;> exact e

theorem binI_sound {op : BinOp} {t : TypeId} {k k' : IntKind} {a b : Int} {r : Value} (e : binI op k k' a b = some r) : (binOp op t (.int k a) (.int k' b)).run P w = .ok r w := by
  unfold binI at e
  cases op
  case shl =>
    simp only at e
    split at e
    · cases e
    · rename_i hb
      cases e
      simp [binOp, Op.shift, hb]
  case shr =>
    simp only at e
    split at e
    · cases e
    · rename_i hb
      cases e
      simp [binOp, Op.shift, hb]
  all_goals
    simp only at e
    split at e
    · cases e
    · rename_i hk
      have hk' : k = k' := Decidable.not_not.1 hk
      subst hk'
      first
        | (simp only [Option.some.injEq] at e; subst e; simp [binOp, Op.intArith, Op.intCmp])
        | (split at e
           · cases e
           · rename_i hb
             cases e
             simp [binOp, Op.intDiv, hb])
        | (have := bits_sound (P := P) (w := w) e
           simp [binOp]; exact this)

/-- The same kind of value on both sides. -/
theorem VRel.nilptr {b : Option Addr} {v : Value} (hv : VRel μ (.pointer b) v) : ∃ b', v = .pointer b' ∧ b'.isNone = b.isNone := by
  cases hv with
  | flat h => exact ⟨b, rfl, rfl⟩
  | ptr h => exact ⟨_, rfl, rfl⟩
theorem VRel.nilslice {b : Option Addr} {l c : Nat} {v : Value} (hv : VRel μ (.slice b l c) v) : ∃ b' c', v = .slice b' l c' ∧ b'.isNone = b.isNone := by
  cases hv with
  | flat h => exact ⟨b, c, rfl, rfl⟩
  | slice h => exact ⟨_, _, rfl, rfl⟩
  | hid h => exact ⟨_, _, rfl, rfl⟩
  | hemp h => exact ⟨_, _, rfl, rfl⟩

theorem run_equal_ptr {t e : TypeId} (hu : P.underlying t = some (.pointer e)) (a b : Option Addr) (h : a = none ∨ b = none) :
    (Op.equal t (.pointer a) (.pointer b)).run P w = .ok (a.isNone && b.isNone) w := by
  show (Op.equalIn (9999 + 1) t (.pointer a) (.pointer b)).run P w = _
  unfold Op.equalIn
  rw [Sem.run_bind, run_underlying hu, Result.andThen_ok]
  rcases h with rfl | rfl
  · simp
  · cases a <;> simp
theorem run_equal_slice {t e : TypeId} (hu : P.underlying t = some (.slice e)) (a b : Option Addr) (l m c d : Nat) (h : a = none ∨ b = none) :
    (Op.equal t (.slice a l c) (.slice b m d)).run P w = .ok (a.isNone && b.isNone) w := by
  show (Op.equalIn (9999 + 1) t (.slice a l c) (.slice b m d)).run P w = _
  unfold Op.equalIn
  rw [Sem.run_bind, run_underlying hu, Result.andThen_ok]
  rcases h with rfl | rfl
  · simp
  · cases a <;> simp

theorem isNone_or {a b : Option Addr} (h : a.isNone = true ∨ b.isNone = true) : a = none ∨ b = none := by
  simpa [Option.isNone_iff_eq_none] using h

theorem binA_sound {op : BinOp} {t : TypeId} {x y x' y' r : Value} (hx : VRel μ x x') (hy : VRel μ y y') (e : binA P op t x y = some r) :
    (binOp op t x' y').run P w = .ok r w := by
  unfold binA at e
  split at e
  · rw [hx.int, hy.int]; exact binI_sound e
  · rename_i a b
    obtain ⟨a', rfl, ha⟩ := hx.nilptr
    obtain ⟨b', rfl, hb⟩ := hy.nilptr
    split at e <;> first
      | (cases e; done)
      | (rename_i hu
         simp only [Option.some.injEq] at e
         subst e
         have hn : a' = none ∨ b' = none := isNone_or (by simp [ha, hb])
         simp [binOp, run_equal_ptr hu a' b' hn, ha, hb])
  · rename_i a l c b m d
    obtain ⟨a', c', rfl, ha⟩ := hx.nilslice
    obtain ⟨b', d', rfl, hb⟩ := hy.nilslice
    split at e <;> first
      | (cases e; done)
      | (rename_i hu
         simp only [Option.some.injEq] at e
         subst e
         have hn : a' = none ∨ b' = none := isNone_or (by simp [ha, hb])
         simp [binOp, run_equal_slice hu a' b' l m c' d' hn, ha, hb])
  · split at e
    · rename_i hg
      simp only [Bool.and_eq_true] at hg
      rw [hx.ground_eq hg.1, hy.ground_eq hg.2]
      split at e
      · rename_i r hr
        split at e
        · cases e; exact pureRun_sound _ hr w
        · cases e
      · cases e
    · cases e

theorem VRel.to_nilIface {x : Value} (hx : VRel μ x .nilIface) : x = .nilIface := by cases hx; rfl
theorem VRel.to_agg {x : Value} {ys : Array Value} (hx : VRel μ x (.agg ys)) : ∃ xs, x = .agg xs := by
  cases hx with
  | flat h => simp [Abs.flat] at h
  | agg _ _ => exact ⟨_, rfl⟩

theorem eqGuard_sound {op : BinOp} {t : TypeId} {ox oy : Operand} {x y x' y' : Value} (hx : VRel μ x x') (hy : VRel μ y y') (e : eqOk P op t x y = true) :
    (eqGuard op t ox oy x' y').run P w = .ok () w := by
  have key : op = .eql ∨ op = .neq ∨ (op ≠ .eql ∧ op ≠ .neq) := by cases op <;> simp
  have main : (op = .eql ∨ op = .neq) → (eqGuard op t ox oy x' y').run P w = .ok () w := by
    intro h1
    have hm : ∀ (o : BinOp), o = op → (eqGuard o t ox oy x' y').run P w = .ok () w := by
      intro o ho
      rcases h1 with h1 | h1 <;> (
        rw [h1] at ho; subst ho; rw [h1] at e
        unfold eqGuard
        simp only [Bool.not_true, Bool.false_eq_true, if_false]
        split
        · have := hx.to_nilIface
          have := hy.to_nilIface
          subst_vars
          simp [eqOk] at e
        · obtain ⟨xs, rfl⟩ := hx.to_agg
          obtain ⟨ys, rfl⟩ := hy.to_agg
          simp [eqOk] at e
          simp [e]
        · rfl)
    exact hm op rfl
  rcases key with h1 | h1 | h1
  · exact main (.inl h1)
  · exact main (.inr h1)
  · have hm : eqGuard op t ox oy x' y' = pure () := by cases op <;> first | rfl | (simp at h1; done)
    rw [hm]; rfl

theorem bin_sound {op : BinOp} {t : TypeId} {ox oy : Operand} {x y x' y' r : Value} (hx : VRel μ x x') (hy : VRel μ y y') (e : bin P op t x y = some r) :
    (do eqGuard op t ox oy x' y'; binOp op t x' y' : Sem Value).run P w = .ok r w := by
  unfold bin at e
  split at e
  · rename_i hg
    rw [Sem.run_bind, eqGuard_sound hx hy hg, Result.andThen_ok]
    exact binA_sound hx hy e
  · cases e

theorem un_sound {op : UnOp} {x x' r : Value} (hx : VRel μ x x') (e : unA op x = some r) : (Op.unary op x').run P w = .ok r w := by
  unfold unA at e
  split at e
  · rw [hx.int]; cases e; simp [Op.unary, Op.intArith]
  · rw [hx.int]; simp only [Op.unary]; exact bits_sound e
  · rw [hx.bool]; cases e; simp [Op.unary]
  · cases e

theorem bits_flat {op : BinOp} {k : IntKind} {a b : Int} {r : Value} (e : bitsA op k a b = some r) : flat r = true := by
  unfold bitsA at e
  cases op <;> simp at e <;> subst e <;> rfl
theorem binI_flat {op : BinOp} {k k' : IntKind} {a b : Int} {r : Value} (e : binI op k k' a b = some r) : flat r = true := by
  unfold binI at e
  cases op <;> simp only at e <;> (repeat' split at e) <;> first
    | (cases e; done)
    | (simp only [Option.some.injEq] at e; subst e; rfl)
    | exact bits_flat e
theorem bin_flat {op : BinOp} {t : TypeId} {x y r : Value} (e : bin P op t x y = some r) : flat r = true := by
  unfold bin at e
  split at e
  · unfold binA at e
    split at e
    · exact binI_flat e
    · split at e <;> first
        | (cases e; done)
        | (simp only [Option.some.injEq] at e; subst e; rfl)
    · split at e <;> first
        | (cases e; done)
        | (simp only [Option.some.injEq] at e; subst e; rfl)
    · split at e
      · split at e
        · split at e
          · rename_i hf; cases e; exact hf
          · cases e
        · cases e
      · cases e
  · cases e
theorem un_flat {op : UnOp} {x r : Value} (e : unA op x = some r) : flat r = true := by
  unfold unA at e
  split at e
  · cases e; rfl
  · exact bits_flat e
  · cases e; rfl
  · cases e

theorem nilCheck_rel {x x' r : Value} (hx : VRel μ x x') (e : nilCheckA x = some r) : VRel μ r x' ∧ ((∃ a, x' = .pointer (some a)) ∨ ∃ f a b, x' = .func (.func f) a b) := by
  unfold nilCheckA at e
  split at e
  · cases e
    refine ⟨hx, ?_⟩
    cases hx with
    | flat h => simp [flat] at h
    | ptr h => exact .inl ⟨_, rfl⟩
  · cases e
    refine ⟨hx, ?_⟩
    cases hx with
    | flat h => exact .inr ⟨_, _, _, rfl⟩
    | func _ _ _ _ => exact .inr ⟨_, _, _, rfl⟩
  · cases e

theorem buildSlice_sound {t : TypeId} {len : Nat} {aps : List (Nat × Value)} {cps : Array (Nat × Value)} {r : Value} {h' : Heap} (s : Sim μ h w) (hf : Free μ h h') (hl : aps.length = cps.size)
    (hr : ∀ (i : Nat) (x y : Nat × Value), aps[i]? = some x → cps.toList[i]? = some y → x.1 = y.1 ∧ VRel μ x.2 y.2) (e : buildSliceA P t len aps h = some (r, h')) :
    ∃ μ' r' w', (Instr.buildSlice t len cps).run P w = .ok r' w' ∧ Sim μ' h' w' ∧ Step μ h w μ' h' w' ∧ VRel μ' r r' := by
  unfold buildSliceA at e
  cases hu : P.underlying t with
  | none => rw [show elemT P t = none from by simp [elemT, hu]] at e; cases e
  | some d =>
    cases d with
    | slice el =>
      rw [show elemT P t = some el from by simp [elemT, hu]] at e
      simp only at e
      split at e
      · rename_i n z hn hz
        split at e
        · rename_i hc
          simp only [Bool.and_eq_true, decide_eq_true_eq] at hc
          obtain ⟨⟨⟨⟨hfl, hzn⟩, hpos⟩, hsz⟩, hone⟩ := hc
          split at e
          · rename_i cs hcs
            simp only [Option.some.injEq, Prod.mk.injEq] at e
            obtain ⟨rfl, rfl⟩ := e
            have hz1 : zeros z.cells.toList len = (List.range (len * n)).map fun i => z.cells[i % z.cells.size]! := by
              rw [← hzn, range_zeros z.cells (by omega)]
            obtain ⟨out, ho, hrel⟩ := fill_sound (Parts.of_array (n := n) (by simpa using hl) hr) (LRel.of_flat (μ := μ) (l := zeros z.cells.toList len) (by
              simp only [flatAll, List.all_eq_true, zeros, List.mem_flatMap] at hfl ⊢
              rintro x ⟨_, _, hx⟩; exact hfl x hx)) hcs
            have harr : (Array.range (len * n)).map (fun i => z.cells[i % z.cells.size]!) = (zeros z.cells.toList len).toArray := by
              apply Array.ext'
              rw [hz1]; simp
            obtain ⟨μ', w', hrun, hS, hSt, L, hL, hB, hO, _⟩ := newRow_sound (P := P) s hf hrel el
            refine ⟨μ', .slice (some ⟨w.heap.size, 0, none⟩) len len, w', ?_, hS, hSt, ?_⟩
            · by_cases hlen : len * n = 0
              · have hnil : zeros z.cells.toList len = [] := by rw [hz1, hlen]; rfl
                rw [hnil] at ho
                simp only [Instr.buildSlice, Sem.run_bind, run_underlying hu, Result.andThen_ok, run_sizeT w hn]
                rw [if_neg (by omega)]
                have ho' : Instr.fill (fun i => some (i * n, n)) #[] cps.toList = some out.toArray := ho
                have hr0 : Array.range (len * n) = #[] := by rw [hlen]; rfl
                rw [if_pos hlen, hr0]
                simp [ho', hrun]
              · simp only [Instr.buildSlice, Sem.run_bind, run_underlying hu, Result.andThen_ok, run_sizeT w hn]
                rw [if_neg (by omega)]
                simp only [hlen, if_false, Sem.run_bind, run_zeroT w hz, Result.andThen_ok, Sem.run_pure, harr, ho, hrun]
            · have := VRel.slice (off := 0) (len := len) (cap := len) hL
              rw [hB, hO] at this
              exact this
          · cases e
        · cases e
      · cases e
    | _ => rw [show elemT P t = none from by simp [elemT, hu]] at e; cases e



theorem modify_push {α : Type} (a : Array α) (x : α) (f : α → α) : (a.push x).modify a.size f = a.push (f x) := by
  apply Array.ext
  · simp
  · intro i h1 h2
    rw [Array.getElem_modify]
    by_cases e : a.size = i
    · subst e; simp
    · rw [if_neg e, Array.getElem_push, Array.getElem_push]
      simp at h1
      rw [dif_pos (by omega), dif_pos (by omega)]

theorem freeze_push (w : World) (arr : Array Value) (e : TypeId) :
    ({ w with heap := w.heap.push (.cells arr e (0, 0)) } : World).freeze ⟨w.heap.size, arr.size, none⟩ 1 = { w with heap := w.heap.push (.cells arr e (arr.size, arr.size + 1)) } := by
  unfold World.freeze
  rw [if_neg (by decide)]
  simp only [modify_push]
  rfl

/-- The row that a conversion of a string makes. -/
theorem run_stringToBytes (e : TypeId) (sb : ByteArray) (hsz : sb.size ≤ maxLen) : ∃ cap arr, sb.size ≤ cap ∧ cap ≤ maxLen ∧ arr.size = cap ∧
    (arr.toList.take sb.size = sb.data.toList.map fun b => .int .u8 b.toNat) ∧
    (Conv.stringToBytes e sb).run P w = .ok (.slice (some ⟨w.heap.size, 0, none⟩) sb.size cap) { w.drew with heap := w.heap.push (.cells arr e (arr.size, arr.size + 1)) } := by
  have hge := grownCap_ge w sb.size 0 e
  have hle := grownCap_le_maxLen w sb.size 0 e hsz
  have hds : sb.data.size = sb.size := rfl
  refine ⟨grownCap w sb.size 0 e, (sb.data.map fun (b : UInt8) => Value.int .u8 (b.toNat : Int)) ++ Array.replicate (grownCap w sb.size 0 e - sb.size) (.int .u8 0), hge, hle, ?_, ?_, ?_⟩
  · simp [Array.size_append]; omega
  · rw [Array.toList_append, List.take_append_of_le_length (by simp [hds]), List.take_of_length_le (by simp [hds])]
    simp
  · unfold Conv.stringToBytes markStringish
    rw [Sem.run_bind, run_choose]
    simp only [Question.forced, Bool.false_eq_true, if_false, Result.andThen_ok, Sem.run_bind, Go.newRow, run_newObj, Sem.run_pure, run_shape, World.shape?, Array.getElem?_push_size, run_freeze]
    have := freeze_push w.drew ((sb.data.map fun (b : UInt8) => Value.int .u8 (b.toNat : Int)) ++ Array.replicate (grownCap w sb.size 0 e - sb.size) (.int .u8 0)) e
    exact congrArg (Result.ok _) this

/-- A mark behind the cells of a block. -/
theorem Sim.freeze {b O : Nat} {k : Blk} {L : Loc} (s : Sim μ h w) (hb : h.n0 ≤ b) (hg : h.get b = some k) (hL : μ b = some L) :
    ∃ w', (markStringish ⟨L.blk, O, none⟩).run P w = .ok () w' ∧ Sim μ h w' ∧ Step μ h w μ h w' := by
  obtain ⟨L', arr, T, fr, h1, h2, h4, h5, h6, h7, h8, h9⟩ := s.new b k hb hg
  rw [hL] at h1; cases h1
  have hsame : ∀ B, B ≠ L.blk → (w.freeze ⟨L.blk, arr.size, none⟩ 1).heap[B]? = w.heap[B]? := by
    intro B hB
    unfold World.freeze
    rw [if_neg (by decide)]
    simp only [Array.getElem?_modify]
    rw [if_neg (Ne.symm hB)]
  obtain ⟨fr', hfr', hnew⟩ : ∃ fr', arr.size ≤ fr'.1 ∧ (w.freeze ⟨L.blk, arr.size, none⟩ 1).heap[L.blk]? = some (.cells arr T fr') := by
    unfold World.freeze
    rw [if_neg (by decide)]
    simp only [Array.getElem?_modify]
    rw [if_pos trivial, h4]
    obtain ⟨lo, hi⟩ := fr
    simp only [Option.map_some]
    by_cases e : lo = hi
    · subst e; exact ⟨(arr.size, arr.size + 1), Nat.le_refl _, by simp⟩
    · refine ⟨(min lo arr.size, max hi (arr.size + 1)), ?_, by simp [e]⟩
      simp only at h7 ⊢
      omega
  refine ⟨w.freeze ⟨L.blk, arr.size, none⟩ 1, ?_, ⟨?_, ?_, s.inj, ?_, s.low⟩, ⟨fun _ _ => rfl, rfl, rfl, Nat.le_refl _, rfl, rfl, rfl, ?_, ?_, fun B hB => .inl hB⟩⟩
  · unfold markStringish
    simp only [Sem.run_bind, run_shape, World.shape?, h4, Result.andThen_ok, run_freeze]
  · intro c cs hc hcs
    obtain ⟨L2, a, T2, f2, g1, g2, g3, g4, g5⟩ := s.old c cs hc hcs
    exact ⟨L2, a, T2, f2, g1, g2, g3, by rw [hsame c (by omega)]; exact g4, g5⟩
  · intro c kc hc hgc
    by_cases e : c = b
    · subst e
      rw [hg] at hgc; cases hgc
      exact ⟨L, arr, T, fr', hL, h2, hnew, h5, h6, .inr hfr', h8, h9⟩
    · obtain ⟨L2, a, T2, f2, g1, g2, g4, g5⟩ := s.new c kc hc hgc
      exact ⟨L2, a, T2, f2, g1, g2, by rw [hsame _ (s.inj c b kc k L2 L hc hb e hgc hg g1 hL)]; exact g4, g5⟩
  · unfold World.freeze; simpa using s.size
  · unfold World.freeze; simp
  · intro B hB hO
    exact hsame B (fun e => hO ⟨b, k, L, hb, hg, hL, e.symm⟩)

/-- Bytes out of cells. -/
theorem asByte_list {l : List Value} {bs : List UInt8} (e : l.mapM asByte = some bs) : ∃ ns : List Int, l = ns.map (Value.int .u8) ∧ ns.map (fun n => UInt8.ofNat n.toNat) = bs := by
  induction l generalizing bs with
  | nil => simp at e; subst e; exact ⟨[], rfl, rfl⟩
  | cons v l ih =>
    rw [List.mapM_cons] at e
    simp only [bind, Option.bind_eq_some_iff, pure, Option.some.injEq] at e
    obtain ⟨a, ha, r, hr, rfl⟩ := e
    unfold asByte at ha
    split at ha
    · rename_i n
      cases ha
      obtain ⟨ns, rfl, rfl⟩ := ih hr
      exact ⟨n :: ns, rfl, rfl⟩
    · cases ha
theorem foldl_push (ns : List Int) : ∀ (s : ByteArray), ns.foldl (fun r n => r.push (UInt8.ofNat n.toNat)) s = ⟨s.data ++ (ns.map fun n => UInt8.ofNat n.toNat).toArray⟩ := by
  induction ns with
  | nil => intro s; simp
  | cons n ns ih =>
    intro s
    simp only [List.foldl_cons, ih, List.map_cons]
    simp [ByteArray.push]

theorem firstA_slice {size n : Nat} {a : Option Addr} {len cap : Nat} {v' : Value} {cs : List Value} (s : Sim μ h w) (hx : VRel μ (.slice a len cap) v') (e : firstA size n (.slice a len cap) h = some cs) (hn : n ≤ len) (P : Program) :
    ∃ cs', (∀ w', w'.heap = w.heap → (Builtin.firstCells size n v').run P w' = .ok cs'.toArray w') ∧ LRel μ cs cs' ∧ ∀ a' l c, v' = .slice (some a') l c → (Go.loadCells a' (n * size)).run P w = .ok cs'.toArray w := by
  unfold firstA at e
  split at e
  · rename_i heq
    cases heq
    split at e
    · cases e
      rw [hx.flat_eq rfl]
      exact ⟨[], by intro w' _; simp [Builtin.firstCells], LRel.nil μ, by intro a' l c h; cases h⟩
    · cases e
  · rename_i b off sp l c heq
    cases heq
    split at e
    · rename_i h0
      cases e
      refine ⟨[], ?_, LRel.nil μ, ?_⟩
      · intro w' _; cases hx <;> simp [Builtin.firstCells, h0, Go.loadCells, Go.loadCellsFrom]
      · intro a' l c _; simp [h0, Go.loadCells, Go.loadCellsFrom]
    · rename_i h0
      split at e
      · rename_i k hk
        split at e
        · rename_i hle
          cases e
          have hne : n ≠ 0 := by rintro rfl; simp at h0
          obtain ⟨L, cs', hL, hr, hrun⟩ := s.loadCells hk hle P
          cases hx with
          | flat h => simp [flat] at h
          | slice h => rw [h] at hL; cases hL; exact ⟨cs', by simpa [Builtin.firstCells] using hrun, hr, by intro a' l c h; cases h; exact hrun w rfl⟩
          | hid h => rw [h] at hL; cases hL; exact ⟨cs', by simpa [Builtin.firstCells] using hrun, hr, by intro a' l c h; cases h; exact hrun w rfl⟩
          | hemp h => exact absurd hn (by omega)
        · cases e
      · cases e
  · rename_i heq; cases heq
  · cases e

theorem conv_sound {src dst : TypeId} {x x' r : Value} {h' : Heap} (s : Sim μ h w) (hf : Free μ h h') (hx : VRel μ x x') (e : convA P src dst x h = some (r, h')) :
    ∃ μ' r' w', (convert src dst x').run P w = .ok r' w' ∧ Sim μ' h' w' ∧ Step μ h w μ' h' w' ∧ VRel μ' r r' := by
  unfold convA at e
  split at e
  · rename_i hs hd
    rw [hx.int]
    cases e
    refine ⟨μ, _, w, ?_, s, .same_world, .flat rfl⟩
    simp [convert, run_underlying hs, run_underlying hd, Conv.intToInt]
  · rename_i hs hd
    rw [hx.flat_eq rfl]
    cases e
    refine ⟨μ, _, w, ?_, s, .same_world, .flat rfl⟩
    rename_i d _ _ _
    cases d <;> simp [convert, run_underlying hs, run_underlying hd]
  · rename_i d el sb hs hd
    rw [hx.flat_eq rfl]
    split at e
    · rename_i hel
      split at e
      · rename_i hsz
        simp only [Option.some.injEq, Prod.mk.injEq] at e
        obtain ⟨rfl, rfl⟩ := e
        obtain ⟨cap, arr, c1, c2, c3, c4, c5⟩ := run_stringToBytes (P := P) (w := w) el sb (by unfold maxLen; omega)
        obtain ⟨hS, hSt⟩ := s.alloc (k := sb.data.toList.map fun b => .int .u8 b.toNat) hf (arr := arr) (T := el) (fr := (arr.size, arr.size + 1)) (.inr (Nat.le_refl _))
          (by have : sb.data.size = sb.size := rfl; simp; omega)
          (by have : sb.data.size = sb.size := rfl
              simp only [List.length_map, Array.length_toList, this, c4]
              exact LRel.of_flat (by rw [flatAll, List.all_eq_true]; intro x hx; obtain ⟨b, _, rfl⟩ := List.mem_map.1 hx; rfl)) (w1 := { w.drew with heap := w.heap.push (.cells arr el (arr.size, arr.size + 1)) }) rfl rfl rfl rfl
        refine ⟨_, .slice (some ⟨w.heap.size, 0, none⟩) sb.size cap, _, ?_, hS, hSt, ?_⟩
        · have : (convert src dst (.string sb)).run P w = (Conv.stringToBytes el sb).run P w := by
            cases d <;> simp [convert, run_underlying hs, run_underlying hd, run_underlying hel]
          rw [this, c5]
        · have : sb.data.size = sb.size := rfl
          have := VRel.hid (μ := μ.put h.next ⟨w.heap.size, 0, arr.size, (sb.data.toList.map fun b => Value.int .u8 b.toNat).length⟩) (b := h.next) (off := 0) (len := sb.size) (cap := sb.size) (cap' := cap) (s := 1)
            (Mu.put_same _ _ _) (Nat.le_refl _) c1 c2 (by simp) (by simp only; omega)
          simpa using this
      · cases e
    · cases e
  · rename_i el0 el a n c hs hd
    split at e
    · rename_i hel
      split at e
      · rename_i hc
        simp only [Bool.and_eq_true, decide_eq_true_eq] at hc
        obtain ⟨⟨rfl, hb⟩, hlive⟩ := hc
        obtain ⟨k, hk⟩ := Option.isSome_iff_exists.1 hlive
        cases e
        rw [hs] at hd; cases hd
        have main : ∀ (L : Loc) (O c' : Nat), μ a.block = some L → x' = .slice (some ⟨L.blk, O, none⟩) n c' → ∃ μ' r' w', (convert src src x').run P w = .ok r' w' ∧ Sim μ' h w' ∧ Step μ h w μ' h w' ∧ VRel μ' (.slice (some a) n c) r' := by
          rintro L O c' hL rfl
          obtain ⟨w', hrun, hS, hSt⟩ := s.freeze (P := P) (O := O) hb hk hL
          refine ⟨μ, _, w', ?_, hS, hSt, hx⟩
          simp [convert, run_underlying hs, run_underlying hel, hrun]
        cases hx with
        | flat h => simp [flat] at h
        | slice h => exact main _ _ _ h rfl
        | hid h => exact main _ _ _ h rfl
        | hemp h => exact main _ _ _ h rfl
      · cases e
    · cases e
  · rename_i el a n c hs hd
    split at e
    · rename_i hel
      split at e
      · rename_i l hl
        split at e
        · rename_i bs hbs
          cases e
          obtain ⟨cs', h1, h2, h3⟩ := firstA_slice s hx hl (Nat.le_refl _) P
          obtain ⟨ns, rfl, rfl⟩ := asByte_list hbs
          have hcs : cs' = ns.map (Value.int .u8) := h2.flat_eq (by simp [flatAll, flat])
          subst hcs
          refine ⟨μ, .string ⟨(ns.map fun n => UInt8.ofNat n.toNat).toArray⟩, w, ?_, s, .same_world, .flat rfl⟩
          obtain ⟨b', c', rfl, hnone⟩ := hx.nilslice
          rw [run_convert_bytes_string w src dst el b' n c' hs hel hd]
          cases b' with
          | none =>
            have : a = none := by simpa using hnone.symm
            subst this
            have hns : ns = [] := by
              have hl' : (if n = 0 then some [] else none) = some (ns.map (Value.int .u8)) := hl
              split at hl'
              · simpa using (Option.some.inj hl').symm
              · simp at hl'
            subst hns
            rfl
          | some a' =>
            have hrun := h3 a' n c' rfl
            rw [Nat.mul_one] at hrun
            rw [run_bytesToString w a' n c' ns hrun, foldl_push]
            simp
        · cases e
      · cases e
    · cases e
  · cases e

end ops
end Go.Abs
