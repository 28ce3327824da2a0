/-
  The abstract machine: each operation but calls and builtins, as the model does it.
  Conditions: none (lemmas).
-/
import Derived.Test.YtcmfgmhadeeieaaA3
namespace Go.Abs

section types
variable {P : Program} {t : TypeId} (w : World)
theorem info_of_sizeT {n : Nat} (h : sizeT P t = some n) : ∃ i, P.info? t = some i ∧ i.size = n := by
  unfold sizeT at h
  cases hi : P.info? t with
  | none => rw [hi] at h; cases h
  | some i => rw [hi] at h; exact ⟨i, rfl, by simpa using h⟩
theorem run_typeInfo {i : TypeInfo} (h : P.info? t = some i) : (typeInfo t).run P w = .ok i w := by simp [typeInfo, h]
theorem run_sizeT {n : Nat} (h : sizeT P t = some n) : (sizeOf t).run P w = .ok n w := by
  obtain ⟨i, hi, rfl⟩ := info_of_sizeT h
  simp [sizeOf, run_typeInfo w hi]
theorem run_zeroT {z : Value} (h : zeroT P t = some z) : (zeroValue t).run P w = .ok z w := by
  unfold zeroT at h
  cases hi : P.info? t with
  | none => rw [hi] at h; cases h
  | some i =>
    rw [hi] at h
    simp only [Option.bind_some] at h
    simp [zeroValue, run_typeInfo w hi, h]
theorem run_aggT {b : Bool} (h : aggT P t = some b) : (isAgg t).run P w = .ok b w := by
  unfold aggT at h
  cases hu : P.underlying t with
  | none => rw [hu] at h; cases h
  | some d =>
    rw [hu] at h
    unfold isAgg
    rw [Sem.run_bind, run_underlying hu]
    cases d <;> simp at h <;> subst h <;> rfl
end types

section ops
variable {P : Program} {μ : Mu} {h : Heap} {w : World}

theorem addrOf_rel {b off : Nat} {v : Value} (hv : VRel μ (.pointer (some ⟨b, off, none⟩)) v) : ∃ L, μ b = some L ∧ v = .pointer (some ⟨L.blk, L.off + off, none⟩) := by
  cases hv with
  | flat h => simp [flat] at h
  | ptr h => exact ⟨_, h, rfl⟩

theorem ld_sound {t : TypeId} {v v' r : Value} {h' : Heap} (s : Sim μ h w) (hv : VRel μ v v') (e : ld P t v h = some (r, h')) :
    h' = h ∧ ∃ r', (Instr.loadAt t v').run P w = .ok r' w ∧ VRel μ r r' := by
  unfold ld at e
  cases ha : aggT P t with
  | none => rw [ha] at e; cases e
  | some ag =>
    cases hs : sizeT P t with
    | none => rw [ha, hs] at e; cases ag <;> cases e
    | some n =>
      rw [ha, hs] at e
      cases ag with
      | true =>
        simp only at e
        unfold ldN at e
        split at e
        · rename_i b off
          obtain ⟨L, hL, rfl⟩ := addrOf_rel hv
          split at e
          · rename_i k hk
            split at e
            · rename_i hle
              simp only [Option.some.injEq, Prod.mk.injEq] at e
              obtain ⟨rfl, rfl⟩ := e
              obtain ⟨L', cs, hL', hr, hrun⟩ := s.loadCells hk hle P
              rw [hL] at hL'; cases hL'
              refine ⟨rfl, .agg cs.toArray, ?_, .of_list_agg hr⟩
              simp [Instr.loadAt, Instr.sureAddr, loadVar, run_aggT w ha, run_sizeT w hs, hrun w rfl]
            · cases e
          · cases e
        · cases e
      | false =>
        simp only at e
        unfold ld1 at e
        split at e
        · rename_i b off
          obtain ⟨L, hL, rfl⟩ := addrOf_rel hv
          split at e
          · rename_i k hk
            split at e
            · rename_i c hc
              simp only [Option.some.injEq, Prod.mk.injEq] at e
              obtain ⟨rfl, rfl⟩ := e
              obtain ⟨L', c', hL', hr, hv'⟩ := s.cell hk hc
              rw [hL] at hL'; cases hL'
              refine ⟨rfl, c', ?_, hv'⟩
              simp [Instr.loadAt, Instr.sureAddr, loadVar, run_aggT w ha, hr]
            · cases e
          · cases e
        · cases e

theorem stL_sound {b off : Nat} {xs ys : List Value} {h' : Heap} (s : Sim μ h w) (hx : LRel μ xs ys) (e : stL b off xs h = some h') :
    ∃ L w', μ b = some L ∧ (Go.storeCells ⟨L.blk, L.off + off, none⟩ ys).run P w = .ok () w' ∧ Sim μ h' w' ∧ Step μ h w μ h' w' := by
  unfold stL at e
  split at e
  · rename_i k hk
    split at e
    · rename_i hc
      simp only [Bool.and_eq_true, decide_eq_true_eq] at hc
      simp only [Option.some.injEq] at e
      subst e
      exact s.storeCells hc.1.1 hk hc.1.2 hx hc.2 P
    · cases e
  · cases e

theorem st_sound {t : TypeId} {v v' x x' r : Value} {h' : Heap} (s : Sim μ h w) (hv : VRel μ v v') (hx : VRel μ x x') (e : st P t v x h = some (r, h')) :
    r = undef ∧ ∃ w', (Instr.storeAt t v' x').run P w = .ok () w' ∧ Sim μ h' w' ∧ Step μ h w μ h' w' := by
  unfold st at e
  cases hs : sizeT P t with
  | none => rw [hs] at e; cases e
  | some n =>
    rw [hs] at e
    simp only at e
    unfold stN at e
    split at e
    · rename_i b off
      obtain ⟨L, hL, rfl⟩ := addrOf_rel hv
      split at e
      · rename_i hsz
        simp only [Option.map_eq_some_iff, Prod.mk.injEq] at e
        obtain ⟨h1, he, rfl, rfl⟩ := e
        obtain ⟨L', w', hL', hrun, hS, hSt⟩ := stL_sound (P := P) s hx.cells he
        rw [hL] at hL'; cases hL'
        refine ⟨rfl, w', ?_, hS, hSt⟩
        have hsz' : x'.cells.size = n := by
          have := hx.cells.1
          simp only [Array.length_toList] at this
          omega
        simp [Instr.storeAt, Instr.sureAddr, storeVar, run_sizeT w hs, hsz', hrun]
      · cases e
    · cases e

/-- What a new row of cells gives. -/
theorem newRow_sound {xs ys : List Value} (s : Sim μ h w) (hf : Free μ h (h.alloc xs)) (hx : LRel μ xs ys) (T : TypeId) :
    ∃ μ' w', (Go.newRow T ys.toArray).run P w = .ok ⟨w.heap.size, 0, none⟩ w' ∧ Sim μ' (h.alloc xs) w' ∧ Step μ h w μ' (h.alloc xs) w' ∧
      ∃ L, μ' h.next = some L ∧ L.blk = w.heap.size ∧ L.off = 0 ∧ L.ext = ys.length ∧ L.len = xs.length := by
  obtain ⟨h1, h2⟩ := s.alloc (k := xs) hf (arr := ys.toArray) (T := T) (fr := (0, 0)) (.inl rfl) (by simp [hx.1]) (by simpa [hx.1] using hx) (w1 := { w with heap := w.heap.push (.cells ys.toArray T (0, 0)) }) rfl rfl rfl rfl
  refine ⟨_, _, ?_, h1, h2, _, Mu.put_same _ _ _, rfl, rfl, by simp, rfl⟩
  simp [Go.newRow]

theorem zero_sound {t : TypeId} {r old : Value} {h' : Heap} (s : Sim μ h w) (hf : Free μ h h') (e : zero P t h = some (r, h')) :
    ∃ μ' r' w', (Instr.alloc t true old).run P w = .ok r' w' ∧ Sim μ' h' w' ∧ Step μ h w μ' h' w' ∧ VRel μ' r r' := by
  unfold zero at e
  cases hz : zeroT P t with
  | none => rw [hz] at e; cases e
  | some z =>
    rw [hz] at e
    simp only at e
    split at e
    · rename_i hfl
      simp only [Abs.newRow, Option.some.injEq, Prod.mk.injEq] at e
      obtain ⟨rfl, rfl⟩ := e
      obtain ⟨μ', w', hrun, hS, hSt, L, hL, hB, hO, _⟩ := newRow_sound (P := P) s hf (LRel.of_flat hfl) t
      refine ⟨μ', .pointer (some ⟨w.heap.size, 0, none⟩), w', ?_, hS, hSt, ?_⟩
      · simp only [Array.toArray_toList] at hrun
        simp [Instr.alloc, run_zeroT w hz, newVar, hrun]
      · have := VRel.ptr (off := 0) hL
        rw [hB, hO] at this
        exact this
    · cases e

theorem box_sound {t : TypeId} {x x' r : Value} {h' : Heap} (s : Sim μ h w) (hf : Free μ h h') (hx : VRel μ x x') (e : box x h = some (r, h')) :
    ∃ μ' r' w', (Instr.box t x').run P w = .ok r' w' ∧ Sim μ' h' w' ∧ Step μ h w μ' h' w' ∧ VRel μ' r r' := by
  unfold box at e
  split at e
  · simp only [Abs.newRow, Option.some.injEq, Prod.mk.injEq] at e
    obtain ⟨rfl, rfl⟩ := e
    obtain ⟨μ', w', hrun, hS, hSt, L, hL, hB, hO, _⟩ := newRow_sound (P := P) s hf hx.cells t
    refine ⟨μ', .pointer (some ⟨w.heap.size, 0, none⟩), w', ?_, hS, hSt, ?_⟩
    · simp only [Array.toArray_toList] at hrun
      simp [Instr.box, newVar, hrun]
    · have := VRel.ptr (off := 0) hL
      rw [hB, hO] at this
      exact this
  · cases e

/-- Cells laid one behind the other into an array. -/
theorem foldl_set (off : Nat) : ∀ (l : List Value) (k : Nat) (cs : Array Value), off + k + l.length ≤ cs.size →
    (l.zipIdx k).foldl (fun (cs : Array Value) (x : Value × Nat) => cs.setIfInBounds (off + x.2) x.1) cs = (splice cs.toList (off + k) l).toArray
  | [], k, cs, _ => by simp [splice]
  | v :: l, k, cs, h => by
    simp only [List.zipIdx_cons, List.foldl_cons]
    rw [foldl_set off l (k + 1) _ (by simp at h ⊢; omega)]
    have hal : cs.toList.length = cs.size := Array.length_toList
    have := list_seg_step cs.toList (off + k) v l (by simp at h; omega)
    simp only [splice, Array.toList_setIfInBounds, List.length_cons]
    rw [← this]
    simp [Nat.add_assoc]

theorem fill_one (off : Nat) (v : Value) (cs : List Value) (h : off + v.cells.size ≤ cs.length) :
    v.cells.zipIdx.foldl (fun (cs : Array Value) (x : Value × Nat) => cs.setIfInBounds (off + x.2) x.1) cs.toArray = (splice cs off v.cells.toList).toArray := by
  have := foldl_set off v.cells.toList 0 cs.toArray (by simpa using h)
  simp only [Nat.add_zero] at this
  rw [← this, ← Array.foldl_toList]
  simp

/-- Parts and their places, on both sides. -/
inductive Parts (μ : Mu) (pl : Nat → Option (Nat × Nat)) : List (Nat × Nat × Value) → List (Nat × Value) → Prop
  | nil : Parts μ pl [] []
  | cons {i off n : Nat} {x y : Value} {ts cs} (hp : pl i = some (off, n)) (hv : VRel μ x y) (ht : Parts μ pl ts cs) : Parts μ pl ((off, n, x) :: ts) ((i, y) :: cs)

theorem fill_sound {pl : Nat → Option (Nat × Nat)} {ts : List (Nat × Nat × Value)} {cps : List (Nat × Value)} (hp : Parts μ pl ts cps) :
    ∀ {cells cc out : List Value}, LRel μ cells cc → fillL cells ts = some out → ∃ out', Instr.fill pl cc.toArray cps = some out'.toArray ∧ LRel μ out out' := by
  induction hp with
  | nil =>
    intro cells cc out hc e
    simp only [fillL, Option.some.injEq] at e
    subst e
    exact ⟨cc, by simp [Instr.fill], hc⟩
  | @cons i off n x y ts cs hp hv ht ih =>
    intro cells cc out hc e
    simp only [fillL] at e
    split at e
    · rename_i hb
      simp only [Bool.and_eq_true, decide_eq_true_eq] at hb
      obtain ⟨out', ho, hr⟩ := ih (hc.splice hv.cells off) e
      refine ⟨out', ?_, hr⟩
      have hs : y.cells.size = n := by have := hv.cells.1; simp only [Array.length_toList] at this; omega
      have hl := hc.1
      simp only [Instr.fill, hp]
      rw [if_neg (by simp [hs]; omega)]
      have := fill_one off y cc (by omega)
      rw [this]; exact ho
    · cases e

theorem run_mapM_arr {α β : Type} (P : Program) (w : World) (f : α → Sem β) (g : α → β) (arr : Array α) (hf : ∀ x ∈ arr.toList, (f x).run P w = .ok (g x) w) : (arr.mapM f).run P w = .ok (arr.map g) w := by
  rw [Array.mapM_eq_mapM_toList, Sem.run_map]
  have key : ∀ l : List α, (∀ x ∈ l, (f x).run P w = .ok (g x) w) → (l.mapM f).run P w = .ok (l.map g) w := by
    intro l
    induction l with
    | nil => intro _; simp
    | cons x l ih =>
      intro h
      rw [List.mapM_cons, Sem.run_bind, h x (by simp), Result.andThen_ok, Sem.run_bind, ih (fun y hy => h y (by simp [hy]))]
      simp
  rw [key _ hf]
  simp [← Array.toList_map]

theorem Parts.of_fields {fs : Array Field} : ∀ {aps cps : List (Nat × Value)} {ts}, aps.length = cps.length → (∀ (i : Nat) (x y : Nat × Value), aps[i]? = some x → cps[i]? = some y → x.1 = y.1 ∧ VRel μ x.2 y.2) →
    fieldPlaces P fs aps = some ts → Parts μ (fun i => (fs.map fun (f : Field) => (f.offset, (sizeT P f.type).getD 0))[i]?) ts cps
  | [], [], ts, _, _, e => by simp [fieldPlaces] at e; subst e; exact .nil
  | [], _ :: _, _, hl, _, _ => by simp at hl
  | _ :: _, [], _, hl, _, _ => by simp at hl
  | x :: aps, y :: cps, ts, hl, hr, e => by
    unfold fieldPlaces at e
    rw [List.mapM_cons] at e
    simp only [bind, Option.bind_eq_some_iff, pure, Option.some.injEq] at e
    obtain ⟨a, ha, l, hl', rfl⟩ := e
    split at ha
    · rename_i f hf
      simp only [Option.map_eq_some_iff] at ha
      obtain ⟨n, hn, rfl⟩ := ha
      obtain ⟨h1, h2⟩ := hr 0 x y rfl rfl
      obtain ⟨i, u⟩ := y
      subst h1
      exact .cons (by simp [hf, hn]) h2 (Parts.of_fields (by simpa using hl) (fun j a b ha hb => hr (j + 1) a b ha hb) hl')
    · cases ha
theorem Parts.of_array {n : Nat} : ∀ {aps cps : List (Nat × Value)}, aps.length = cps.length → (∀ (i : Nat) (x y : Nat × Value), aps[i]? = some x → cps[i]? = some y → x.1 = y.1 ∧ VRel μ x.2 y.2) →
    Parts μ (fun i => some (i * n, n)) (aps.map fun x => (x.1 * n, n, x.2)) cps
  | [], [], _, _ => .nil
  | [], _ :: _, hl, _ => by simp at hl
  | _ :: _, [], hl, _ => by simp at hl
  | x :: aps, (i, u) :: cps, hl, hr => by
    obtain ⟨h1, h2⟩ := hr 0 x (i, u) rfl rfl
    subst h1
    exact .cons rfl h2 (Parts.of_array (by simpa using hl) (fun j a b ha hb => hr (j + 1) a b ha hb))

theorem build_sound {t : TypeId} {aps : List (Nat × Value)} {cps : Array (Nat × Value)} {r : Value} (hl : aps.length = cps.size)
    (hr : ∀ (i : Nat) (x y : Nat × Value), aps[i]? = some x → cps.toList[i]? = some y → x.1 = y.1 ∧ VRel μ x.2 y.2) (e : buildA P t aps = some r) :
    ∃ r', (Instr.build t cps).run P w = .ok r' w ∧ VRel μ r r' := by
  unfold buildA at e
  cases hz : zeroT P t with
  | none => rw [hz] at e; simp at e
  | some z =>
    rw [hz] at e
    cases hu : P.underlying t with
    | none => rw [hu] at e; cases e
    | some d =>
      rw [hu] at e
      cases d <;> simp only at e <;> try (cases e; done)
      · rename_i len el
        split at e
        · rename_i n hn
          split at e
          · rename_i hfl
            simp only [Option.map_eq_some_iff] at e
            obtain ⟨cs, hcs, rfl⟩ := e
            obtain ⟨out, ho, hrel⟩ := fill_sound (Parts.of_array (n := n) (by simpa using hl) hr) (LRel.of_flat hfl) hcs
            refine ⟨.agg out.toArray, ?_, .of_list_agg hrel⟩
            simp only [Array.toArray_toList] at ho
            simp [Instr.build, run_zeroT w hz, run_underlying hu, run_sizeT w hn, ho]
          · cases e
        · cases e
      · rename_i fs
        split at e
        · rename_i hfl
          simp only [Bool.and_eq_true] at hfl
          split at e
          · rename_i ps hps
            simp only [Option.map_eq_some_iff] at e
            obtain ⟨cs, hcs, rfl⟩ := e
            obtain ⟨out, ho, hrel⟩ := fill_sound (Parts.of_fields (by simpa using hl) hr hps) (LRel.of_flat hfl.1) hcs
            refine ⟨.agg out.toArray, ?_, .of_list_agg hrel⟩
            simp only [Array.toArray_toList] at ho
            have hm : (fs.mapM fun (f : Field) => (do pure (f.offset, ← sizeOf f.type) : Sem (Nat × Nat))).run P w = .ok (fs.map fun (f : Field) => (f.offset, (sizeT P f.type).getD 0)) w := by
              refine run_mapM_arr P w _ _ fs fun f hf => ?_
              have := List.all_eq_true.1 hfl.2 f hf
              obtain ⟨n, hn⟩ := Option.isSome_iff_exists.1 this
              simp [run_sizeT w hn, hn]
            simp only [Instr.build, Sem.run_bind, run_zeroT w hz, Result.andThen_ok, run_underlying hu, hm, ho, Sem.run_pure]
          · cases e
        · cases e
end ops
end Go.Abs
