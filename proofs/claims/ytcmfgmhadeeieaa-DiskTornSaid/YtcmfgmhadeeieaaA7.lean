/-
  The abstract machine: append, copy, clear, len, max and min, as the model does them.
  Conditions: none (lemmas).
-/
import Derived.Test.YtcmfgmhadeeieaaA6
namespace Go.Abs

section ops
variable {P : Program} {μ : Mu} {h : Heap} {w : World}

theorem firstA_any {size n : Nat} {x x' : Value} {cs : List Value} (s : Sim μ h w) (hx : VRel μ x x') (e : firstA size n x h = some cs) (hn : ∀ m, lenA x = some m → n ≤ m) (P : Program) :
    ∃ cs', (∀ w', w'.heap = w.heap → (Builtin.firstCells size n x').run P w' = .ok cs'.toArray w') ∧ LRel μ cs cs' := by
  cases x with
  | slice a len cap =>
    obtain ⟨cs', h1, h2, _⟩ := firstA_slice s hx e (hn len rfl) P
    exact ⟨cs', h1, h2⟩
  | string sb =>
    rw [hx.flat_eq rfl]
    simp only [firstA, Option.some.injEq] at e
    subst e
    refine ⟨(sb.extract 0 n).data.toList.map fun b => .int .u8 b.toNat, ?_, LRel.of_flat (by rw [flatAll, List.all_eq_true]; intro x hx; obtain ⟨b, _, rfl⟩ := List.mem_map.1 hx; rfl)⟩
    intro w' _
    simp only [Builtin.firstCells, Sem.run_pure]
    congr 1
    apply Array.ext'
    simp
  | _ => simp [firstA] at e

theorem run_lenOf {x x' : Value} {m : Nat} (hx : VRel μ x x') (e : lenA x = some m) : (Builtin.lenOf x').run P w = .ok m w := by
  cases x with
  | slice a len cap =>
    obtain ⟨a', c', rfl, _⟩ := hx.nilslice
    simp only [lenA, Option.some.injEq] at e
    subst e
    simp [Builtin.lenOf]
  | string sb =>
    rw [hx.flat_eq rfl]
    simp only [lenA, Option.some.injEq] at e
    subst e
    simp [Builtin.lenOf]
  | _ => simp [lenA] at e

/-- append, where there is room. -/
theorem run_append_in {t tx ty el : TypeId} {i : TypeInfo} {d : TypeDesc} (hu : P.underlying t = some (.slice el)) (hx : P.underlying tx = some d) (hd : isIntT d = false)
    (hi : P.info? el = some i) {base : Option Addr} {len cap m : Nat} {x : Value} (hm : (Builtin.lenOf x).run P w = .ok m w) (hc : len + m ≤ cap)
    {new : List Value} {w' : World} (hf : (Builtin.firstCells i.size m x).run P w = .ok new.toArray w)
    (hs : ∀ a, base = some a → (storeCells (a.add (len * i.size)) new).run P w = .ok () w') (hn : base = none → w' = w) :
    (Builtin.append_ #[t, tx] ty #[.slice base len cap, x]).run P w = .ok (.slice base (len + m) cap) w' := by
  have hz' : (match (generalizing := false) d with | .int _ => true | _ => false) = false := by cases d <;> first | rfl | (simp [isIntT] at hd; done)
  have e0 : (#[t, tx] : Array TypeId)[0]? = some t := rfl
  have e1 : (#[t, tx] : Array TypeId)[1]? = some tx := rfl
  have e2 : (#[.slice base len cap, x] : Array Value)[0]? = some (.slice base len cap) := rfl
  have e3 : (#[.slice base len cap, x] : Array Value)[1]? = some x := rfl
  unfold Builtin.append_
  simp only [e0, e1, e2, e3, Sem.run_bind, run_underlying hu, run_underlying hx, Result.andThen_ok, sizeOf, run_typeInfo w hi, Sem.run_pure, hz', Bool.false_eq_true, if_false, hm, Bool.not_false, if_true]
  split
  · exact absurd hd (by simp [isIntT])
  · simp only [Bool.false_eq_true, if_false, Sem.run_bind, hm, Result.andThen_ok, Bool.not_false, if_true, false_or, Sem.run_pure, hc, hf]
    cases base with
    | none => simp [hn rfl]
    | some a => simp [hs a rfl]

/-- append, where there is none. -/
theorem run_append_out {t tx ty el : TypeId} {i : TypeInfo} {d : TypeDesc} (hu : P.underlying t = some (.slice el)) (hx : P.underlying tx = some d) (hd : isIntT d = false)
    (hi : P.info? el = some i) {base : Option Addr} {len cap m : Nat} {x : Value} (hm : (Builtin.lenOf x).run P w = .ok m w) (hc : ¬ len + m ≤ cap)
    {z : Value} {olds news : List Value} (hz : zeroT P el = some z)
    (hfo : (Builtin.firstCells i.size len (.slice base len cap)).run P w.drew = .ok olds.toArray w.drew)
    (hfn : (Builtin.firstCells i.size m x).run P w.drew = .ok news.toArray w.drew)
    (h63 : len + m ≤ 4611686018427387904) (hfit : Builtin.nextslicecap (len + m) cap * i.bytes ≤ 281474976710656) :
    (Builtin.append_ #[t, tx] ty #[.slice base len cap, x]).run P w =
      .ok (.slice (some ⟨w.heap.size, 0, none⟩) (len + m) (grownCap w (len + m) cap el))
        { w.drew with heap := w.heap.push (.cells ((olds ++ news ++ (Builtin.zeroCells z.cells (grownCap w (len + m) cap el - (len + m))).toList).toArray) el (0, 0)) } := by
  have hmax : IntKind.i64.max = 9223372036854775807 := by decide
  have h1 : ¬ (((len + m : Nat) : Int) > IntKind.i64.max ∧ i.bytes = 0) := by rw [hmax]; omega
  have h2 : ¬ (Builtin.nextslicecap (len + m) cap * i.bytes > 2 ^ 48) := by
    have : (2 : Nat) ^ 48 = 281474976710656 := by decide
    omega
  have hz' : (match (generalizing := false) d with | .int _ => true | _ => false) = false := by cases d <;> first | rfl | (simp [isIntT] at hd; done)
  have e0 : (#[t, tx] : Array TypeId)[0]? = some t := rfl
  have e1 : (#[t, tx] : Array TypeId)[1]? = some tx := rfl
  have e2 : (#[.slice base len cap, x] : Array Value)[0]? = some (.slice base len cap) := rfl
  have e3 : (#[.slice base len cap, x] : Array Value)[1]? = some x := rfl
  unfold Builtin.append_
  simp only [e0, e1, e2, e3, Sem.run_bind, run_underlying hu, run_underlying hx, Result.andThen_ok, sizeOf, run_typeInfo w hi, Sem.run_pure, hz', Bool.false_eq_true, if_false, hm, Bool.not_false, if_true]
  split
  · exact absurd hd (by simp [isIntT])
  · simp only [Bool.false_eq_true, if_false, Sem.run_bind, hm, Result.andThen_ok, Bool.not_false, if_true, false_or, Sem.run_pure, hc, run_typeInfo w hi]
    rw [if_neg h1]
    simp only [Sem.run_bind, run_typeInfo w hi, Result.andThen_ok]
    rw [if_neg h2]
    simp only [Sem.run_bind, Sem.run_pure, Result.andThen_ok, run_choose, Question.forced, Bool.false_eq_true, if_false, run_askRoom]
    have hdr : ({ w with drawn := w.drawn + 1 } : World) = w.drew := rfl
    rw [hdr]
    simp only [run_typeInfo w.drew hi, Result.andThen_ok, run_askRoom]
    rw [hfo]
    simp only [Result.andThen_ok]
    rw [hfn]
    simp only [Result.andThen_ok, run_zeroT w.drew hz, Go.newRow, Sem.run_bind, run_newObj, Sem.run_pure, grownCap]
    have : olds.toArray ++ news.toArray ++ Builtin.zeroCells z.cells ((Question.appendCap (len + m) cap el).cut (w.tape w.drawn (Question.appendCap (len + m) cap el)) - (len + m)) =
        (olds ++ news ++ (Builtin.zeroCells z.cells ((Question.appendCap (len + m) cap el).cut (w.tape w.drawn (Question.appendCap (len + m) cap el)) - (len + m))).toList).toArray := by
      apply Array.ext'; simp
    rw [this]
    rfl

/-- The new row that an append makes. -/
theorem grow_sound {z : Value} {size c : Nat} {el : TypeId} {olds news olds' news' : List Value} {n : Nat} (s : Sim μ h w) (hf : Free μ h (h.alloc (olds ++ news))) (ho : LRel μ olds olds') (hn : LRel μ news news')
    (hzs : z.cells.size = size) (hpos : 0 < size) (hlen : olds.length + news.length = n * size) (hc : n ≤ c) (hcm : c ≤ maxLen) :
    ∃ μ' w', w' = { w.drew with heap := w.heap.push (.cells ((olds' ++ news' ++ (Builtin.zeroCells z.cells (c - n)).toList).toArray) el (0, 0)) } ∧
      Sim μ' (h.alloc (olds ++ news)) w' ∧ Step μ h w μ' (h.alloc (olds ++ news)) w' ∧ VRel μ' (.slice (some ⟨h.next, 0, some size⟩) n n) (.slice (some ⟨w.heap.size, 0, none⟩) n c) := by
  have hl := ho.1
  have hl' := hn.1
  have hzc : (Builtin.zeroCells z.cells (c - n)).size = (c - n) * size := by rw [size_zeroCells, hzs]
  have hsz : ((olds' ++ news' ++ (Builtin.zeroCells z.cells (c - n)).toList).toArray).size = c * size := by
    simp only [List.size_toArray, List.length_append, Array.length_toList, hzc, ← hl, ← hl', hlen, ← Nat.add_mul]
    congr 1; omega
  have hnc : n * size ≤ c * size := Nat.mul_le_mul_right _ hc
  obtain ⟨hS, hSt⟩ := s.alloc (k := olds ++ news) hf (arr := (olds' ++ news' ++ (Builtin.zeroCells z.cells (c - n)).toList).toArray) (T := el) (fr := (0, 0)) (.inl rfl)
    (by rw [hsz, List.length_append, hlen]; exact hnc)
    (by
      have : (olds ++ news).length = (olds' ++ news').length := by simp [hl, hl']
      rw [this, List.take_left]; exact ho.append hn)
    (w1 := { w.drew with heap := w.heap.push (.cells ((olds' ++ news' ++ (Builtin.zeroCells z.cells (c - n)).toList).toArray) el (0, 0)) }) rfl rfl rfl rfl
  refine ⟨_, _, rfl, hS, hSt, ?_⟩
  have := VRel.hid (b := h.next) (off := 0) (len := n) (cap := n) (cap' := c) (s := size) (Mu.put_same μ h.next ⟨w.heap.size, 0, ((olds' ++ news' ++ (Builtin.zeroCells z.cells (c - n)).toList).toArray).size, (olds ++ news).length⟩) (Nat.le_refl _) hc hcm
    (by simp only [List.length_append, hlen, Nat.zero_add]) (by simp only [hsz]; omega)
  simpa using this

/-- A slice grows within the room that its block has behind the cells that are known. -/
theorem Sim.regrow {b off n1 : Nat} {k : Blk} {L : Loc} {news news' : List Value} (s : Sim μ h w) (hb : h.n0 ≤ b) (hg : h.get b = some k) (hL : μ b = some L) (h1 : off + n1 ≤ k.length)
    (hx : LRel μ news news') (hone : oneCells news = true) (hext : L.off + off + n1 + news.length ≤ L.ext) (hf : Free μ h ((h.kill b).alloc ((k.drop off).take n1 ++ news))) :
    ∃ μ' w', (Go.storeCells ⟨L.blk, L.off + off + n1, none⟩ news').run P w = .ok () w' ∧ Sim μ' ((h.kill b).alloc ((k.drop off).take n1 ++ news)) w' ∧ Step μ h w μ' ((h.kill b).alloc ((k.drop off).take n1 ++ news)) w' ∧
      μ' h.next = some ⟨L.blk, L.off + off, L.ext, n1 + news.length⟩ := by
  obtain ⟨L', arr, T, fr, e1, e2, e4, e5, e6, e7, e8, e9⟩ := s.new b k hb hg
  rw [hL] at e1; cases e1
  have hal : arr.toList.length = arr.size := Array.length_toList
  have hlt := h.lt_of_get hg
  have hnl : news'.length = news.length := hx.1.symm
  have hnone : μ h.next = none := hf _ (Nat.le_refl _) (by simp)
  have hm := Mu.put_mono (L := ⟨L.blk, L.off + off, L.ext, n1 + news.length⟩) hnone
  have hget : ∀ c kc, ((h.kill b).alloc ((k.drop off).take n1 ++ news)).get c = some kc → (c = h.next ∧ kc = (k.drop off).take n1 ++ news) ∨ (c ≠ h.next ∧ c ≠ b ∧ h.get c = some kc) := by
    intro c kc hc
    rw [Heap.get_alloc, Heap.next_kill] at hc
    by_cases ec : c = h.next
    · rw [if_pos ec] at hc; cases hc; exact .inl ⟨ec, rfl⟩
    · rw [if_neg ec] at hc
      unfold Heap.kill at hc
      rw [h.get_put hb hlt] at hc
      by_cases eb : c = b
      · rw [if_pos eb] at hc; cases hc
      · rw [if_neg eb] at hc; exact .inr ⟨ec, eb, hc⟩
  have hB : (w.setRow L.blk (splice arr.toList (L.off + off + n1) news').toArray).heap[L.blk]? = some (.cells (splice arr.toList (L.off + off + n1) news').toArray T fr) := setRow_heap w L.blk arr _ T fr e4
  have hsz : ((splice arr.toList (L.off + off + n1) news').toArray).size = arr.size := by
    rw [List.size_toArray, length_splice (by omega), hal]
  refine ⟨μ.put h.next ⟨L.blk, L.off + off, L.ext, n1 + news.length⟩, w.setRow L.blk (splice arr.toList (L.off + off + n1) news').toArray, ?_, ⟨?_, ?_, ?_, ?_, fun b hb => let ⟨L, h1, h2⟩ := s.low b hb; ⟨L, hm _ _ h1, h2⟩⟩, ⟨?_, rfl, rfl, by simp, rfl, rfl, rfl, by simp [World.setRow], ?_, ?_⟩, Mu.put_same _ _ _⟩
  · have := run_storeCells_any P L.blk (L.off + off + n1) T fr news' 0 arr w e4 e7 (by omega) (hx.oneCells hone)
    simpa using this
  · intro c cs hc hcs
    obtain ⟨L2, a2, T2, f2, g1, g2, g3, g4, g5⟩ := s.old c cs (by simpa using hc) hcs
    refine ⟨L2, a2, T2, f2, hm _ _ g1, g2, g3, ?_, g5.mono hm⟩
    rw [setRow_other _ _ _ _ (by simp at hc; omega)]; exact g4
  · intro c kc hc hgc
    rcases hget c kc hgc with ⟨rfl, rfl⟩ | ⟨n1', n2', hgc'⟩
    · refine ⟨_, _, T, fr, Mu.put_same _ _ _, ?_, hB, hsz.trans e5, ?_, by rw [hsz]; exact e7, by simpa using e8, ?_⟩
      · simp only [List.length_append, List.length_take, List.length_drop]; omega
      · simp only; omega
      · simp only
        have hr := (e9.drop off).take n1
        rw [List.drop_take, List.drop_drop, List.take_take, show min n1 (L.len - off) = n1 from by omega] at hr
        have : ((splice arr.toList (L.off + off + n1) news').drop (L.off + off)).take (n1 + news.length) = (arr.toList.drop (L.off + off)).take n1 ++ news' := by
          unfold splice
          have e1 : (arr.toList.take (L.off + off + n1)).drop (L.off + off) = (arr.toList.drop (L.off + off)).take n1 := by rw [List.drop_take]; congr 1; omega
          rw [List.append_assoc, List.drop_append_of_le_length (by simp; omega), e1, ← List.append_assoc]
          exact List.take_left' (by simp; omega)
        rw [this]
        exact (hr.append hx).mono hm
    · obtain ⟨L2, a2, T2, f2, g1, g2, g4, g5, g6, g7, g8, g9⟩ := s.new c kc hc hgc'
      refine ⟨L2, a2, T2, f2, hm _ _ g1, g2, ?_, g5, g6, g7, g8, g9.mono hm⟩
      rw [setRow_other _ _ _ _ (s.inj c b kc k L2 L hc hb n2' hgc' hg g1 hL)]; exact g4
  · intro c c' kc kc' Lc Lc' hc hc' hne hgc hgc' h2 h3
    rcases hget c kc hgc with ⟨rfl, rfl⟩ | ⟨n1', n2', g1⟩
    · rw [Mu.put_same] at h2; cases h2
      rcases hget c' kc' hgc' with ⟨rfl, rfl⟩ | ⟨m1, m2, g2⟩
      · exact absurd rfl hne
      · rw [Mu.put_other _ _ m1] at h3
        exact s.inj b c' k kc' L Lc' hb hc' (Ne.symm m2) hg g2 hL h3
    · rw [Mu.put_other _ _ n1'] at h2
      rcases hget c' kc' hgc' with ⟨rfl, rfl⟩ | ⟨m1, m2, g2⟩
      · rw [Mu.put_same] at h3; cases h3
        exact s.inj c b kc k Lc L hc hb n2' g1 hg h2 hL
      · rw [Mu.put_other _ _ m1] at h3
        exact s.inj c c' kc kc' Lc Lc' hc hc' hne g1 g2 h2 h3
  · simpa [World.setRow] using s.size
  · intro c hc
    rw [Mu.put_other _ _ (by simp at hc; omega)]
  · intro B hB' hO
    exact setRow_other _ _ _ _ (fun e => hO ⟨b, k, L, hb, hg, hL, e.symm⟩)
  · rintro B ⟨c, kc, Lc, hc, hgc, h2, rfl⟩
    rcases hget c kc hgc with ⟨rfl, rfl⟩ | ⟨n1', n2', g1⟩
    · rw [Mu.put_same] at h2; cases h2; exact .inl ⟨b, k, L, hb, hg, hL, rfl⟩
    · rw [Mu.put_other _ _ n1'] at h2; exact .inl ⟨c, kc, Lc, hc, g1, h2, rfl⟩

theorem append_sound {t tx ty el : TypeId} {d : TypeDesc} {size by_ : Nat} {z s s' x x' r : Value} {h' : Heap} (hu : P.underlying t = some (.slice el)) (htx : P.underlying tx = some d) (hd : isIntT d = false)
    (hsz : sizeT P el = some size) (hby : bytesT P el = some by_) (hz : zeroT P el = some z) (hzs : z.cells.size = size) (hpos : 0 < size)
    (S : Sim μ h w) (hf : Free μ h h') (hs : VRel μ s s') (hx : VRel μ x x') (e : appendA size by_ s x h = some (r, h')) :
    ∃ μ' r' w', (Builtin.append_ #[t, tx] ty #[s', x']).run P w = .ok r' w' ∧ Sim μ' h' w' ∧ Step μ h w μ' h' w' ∧ VRel μ' r r' := by
  obtain ⟨i, hi, hin⟩ := info_of_sizeT hsz
  have hib : i.bytes = by_ := by simp only [bytesT, hi, Option.map_some, Option.some.injEq] at hby; exact hby
  subst hin hib
  unfold appendA at e
  split at e
  · rename_i base len cap m hm
    have hlen := run_lenOf (P := P) (w := w) hx hm
    split at e
    · cases e
    · rename_i news hnews
      split at e
      · cases e
      · rename_i hcond
        simp only [Bool.or_eq_true, Bool.not_eq_true', decide_eq_true_eq, not_or, Bool.not_eq_false, decide_eq_false_iff_not, Decidable.not_not, ne_eq] at hcond
        obtain ⟨⟨⟨hone, hbytes⟩, h62⟩, hnl⟩ := hcond
        have hle : ∀ m', lenA x = some m' → m ≤ m' := by intro m' h; rw [hm] at h; cases h; exact Nat.le_refl _
        obtain ⟨news', hrn, hrel⟩ := firstA_any S hx hnews hle P
        -- the place of what is written, and the slice that comes back
        have place : ∀ {b off : Nat} {h1 : Heap} {L : Loc} {c' : Nat}, μ b = some L → stL b (off + len * i.size) news h = some h1 → s' = .slice (some ⟨L.blk, L.off + off, none⟩) len c' → len + m ≤ c' →
            ∃ w', (Builtin.append_ #[t, tx] ty #[s', x']).run P w = .ok (.slice (some ⟨L.blk, L.off + off, none⟩) (len + m) c') w' ∧ Sim μ h1 w' ∧ Step μ h w μ h1 w' := by
          intro b off h1 L c' hL hst hs' hc
          subst hs'
          obtain ⟨L', w', hL', hrun, hS, hSt⟩ := stL_sound (P := P) S hrel hst
          rw [hL] at hL'; cases hL'
          refine ⟨w', run_append_in hu htx hd hi hlen hc (hrn w rfl) ?_ (by intro h; cases h), hS, hSt⟩
          intro a ha
          cases ha
          rw [Addr.add_lit, Nat.add_assoc]; exact hrun
        have grow : ∀ {olds olds' : List Value} {h1 : Heap} {base' : Option Addr} {c' : Nat}, Sim μ h1 w → Free μ h1 (h1.alloc (olds ++ news)) → olds.length = len * i.size → LRel μ olds olds' →
            (∀ w', w'.heap = w.heap → (Builtin.firstCells i.size len (.slice base' len c')).run P w' = .ok olds'.toArray w') → s' = .slice base' len c' → ¬ len + m ≤ c' →
            ∃ μ' r' w', (Builtin.append_ #[t, tx] ty #[s', x']).run P w = .ok r' w' ∧ Sim μ' (h1.alloc (olds ++ news)) w' ∧ Step μ h1 w μ' (h1.alloc (olds ++ news)) w' ∧
              VRel μ' (.slice (some ⟨h1.next, 0, some i.size⟩) (len + m) (len + m)) r' := by
          intro olds olds' h1 base' c' S1 hf1 hol horel hro hs' hc
          subst hs'
          have hfit : Builtin.nextslicecap (len + m) c' * i.bytes ≤ 281474976710656 := growslice_fits (by omega) hbytes
          have hrun := run_append_out (ty := ty) hu htx hd hi hlen hc hz (hro w.drew rfl) (hrn w.drew rfl) h62 hfit
          obtain ⟨μ', w', hw', hS, hSt, hv⟩ := grow_sound (z := z) (size := i.size) (c := grownCap w (len + m) c' el) (el := el) (n := len + m) S1 hf1 horel hrel hzs hpos
            (by rw [hol, hnl, Nat.add_mul]) (grownCap_ge w (len + m) c' el) (grownCap_le_maxLen w (len + m) c' el (by unfold maxLen; omega))
          exact ⟨μ', _, w', by rw [hrun, hw'], hS, hSt, hv⟩
        split at e
        · rename_i hroom
          split at e
          · rename_i hm0
            subst hm0
            cases e
            have hn0 : news' = [] := by
              have := hrel.1
              simp only [hnl, Nat.zero_mul] at this
              exact List.eq_nil_of_length_eq_zero this.symm
            subst hn0
            have fin : ∀ (b' : Option Addr) (c' : Nat), s' = .slice b' len c' → cap ≤ c' → ∃ μ' r' w', (Builtin.append_ #[t, tx] ty #[s', x']).run P w = .ok r' w' ∧ Sim μ' h w' ∧ Step μ h w μ' h w' ∧ VRel μ' (.slice base len cap) r' := by
              rintro b' c' rfl hc
              refine ⟨μ, .slice b' (len + 0) c', w, run_append_in hu htx hd hi hlen (by omega) (hrn w rfl) (fun a _ => rfl) (fun _ => rfl), S, .same_world, hs⟩
            cases hs with
            | flat h => exact fin _ _ rfl (Nat.le_refl _)
            | slice h => exact fin _ _ rfl (Nat.le_refl _)
            | hid h _ hc => exact fin _ _ rfl hc
            | hemp h => exact fin _ _ rfl (Nat.le_refl _)
          · rename_i hm0
            split at e
            · rename_i b off sp
              simp only [Option.map_eq_some_iff, Prod.mk.injEq] at e
              obtain ⟨h1, hst, rfl, rfl⟩ := e
              cases hs with
              | flat h => simp [flat] at h
              | slice hL =>
                obtain ⟨w', hrun, hS, hSt⟩ := place hL hst rfl hroom
                exact ⟨μ, _, w', hrun, hS, hSt, .slice hL⟩
              | hid hL hl hc hmx g1 g2 =>
                obtain ⟨w', hrun, hS, hSt⟩ := place hL hst rfl (by omega)
                exact ⟨μ, _, w', hrun, hS, hSt, .hid hL hroom hc hmx g1 g2⟩
              | hemp hL => omega
            · cases e
        · rename_i hroom
          split at e
          · split at e
            · rename_i h0
              subst h0
              simp only [Option.some.injEq, Prod.mk.injEq] at e
              obtain ⟨rfl, rfl⟩ := e
              have hs' := hs.flat_eq rfl
              have := grow (olds := []) (olds' := []) (h1 := h) S (by simpa using hf) (by simp) (LRel.nil μ) (by intro w' _; simp [Builtin.firstCells]) hs' hroom
              simpa using this
            · cases e
          · rename_i b off sp
            split at e
            · cases e
            · rename_i olds holds
              split at e
              · cases e
              · rename_i hol
                have hol' : olds.length = len * i.size := Decidable.not_not.1 hol
                obtain ⟨olds', hro, horel⟩ := firstA_any S hs holds (by intro m' h; cases h; exact Nat.le_refl _) P
                split at e
                · simp only [Option.some.injEq, Prod.mk.injEq] at e
                  obtain ⟨rfl, rfl⟩ := e
                  cases hs with
                  | flat h => simp [flat] at h
                  | slice hL => exact grow S hf hol' horel hro rfl hroom
                · rename_i zz
                  split at e
                  · rename_i hc
                    simp only [Bool.and_eq_true, decide_eq_true_eq] at hc
                    obtain ⟨⟨rfl, hb⟩, hlive⟩ := hc
                    obtain ⟨k, hk⟩ := Option.isSome_iff_exists.1 hlive
                    simp only [Option.some.injEq, Prod.mk.injEq] at e
                    obtain ⟨rfl, rfl⟩ := e
                    obtain ⟨S1, St1⟩ := S.kill hb (h.lt_of_get hk)
                    have hf1 : Free μ (h.kill b) ((h.kill b).alloc (olds ++ news)) := hf
                    cases hs with
                    | flat h => simp [flat] at h
                    | hid hL hl hc hmx g1 g2 =>
                      rename_i cap' L
                      by_cases hin : len + m ≤ cap'
                      · have hkl : L.len = k.length := by
                          obtain ⟨L', arr, T, fr, e1, e2, _⟩ := S.new b k hb hk
                          rw [hL] at e1; cases e1; exact e2
                        have hls : len * i.size ≤ cap * i.size := Nat.mul_le_mul_right _ hl
                        have hms : (len + m) * i.size ≤ cap' * i.size := Nat.mul_le_mul_right _ hin
                        have hadd : (len + m) * i.size = len * i.size + m * i.size := Nat.add_mul _ _ _
                        have holds' : olds = (k.drop off).take (len * i.size) := by
                          unfold firstA at holds
                          simp only [hk] at holds
                          split at holds
                          · rename_i h0; cases holds; rw [h0]; rfl
                          · split at holds
                            · cases holds; rfl
                            · cases holds
                        subst holds'
                        obtain ⟨μ', w', hrun, hS, hSt, hμ⟩ := S.regrow (P := P) (off := off) (n1 := len * i.size) hb hk hL (by omega) hrel hone (by omega) hf
                        refine ⟨μ', .slice (some ⟨L.blk, L.off + off, none⟩) (len + m) cap', w', run_append_in hu htx hd hi hlen hin (hrn w rfl) ?_ (by intro h; cases h), hS, hSt, ?_⟩
                        · intro a ha
                          cases ha
                          rw [Addr.add_lit]; exact hrun
                        · have := VRel.hid (μ := μ') (b := h.next) (off := 0) (len := len + m) (cap := len + m) (cap' := cap') (s := i.size) hμ (Nat.le_refl _) hin hmx (by simp only; omega) (by simp only; omega)
                          simpa using this
                      · obtain ⟨μ', r', w', hrun, hS, hSt, hv⟩ := grow S1 hf1 hol' horel hro rfl hin
                        exact ⟨μ', r', w', hrun, hS, St1.trans hSt, hv⟩
                    | hemp hL =>
                      obtain ⟨μ', r', w', hrun, hS, hSt, hv⟩ := grow S1 hf1 hol' horel hro rfl (by omega)
                      exact ⟨μ', r', w', hrun, hS, St1.trans hSt, hv⟩
                  · cases e
  · cases e


theorem copy_sound {dT sT ty el : TypeId} {size : Nat} {d d' s s' r : Value} {h' : Heap} (hu : P.underlying dT = some (.slice el)) (hsz : sizeT P el = some size)
    (S : Sim μ h w) (hd : VRel μ d d') (hs : VRel μ s s') (e : copyA size d s h = some (r, h')) :
    ∃ w', (Builtin.copy_ #[dT, sT] ty #[d', s']).run P w = .ok r w' ∧ Sim μ h' w' ∧ Step μ h w μ h' w' ∧ ∃ n : Nat, r = .int .i64 n := by
  unfold copyA at e
  split at e
  · rename_i base dLen dCap m hm
    have hlen := run_lenOf (P := P) (w := w) hs hm
    simp only at e
    split at e
    · cases e
    · rename_i news hnews
      obtain ⟨news', hrn, hrel⟩ := firstA_any S hs hnews (by intro m' h; rw [hm] at h; cases h; exact Nat.min_le_left _ _) P
      obtain ⟨b', c', rfl, hb'⟩ := hd.nilslice
      have head : ∀ w', (∀ a, b' = some a → (storeCells a news').run P w = .ok () w') → (b' = none → w' = w) →
          (Builtin.copy_ #[dT, sT] ty #[.slice b' dLen c', s']).run P w = .ok (.int .i64 (min m dLen : Nat)) w' := by
        intro w' hs hn
        have e0 : (#[dT, sT] : Array TypeId)[0]? = some dT := rfl
        have e2 : (#[.slice b' dLen c', s'] : Array Value)[0]? = some (.slice b' dLen c') := rfl
        have e3 : (#[.slice b' dLen c', s'] : Array Value)[1]? = some s' := rfl
        unfold Builtin.copy_
        simp only [e0, e2, e3, Sem.run_bind, run_underlying hu, Result.andThen_ok, hlen, run_sizeT w hsz, Nat.min_def]
        have hrn0 := hrn w rfl
        rw [Nat.min_def] at hrn0
        rw [hrn0]
        cases b' with
        | none => simp [hn rfl, goInt]
        | some a => simp [hs a rfl, goInt]
      split at e
      · rename_i h0
        cases e
        have hn0 : news' = [] := by
          have h1 := hrel.1
          have : news = [] := by
            unfold firstA at hnews
            rw [h0] at hnews
            split at hnews
            · simpa using hnews.symm
            · simpa using hnews.symm
            · simp only [Option.some.injEq] at hnews
              rw [← hnews]
              simp
            · cases hnews
          subst this
          exact List.eq_nil_of_length_eq_zero h1.symm
        subst hn0
        exact ⟨w, head w (fun _ _ => rfl) (fun _ => rfl), S, .same_world, _, rfl⟩
      · rename_i h0
        split at e
        · cases e
        · rename_i b off sp
          simp only [Option.map_eq_some_iff, Prod.mk.injEq] at e
          obtain ⟨h1, hst, rfl, rfl⟩ := e
          obtain ⟨L, w', hL, hrun, hS, hSt⟩ := stL_sound (P := P) S hrel hst
          have hb2 : b' = some ⟨L.blk, L.off + off, none⟩ := by
            cases hd with
            | flat h => simp [flat] at h
            | slice h => rw [h] at hL; cases hL; rfl
            | hid h => rw [h] at hL; cases hL; rfl
            | hemp h => simp at h0
          refine ⟨w', head w' ?_ (by intro h; rw [hb2] at h; cases h), hS, hSt, _, rfl⟩
          intro a ha
          rw [hb2] at ha; cases ha; exact hrun
  · cases e

theorem clear_sound {t ty el : TypeId} {size : Nat} {d d' r : Value} {h' : Heap} (hu : P.underlying t = some (.slice el)) 
    (S : Sim μ h w) (hd : VRel μ d d') (e : clearA P el size d h = some (r, h')) :
    ∃ w', (Builtin.clear_ #[t] ty #[d']).run P w = .ok r w' ∧ Sim μ h' w' ∧ Step μ h w μ h' w' ∧ r = undef := by
  have e0 : (#[t] : Array TypeId)[0]? = some t := rfl
  have e2 : ∀ v : Value, (#[v] : Array Value)[0]? = some v := fun _ => rfl
  unfold clearA at e
  split at e
  · cases e
    rw [hd.flat_eq rfl]
    refine ⟨w, ?_, S, .same_world, rfl⟩
    simp [Builtin.clear_, run_underlying hu, undef]
  · rename_i b off sp n c
    split at e
    · rename_i h0
      subst h0
      cases e
      obtain ⟨b', c', rfl, hb'⟩ := hd.nilslice
      refine ⟨w, ?_, S, .same_world, rfl⟩
      cases b' <;> simp [Builtin.clear_, run_underlying hu, undef]
    · rename_i h0
      split at e
      · rename_i z hz
        split at e
        · rename_i hc
          simp only [Bool.and_eq_true, decide_eq_true_eq] at hc
          obtain ⟨⟨hfl, hzn⟩, hpos⟩ := hc
          simp only [Option.map_eq_some_iff, Prod.mk.injEq] at e
          obtain ⟨h1, hst, rfl, rfl⟩ := e
          have hzz : (Builtin.zeroCells z.cells n).toList = zeros z.cells.toList n := by
            rw [← range_zeros z.cells (by omega)]
            simp [Builtin.zeroCells]
          obtain ⟨L, w', hL, hrun, hS, hSt⟩ := stL_sound (P := P) S (LRel.of_flat (μ := μ) (l := zeros z.cells.toList n) (by
              simp only [flatAll, List.all_eq_true, zeros, List.mem_flatMap] at hfl ⊢
              rintro x ⟨_, _, hx⟩; exact hfl x hx)) hst
          have hb2 : ∃ c', d' = .slice (some ⟨L.blk, L.off + off, none⟩) n c' := by
            cases hd with
            | flat h => simp [flat] at h
            | slice h => rw [h] at hL; cases hL; exact ⟨_, rfl⟩
            | hid h => rw [h] at hL; cases hL; exact ⟨_, rfl⟩
            | hemp h => exact absurd rfl h0
          obtain ⟨c', rfl⟩ := hb2
          refine ⟨w', ?_, hS, hSt, rfl⟩
          obtain ⟨n, rfl⟩ : ∃ n', n = n' + 1 := ⟨n - 1, by omega⟩
          unfold Builtin.clear_
          simp only [e0, e2, Sem.run_bind, run_underlying hu, Result.andThen_ok, run_zeroT w hz, hzz, hrun, Sem.run_pure]
          rfl
        · cases e
      · cases e
  · cases e

theorem len_sound {t ty : TypeId} {x x' r : Value} (hx : VRel μ x x') (e : lenOfT P t x = some r) : (Builtin.len_ #[t] ty #[x']).run P w = .ok r w ∧ flat r = true := by
  unfold lenOfT at e
  split at e
  · rename_i hu; cases e; rw [hx.flat_eq rfl]; exact ⟨by simp [Builtin.len_, run_underlying hu, goInt], rfl⟩
  · rename_i n el _ _ hu; cases e; exact ⟨by simp [Builtin.len_, run_underlying hu, goInt], rfl⟩
  · rename_i arr hu
    split at e
    · rename_i ha; cases e; exact ⟨by simp [Builtin.len_, run_underlying hu, run_underlying ha, goInt], rfl⟩
    · cases e
  · rename_i hu
    cases e
    obtain ⟨b', c', rfl, _⟩ := hx.nilslice
    exact ⟨by simp [Builtin.len_, run_underlying hu, goInt], rfl⟩
  · cases e

theorem max_fold : ∀ (l : List Value) (v r : Value), minmax true v l = some r → (l.foldlM Builtin.max2 v).run P w = .ok r w ∧ (flatAll l = true → flat v = true → flat r = true)
  | [], v, r, e => by cases e; exact ⟨rfl, fun _ h => h⟩
  | x :: l, v, r, e => by
    unfold minmax at e
    split at e
    · rename_i h; cases h
    · rename_i k a k' b rest heq
      cases heq
      split at e
      · rename_i hk
        subst hk
        obtain ⟨h1, h2⟩ := max_fold l _ r e
        refine ⟨?_, fun hl _ => h2 ?_ rfl⟩
        · simp only [List.foldlM_cons, Sem.run_bind, Builtin.max2, Sem.run_pure, Result.andThen_ok]
          simpa using h1
        · simp only [flatAll, List.all_cons, Bool.and_eq_true] at hl ⊢; exact hl.2
      · cases e
    · cases e
theorem min_fold : ∀ (l : List Value) (v r : Value), minmax false v l = some r → (l.foldlM Builtin.min2 v).run P w = .ok r w ∧ (flatAll l = true → flat v = true → flat r = true)
  | [], v, r, e => by cases e; exact ⟨rfl, fun _ h => h⟩
  | x :: l, v, r, e => by
    unfold minmax at e
    split at e
    · rename_i h; cases h
    · rename_i k a k' b rest heq
      cases heq
      split at e
      · rename_i hk
        subst hk
        obtain ⟨h1, h2⟩ := min_fold l _ r e
        refine ⟨?_, fun hl _ => h2 ?_ rfl⟩
        · simp only [List.foldlM_cons, Sem.run_bind, Builtin.min2, Sem.run_pure, Result.andThen_ok]
          simpa using h1
        · simp only [flatAll, List.all_cons, Bool.and_eq_true] at hl ⊢; exact hl.2
      · cases e
    · cases e
theorem minmax_ints : ∀ {mx : Bool} {l : List Value} {v r : Value}, minmax mx v l = some r → l ≠ [] → flatAll (v :: l) = true ∧ flat r = true
  | mx, [], v, r, e, h => absurd rfl h
  | mx, x :: l, v, r, e, _ => by
    unfold minmax at e
    split at e
    · rename_i h; cases h
    · rename_i k a k' b rest heq
      cases heq
      split at e
      · cases l with
        | nil => cases e; exact ⟨rfl, rfl⟩
        | cons y l =>
          obtain ⟨h1, h2⟩ := minmax_ints e (by simp)
          simp only [flatAll, List.all_cons, Bool.and_eq_true] at h1 ⊢
          exact ⟨⟨rfl, rfl, h1.2⟩, h2⟩
      · cases e
    · cases e

end ops
end Go.Abs
