/-
  The abstract machine: internal/bytealg.Compare, for which the model has a row of its own.
  Conditions: as each theorem states.
  The abstract machine: maps.clone and sync/atomic's Add of 64 bits, for which the model has rows of its own.
  Conditions: as each theorem states.
-/
import Derived.Test.YtdmnphocgfnlpaaGreatDoorG11
import Derived.Lib.Bytealg
import Derived.Laws.Externs
namespace Go.Abs
noncomputable section

def bytesA (v : Value) (h : Heap) : Option (List UInt8) :=
  match v with
  | .slice a n c => (firstA 1 n (.slice a n c) h).bind fun l => l.mapM asByte
  | _ => none

/-- What internal/bytealg.Compare answers. -/
def cmpS (args : List Value) (h : Heap) : Out :=
  match args with
  | [x, y] => match bytesA x h, bytesA y h with
    | some a, some b => some (.int .i64 (Lib.compareBytes a b), h)
    | _, _ => none
  | _ => none

section
variable {P : Program} {w : World}
theorem Addr.add_add (a : Addr) (i : Nat) : (a.add i).add 1 = a.add (i + 1) := by
  unfold Addr.add
  by_cases h : i = 0
  · subst h; simp
  · simp [h, Nat.add_assoc]

theorem loads_of {a : Addr} : ∀ (n i : Nat) (acc : Array Value) {r : Array Value} {w' : World}, (loadCellsFrom a i n acc).run P w = .ok r w' → ∃ xs : List Value, r.toList = acc.toList ++ xs ∧ xs.length = n ∧ ∀ (j : Nat) (x : Value), xs[j]? = some x → (load (a.add (i + j))).run P w = .ok x w
  | 0, i, acc, r, w', h => by
    simp only [loadCellsFrom, Sem.run_pure, Result.ok.injEq] at h
    exact ⟨[], by simp [h.1], rfl, by simp⟩
  | n + 1, i, acc, r, w', h => by
    simp only [loadCellsFrom, Sem.run_bind] at h
    cases hl : (load (a.add i)).run P w with
    | halt x w1 => rw [hl] at h; cases h
    | ok v w1 =>
      have hw : w1 = w := by
        unfold load at hl
        unfold Sem.run at hl
        split at hl
        · simp only [Sem.run, Result.ok.injEq] at hl; exact hl.2.symm
        · split at hl
          · simp only [Sem.run, Result.ok.injEq] at hl; exact hl.2.symm
          · cases hl
      rw [hl] at h
      rw [hw] at h hl
      simp only [Result.andThen_ok] at h
      obtain ⟨xs, h1, h2, h3⟩ := loads_of n (i + 1) _ h
      refine ⟨v :: xs, by rw [h1]; simp, by simp [h2], ?_⟩
      intro j x hx
      cases j with
      | zero => simp at hx; subst hx; exact hl
      | succ j =>
        simp at hx
        have := h3 j x hx
        rw [show i + 1 + j = i + (j + 1) by omega] at this
        exact this

theorem run_loadBytes' {a : Addr} : ∀ (ns : List Int) (i : Nat) (acc : ByteArray), (∀ (j : Nat) (x : Int), ns[j]? = some x → (load (a.add (i + j))).run P w = .ok (.int .u8 x) w) →
    (Extern.Bytes.loadBytes (a.add i) ns.length acc).run P w = .ok (ns.foldl (fun s n => s.push (UInt8.ofNat n.toNat)) acc) w
  | [], i, acc, _ => rfl
  | n :: ns, i, acc, h => by
    have h0 := h 0 n rfl
    simp only [Nat.add_zero] at h0
    simp only [List.length_cons, Extern.Bytes.loadBytes, Sem.run_bind, h0, Result.andThen_ok, List.foldl_cons]
    rw [Addr.add_add]
    exact run_loadBytes' ns (i + 1) _ (fun j x hx => by have := h (j + 1) x hx; rwa [show i + (j + 1) = i + 1 + j by omega] at this)

theorem foldl_data (ns : List Int) (acc : ByteArray) : (ns.foldl (fun s n => s.push (UInt8.ofNat n.toNat)) acc).data.toList = acc.data.toList ++ ns.map fun n => UInt8.ofNat n.toNat := by
  induction ns generalizing acc with
  | nil => simp
  | cons n ns ih => rw [List.foldl_cons, ih]; simp [ByteArray.push]

theorem bytesOf_sound {μ : Mu} {h : Heap} {x x' : Value} {l : List UInt8} (S : Sim μ h w) (hx : VRel μ x x') (e : bytesA x h = some l) :
    ∃ s : ByteArray, (Extern.Bytes.bytesOf x').run P w = .ok s w ∧ s.data.toList = l := by
  unfold bytesA at e
  split at e
  · rename_i a n c
    simp only [Option.bind_eq_some_iff] at e
    obtain ⟨cs, hc, hb⟩ := e
    obtain ⟨cs', h1, h2, h3⟩ := firstA_slice S hx hc (Nat.le_refl _) P
    obtain ⟨ns, rfl, rfl⟩ := asByte_list hb
    have hcs : cs' = ns.map (Value.int .u8) := h2.flat_eq (by simp [flatAll, flat])
    subst hcs
    obtain ⟨b', c', rfl, hnone⟩ := hx.nilslice
    cases b' with
    | none =>
      have hnil : a = none := by simpa using hnone.symm
      subst hnil
      unfold firstA at hc
      simp only at hc
      split at hc
      · simp only [Option.some.injEq] at hc
        have : ns = [] := by simpa using hc.symm
        subst this
        exact ⟨.empty, rfl, rfl⟩
      · cases hc
    | some a' =>
      have hl := h3 a' n c' rfl
      rw [Nat.mul_one] at hl
      unfold loadCells at hl
      obtain ⟨xs, k1, k2, k3⟩ := loads_of n 0 #[] hl
      have hxs : xs = ns.map (Value.int .u8) := by simpa using k1.symm
      subst hxs
      refine ⟨ns.foldl (fun s n => s.push (UInt8.ofNat n.toNat)) .empty, ?_, ?_⟩
      · have hn : n = ns.length := by simpa using k2.symm
        subst hn
        have := run_loadBytes' (P := P) (w := w) (a := a') ns 0 .empty (fun j x hx => k3 j _ (by rw [List.getElem?_map, hx]; rfl))
        simpa [Extern.Bytes.bytesOf, Addr.add] using this
      · rw [foldl_data]; simp
  · cases e

theorem cmp_contract {f : FuncId} {fn : Func} (hf : P.funcs[f]? = some fn) (hname : (fn.name == "runtime.NumGoroutine") = false) (hb : fn.body.isNone = true) (hn : Extern.findNext fn = none) (he : Extern.find fn = some Extern.BytealgCompare.compare) : Contract P f cmpS := by
  have key : ∀ {args : List Value} {h h' : Heap} {v : Value}, cmpS args h = some (v, h') → ∃ x y a b, args = [x, y] ∧ bytesA x h = some a ∧ bytesA y h = some b ∧ v = .int .i64 (Lib.compareBytes a b) ∧ h' = h := by
    intro args h h' v e
    unfold cmpS at e
    split at e
    · rename_i x y
      split at e
      · rename_i a b h1 h2
        cases e
        exact ⟨x, y, a, b, rfl, h1, h2, rfl, rfl⟩
      · cases e
    · cases e
  refine ⟨(Array.getElem?_eq_some_iff.1 hf).1, ?_, ?_, ?_⟩
  · intro args h v h' e
    obtain ⟨_, _, _, _, _, _, _, _, rfl⟩ := key e
    exact Grow.refl _
  · intro args h v h' e _ hbh
    obtain ⟨_, _, _, _, _, _, _, rfl, rfl⟩ := key e
    exact ⟨rfl, hbh⟩
  · intro args h v h' e hba hbh hg μ w args' S hfr r
    obtain ⟨x, y, a, b, rfl, h1, h2, rfl, rfl⟩ := key e
    match args', r with
    | [x', y'], r =>
      obtain ⟨s1, k1, k2⟩ := bytesOf_sound (P := P) S r.head h1
      obtain ⟨s2, k3, k4⟩ := bytesOf_sound (P := P) S r.tail.head h2
      refine .inr ⟨.int .i64 (Lib.compareBytes a b), w, ?_, μ, _, rfl, S, .same_world, .flat rfl⟩
      rw [run_callFunc_extern hf hname hb hn he]
      have : (Extern.BytealgCompare.compare [x', y'].toArray).run P w = .ok (.int .i64 (Lib.compareBytes a b)) w := by
        show Sem.run P (do pure (goInt (Extern.BytealgCompare.cmp (← Extern.Bytes.bytesOf x') (← Extern.Bytes.bytesOf y')))) w = _
        simp only [Sem.run_bind, k1, k3, Result.andThen_ok, Sem.run_pure]
        rw [Lib.cmp_eq, k2, k4]
        rfl
      rw [this]
      rfl
    | [], r => have := r.1; simp at this
    | [_], r => have := r.1; simp at this
    | _ :: _ :: _ :: _, r => have := r.1; simp at this
end
end
end Go.Abs

namespace Go.Abs
noncomputable section
/-- What maps.clone answers. -/
def cloneS (args : List Value) (h : Heap) : Out :=
  match args with
  | [.iface t (.map (some m))] => match h.getB m with
    | some (.obj (.map es c)) => some (.iface t (.map (some h.next)), h.allocB (.obj (.map es c)))
    | _ => none
  | _ => none
section
variable {P : Program} {w : World}
theorem clone_contract {f : FuncId} {fn : Func} (hf : P.funcs[f]? = some fn) (hname : (fn.name == "runtime.NumGoroutine") = false) (hb : fn.body.isNone = true) (hn : Extern.findNext fn = none) (he : Extern.find fn = some Extern.MapsClone.clone) : Contract P f cloneS := by
  have key : ∀ {args : List Value} {h h' : Heap} {v : Value}, cloneS args h = some (v, h') → ∃ t m es c, args = [.iface t (.map (some m))] ∧ h.getB m = some (.obj (.map es c)) ∧ v = .iface t (.map (some h.next)) ∧ h' = h.allocB (.obj (.map es c)) := by
    intro args h h' v e
    unfold cloneS at e
    split at e
    · rename_i t m
      split at e
      · rename_i es c hm
        cases e
        exact ⟨t, m, es, c, rfl, hm, rfl, rfl⟩
      · cases e
    · cases e
  refine ⟨(Array.getElem?_eq_some_iff.1 hf).1, ?_, ?_, ?_⟩
  · intro args h v h' e
    obtain ⟨_, _, _, _, _, _, _, rfl⟩ := key e
    exact Grow.allocO _ _
  · intro args h v h' e _ hbh
    obtain ⟨t, m, es, c, _, hm, rfl, rfl⟩ := key e
    have hbo := hbh.bb hm
    refine ⟨by simp [bdV], hbh.allocO ?_⟩
    exact bdO_mono (Nat.le_succ _) hbo
  · intro args h v h' e hba hbh hg μ w args' S hfr r
    obtain ⟨t, m, es, c, rfl, hm, rfl, rfl⟩ := key e
    match args', r with
    | [x'], r =>
      have hx := r.head
      cases hx with
      | flat hh => simp [flat] at hh
      | iface hv =>
        obtain ⟨L, hL, rfl⟩ := hv.map_iff
        obtain ⟨L', ob, g1, g2, g3, g4, g5⟩ := S.obj m _ (h.n0_of_obj hm) hm
        rw [hL] at g1
        cases g1
        cases ob with
        | map es' c' =>
          obtain ⟨k1, k2, k3⟩ := g3
          have hnone := hfr h.next (Nat.le_refl _) (by simp)
          have hmono := Mu.put_mono (L := ⟨w.heap.size, 0, 0, 0⟩) hnone
          obtain ⟨hS, hSt⟩ := S.allocO (o := .map es c) hfr (ob := .map es' c') (w1 := w.alloc (.map es' c')) (B := w.heap.size) rfl rfl rfl (Nat.le_refl _) (by simp) (fun C hC => alloc_below w _ C hC) (World.alloc_heap_new w _)
            ⟨k1, k2, fun i x e hx he => ⟨(k3 i x e hx he).1.mono hmono, (k3 i x e hx he).2.1.mono hmono, (k3 i x e hx he).2.2⟩⟩
          refine .inr ⟨.iface t (.map (some w.heap.size)), w.alloc (.map es' c'), ?_, _, _, rfl, hS, hSt, .iface (.map (Mu.put_same _ _ _))⟩
          rw [run_callFunc_extern hf hname hb hn he]
          have hgo : (getObj L.blk).run P w = .ok (.map es' c') w := by
            unfold getObj Sem.run
            rw [g2]
            rfl
          have : (Extern.MapsClone.clone #[Value.iface t (Value.map (some L.blk))]).run P w = .ok (.iface t (.map (some w.heap.size))) (w.alloc (.map es' c')) := by
            show Sem.run P (do
              let o ← getObj L.blk
              match o with
              | .map entries clock => (do
                let n ← newObj (.map entries clock)
                pure (Value.iface t (.map (some n))))
              | _ => stuck "maps.clone: a map expected") w = _
            rw [Sem.run_bind, hgo, Result.andThen_ok]
            simp [run_newObj_alloc]
          rw [show ([Value.iface t (Value.map (some L.blk))].toArray : Array Value) = #[Value.iface t (Value.map (some L.blk))] from rfl, this]
          rfl
        | _ => exact g3.elim
    | [], r => have := r.1; simp at this
    | _ :: _ :: _, r => have := r.1; simp at this
/-- What sync/atomic's Add of 64 unsigned bits answers. -/
def addS (args : List Value) (h : Heap) : Out :=
  match args with
  | [.pointer (some ⟨b, off, none⟩), .int .u64 d] => match h.get b with
    | some k => match k[off]? with
      | some (.int .u64 n) => if h.n0 ≤ b then some (.int .u64 (IntKind.wrap .u64 (n + d)), h.set b (splice k off [.int .u64 (IntKind.wrap .u64 (n + d))])) else none
      | _ => none
    | none => none
  | _ => none
theorem add_contract {f : FuncId} {fn : Func} (hf : P.funcs[f]? = some fn) (hname : (fn.name == "runtime.NumGoroutine") = false) (hb : fn.body.isNone = true) (hn : Extern.findNext fn = none) (he : Extern.find fn = some (Extern.Atomic.update (Op.intArith .add) .u64 true)) : Contract P f addS := by
  have key : ∀ {args : List Value} {h h' : Heap} {v : Value}, addS args h = some (v, h') → ∃ b off d k n, args = [.pointer (some ⟨b, off, none⟩), .int .u64 d] ∧ h.get b = some k ∧ k[off]? = some (.int .u64 n) ∧ h.n0 ≤ b ∧ v = .int .u64 (IntKind.wrap .u64 (n + d)) ∧ h' = h.set b (splice k off [.int .u64 (IntKind.wrap .u64 (n + d))]) := by
    intro args h h' v e
    unfold addS at e
    split at e
    · rename_i b off d
      split at e
      · rename_i k hk
        split at e
        · rename_i n hx
          split at e
          · rename_i h0
            cases e
            exact ⟨b, off, d, k, n, rfl, hk, hx, h0, rfl, rfl⟩
          · cases e
        · cases e
      · cases e
    · cases e
  refine ⟨(Array.getElem?_eq_some_iff.1 hf).1, ?_, ?_, ?_⟩
  · intro args h v h' e
    obtain ⟨b, off, d, k, n, _, _, _, _, _, rfl⟩ := key e
    exact ⟨Nat.le_refl _, rfl, rfl⟩
  · intro args h v h' e _ hbh
    obtain ⟨b, off, d, k, n, _, hk, hx, h0, rfl, rfl⟩ := key e
    exact ⟨rfl, hbh.put (x := some _) h0 (h.lt_of_get hk) (fun k' hk' => by cases hk'; exact bdL_splice (hbh b k hk) rfl)⟩
  · intro args h v h' e hba hbh hg μ w args' S hfr r
    obtain ⟨b, off, d, k, n, rfl, hk, hx, h0, rfl, rfl⟩ := key e
    have hoff := (List.getElem?_eq_some_iff.1 hx).1
    match args', r with
    | [x', y'], r =>
      have hy := r.tail.head.int
      subst hy
      cases r.head with
      | flat hh => simp [flat] at hh
      | ptr hL =>
        rename_i L
        obtain ⟨L', arr, T, fr, q1, q2, q4, q5, q6, q7, q8, q9⟩ := S.new b k h0 hk
        rw [hL] at q1
        cases q1
        have hcell : w.cell? ⟨L.blk, L.off + off, none⟩ = some (.int .u64 n) := by
          have hlen := q9.1
          obtain ⟨y, hy⟩ : ∃ y, ((arr.toList.drop L.off).take L.len)[off]? = some y := ⟨_, List.getElem?_eq_getElem (by rw [← hlen]; exact hoff)⟩
          have hv := (q9.2 off _ _ hx hy).int
          rw [hv, List.getElem?_take, if_pos (by rw [q2]; exact hoff), List.getElem?_drop] at hy
          unfold World.cell?
          rw [q4]
          simp only [Option.isSome_none, Bool.false_eq_true, if_false]
          rw [← Array.getElem?_toList]
          exact hy
        obtain ⟨L', w', g1, g2, g3, g4⟩ := S.storeCells h0 hk (off := off) (xs := [.int .u64 (IntKind.wrap .u64 (n + d))]) (ys := [.int .u64 (IntKind.wrap .u64 (n + d))]) (by simp; omega) (.cons (.flat rfl) (LRel.nil _)) rfl P
        rw [hL] at g1
        cases g1
        have hst : (store ⟨L.blk, L.off + off, none⟩ (.int .u64 (IntKind.wrap .u64 (n + d))) .atomic).run P w = .ok () w' := by
          have e1 : (⟨L.blk, L.off + off, none⟩ : Addr).add 0 = ⟨L.blk, L.off + off, none⟩ := by simp [Addr.add]
          unfold Go.storeCells at g2
          rw [e1] at g2
          simp only [Sem.run_bind] at g2
          have e2 : (store ⟨L.blk, L.off + off, none⟩ (.int .u64 (IntKind.wrap .u64 (n + d)))).run P w = (store ⟨L.blk, L.off + off, none⟩ (.int .u64 (IntKind.wrap .u64 (n + d))) .atomic).run P w := by
            unfold store
            simp only [Sem.run, hcell]
          rw [e2] at g2
          cases hq : (store ⟨L.blk, L.off + off, none⟩ (.int .u64 (IntKind.wrap .u64 (n + d))) .atomic).run P w with
          | halt x w1 => rw [hq] at g2; cases g2
          | ok u w1 =>
            rw [hq] at g2
            simp only [Result.andThen_ok, Go.storeCells, Sem.run_pure, Result.ok.injEq] at g2
            rw [g2.2]
        refine .inr ⟨.int .u64 (IntKind.wrap .u64 (n + d)), w', ?_, _, _, rfl, g3, g4, .flat rfl⟩
        rw [run_callFunc_extern hf hname hb hn he]
        have : (Extern.Atomic.update (Op.intArith .add) .u64 true #[Value.pointer (some ⟨L.blk, L.off + off, none⟩), Value.int .u64 d]).run P w = .ok (.int .u64 (IntKind.wrap .u64 (n + d))) w' := by
          have hl : (load ⟨L.blk, L.off + off, none⟩ .atomic).run P w = .ok (.int .u64 n) w := by
            unfold load
            simp only [Sem.run, hcell]
          have hrd : (Extern.Atomic.read (.int .u64) ⟨L.blk, L.off + off, none⟩).run P w = .ok (.int .u64 n) w := by
            unfold Extern.Atomic.read
            rw [Sem.run_bind, hl, Result.andThen_ok]
            rfl
          show Sem.run P (do
            let a ← asAddr (Value.pointer (some ⟨L.blk, L.off + off, none⟩))
            let old ← Extern.Atomic.read (.int .u64) a
            let new ← Op.intArith .add .u64 (← asInt old) (← asInt (Value.int .u64 d))
            store a new .atomic
            pure (if true = true then new else old)) w = _
          have ha : (asAddr (Value.pointer (some ⟨L.blk, L.off + off, none⟩))).run P w = .ok ⟨L.blk, L.off + off, none⟩ w := rfl
          have h1 : (asInt (Value.int .u64 n)).run P w = .ok n w := rfl
          have h2 : (asInt (Value.int .u64 d)).run P w = .ok d w := rfl
          have h3 : (Op.intArith .add .u64 n d).run P w = .ok (.int .u64 (IntKind.wrap .u64 (n + d))) w := rfl
          simp only [Sem.run_bind, ha, Result.andThen_ok, hrd, h1, h2, h3, hst, Sem.run_pure, if_true]
        rw [show ([Value.pointer (some ⟨L.blk, L.off + off, none⟩), Value.int .u64 d].toArray : Array Value) = #[Value.pointer (some ⟨L.blk, L.off + off, none⟩), Value.int .u64 d] from rfl, this]
        rfl
    | [], r => have := r.1; simp at this
    | [_], r => have := r.1; simp at this
    | _ :: _ :: _ :: _, r => have := r.1; simp at this
end
end
end Go.Abs

