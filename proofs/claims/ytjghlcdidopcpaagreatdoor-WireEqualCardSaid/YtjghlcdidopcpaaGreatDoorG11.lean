/-
  The wire: messages as arguments.
  Conditions: the argument can be read as data.
  The wire: a message as an argument.
  Conditions: the argument can be read as data.
-/
import Derived.Test.YtjghlcdidopcpaaGreatDoorG10
import Derived.OpenShut
namespace Go.Proofs.YtjghlcdidopcpaaGreatDoor
open Go Go.Abs
open Go.ChangeShapes Go.WideShapes Go.ChangeAt Go.RowKit

theorem Typed.app {ks ls : List Kd} {a b : List Value} (x : Typed ks a) (y : Typed ls b) : Typed (ks ++ ls) (a ++ b) := by
  refine ⟨by rw [List.length_append, List.length_append, x.1, y.1], fun j k hk => ?_⟩
  by_cases hj : j < ks.length
  · rw [List.getElem?_append_left hj] at hk
    obtain ⟨v, h1, h2⟩ := x.2 j k hk
    exact ⟨v, by rw [List.getElem?_append_left (by rw [x.1]; exact hj)]; exact h1, h2⟩
  · rw [List.getElem?_append_right (by omega)] at hk
    obtain ⟨v, h1, h2⟩ := y.2 _ k hk
    exact ⟨v, by rw [List.getElem?_append_right (by rw [x.1]; omega), x.1]; exact h1, h2⟩
theorem Typed.one {k : Kd} {v : Value} (h : k.has v) : Typed [k] [v] := ⟨rfl, fun j t ht => by
  cases j with
  | zero => cases ht; exact ⟨v, rfl, h⟩
  | succ j => cases ht⟩
/-- Some cells out of many are of these kinds. -/
def Pc (ks : List Kd) (o : Nat) (cs : List Value) : Prop := Typed ks ((cs.drop o).take ks.length)
theorem Pc.app {ks ls : List Kd} {o : Nat} {cs : List Value} (x : Pc ks o cs) (y : Pc ls (o + ks.length) cs) : Pc (ks ++ ls) o cs := by
  unfold Pc at *
  rw [List.length_append, List.take_add, List.drop_drop]
  exact x.app y
theorem Pc.whole {ks : List Kd} {cs : List Value} (x : Pc ks 0 cs) (h : cs.length = ks.length) : Typed ks cs := by
  unfold Pc at x
  rw [List.drop_zero, ← h, List.take_length] at x
  exact x
theorem clean_nice {n : Nat} {v : Value} (h : nice n v = true) : clean n v = v := by unfold clean; rw [if_pos h]
theorem Kd.has.clean {k : Kd} {v : Value} (h : k.has v) (n : Nat) : clean n v = v := by
  cases k with
  | u8 => obtain ⟨m, rfl, _⟩ := h; rfl
  | i k => obtain ⟨m, rfl⟩ := h; rfl
  | b => obtain ⟨t, rfl⟩ := h; rfl
theorem Typed.clean {ks : List Kd} {cs : List Value} (h : Typed ks cs) (n : Nat) : cs.map (clean n) = cs := by
  refine List.ext_getElem? fun j => ?_
  rw [List.getElem?_map]
  by_cases hj : j < ks.length
  · obtain ⟨v, h1, h2⟩ := h.2 j _ (List.getElem?_eq_getElem hj)
    rw [h1, Option.map_some, h2.clean]
  · rw [List.getElem?_eq_none (by rw [h.1]; omega)]; rfl
theorem u8_lit {n : Int} (h : (Lit.int .u8 n).wf = true) : ∃ m : Nat, n = m ∧ m < 256 := by
  simp [Lit.wf, IntKind.min, IntKind.max, IntKind.signed, IntKind.bits] at h
  exact ⟨n.toNat, by omega, by omega⟩
theorem clean_slice {W : World} {a : Addr} {len cap : Nat} (hlc : len ≤ cap) (hc : 0 < cap → a.spot = none ∧ a.block < W.heap.size) :
    isHole (clean W.heap.size (.slice (some a) len cap)) = false ∧ ∃ a' , clean W.heap.size (.slice (some a) len cap) = .slice (some a') len cap ∧ (0 < cap → a' = a) := by
  obtain ⟨b, off, s⟩ := a
  by_cases h0 : 0 < cap
  · obtain ⟨h1, h2⟩ := hc h0
    have h1' : s = none := h1
    have h2' : b < W.heap.size := h2
    subst h1'
    have hn : nice W.heap.size (.slice (some ⟨b, off, none⟩) len cap) = true := by simpa [nice] using h2'
    rw [clean_nice hn]
    exact ⟨rfl, _, rfl, fun _ => rfl⟩
  · obtain rfl : cap = 0 := by omega
    obtain rfl : len = 0 := by omega
    by_cases hn : nice W.heap.size (.slice (some ⟨b, off, s⟩) 0 0) = true
    · rw [clean_nice hn]
      exact ⟨rfl, _, rfl, fun h => absurd h h0⟩
    · have : clean W.heap.size (.slice (some ⟨b, off, s⟩) 0 0) = .slice (some ⟨0, 0, some 0⟩) 0 0 := by unfold clean; rw [if_neg hn]; rfl
      rw [this]
      exact ⟨rfl, _, rfl, fun h => absurd h h0⟩
theorem add_block (a : Addr) (n : Nat) : (a.add n).block = a.block := by unfold Addr.add; split <;> rfl
theorem add_off (a : Addr) (n : Nat) : (a.add n).off = a.off + n := by
  unfold Addr.add
  split
  · rename_i h; rw [h]; rfl
  · rfl
section
variable {H : Type} {enc : TypeId × Value → H} {W : World} {base : Nat} {held : Bool}
/-- What can be read as data of this type has cells of these kinds. -/
def Reads (enc : TypeId × Value → H) (W : World) (base : Nat) (held : Bool) (t : TypeId) (ks : List Kd) : Prop :=
  ∀ fuel cs x, DataW.trod enc Tryz.prog W base (fun _ => true) held fuel t cs = some x → Typed ks cs
theorem reads_u8 {t : TypeId} (ht : Tryz.prog.underlying t = some (.int .u8)) : Reads enc W base held t [.u8] := fun fuel cs x h => by
  obtain ⟨n, rfl, _, w⟩ := DataW.trod_int ht h
  obtain ⟨m, rfl, hm⟩ := u8_lit w
  exact .one ⟨m, rfl, hm⟩
theorem reads_i {t : TypeId} {k : IntKind} (ht : Tryz.prog.underlying t = some (.int k)) : Reads enc W base held t [.i k] := fun fuel cs x h => by
  obtain ⟨n, rfl, _, w⟩ := DataW.trod_int ht h
  exact .one ⟨n, rfl⟩
theorem reads_b {t : TypeId} (ht : Tryz.prog.underlying t = some .bool) : Reads enc W base held t [.b] := fun fuel cs x h => by
  obtain ⟨n, rfl, _⟩ := DataW.trod_bool ht h
  exact .one ⟨n, rfl⟩
theorem reads_arr {t e : TypeId} {n : Nat} {k : Kd} (ht : Tryz.prog.underlying t = some (.array n e)) (h1 : Tryz.prog.cellsOf e = 1) (hn : Tryz.prog.cellsOf t = n) (R : Reads enc W base held e [k]) : Reads enc W base held t (List.replicate n k) := fun fuel cs x h => by
  obtain ⟨xs, m, rfl, _, hl, hx, hf⟩ := DataW.trod_array ht h
  rw [hn] at hl
  refine ⟨by rw [hl, List.length_replicate], fun j t' hj => ?_⟩
  have hj' : j < n := by
    have := (List.getElem?_eq_some_iff.1 hj).1
    rwa [List.length_replicate] at this
  rw [List.getElem?_replicate, if_pos hj'] at hj
  cases hj
  have := hf j hj'
  rw [List.getElem?_eq_getElem (by omega), h1, Nat.mul_one] at this
  obtain ⟨v, g1, g2⟩ := (R _ _ _ this).2 0 k rfl
  rw [List.getElem?_take, if_pos (by omega), List.getElem?_drop, Nat.add_zero] at g1
  exact ⟨v, g1, g2⟩
theorem fld {fuel : Nat} {t : TypeId} {cs : List Value} {x : DataW H × List MemPlace} {fs : Array Field} (ht : Tryz.prog.underlying t = some (.struct fs)) (h : DataW.trod enc Tryz.prog W base (fun _ => true) held fuel t cs = some x) {i z : Nat} {f : Field} (hf : fs[i]? = some f) (hz : Tryz.prog.cellsOf f.type = z) :
    ∃ m y, DataW.trod enc Tryz.prog W base (fun _ => true) held m f.type ((cs.drop f.offset).take z) = some y := by
  obtain ⟨xs, n, rfl, _, _, hl, h2⟩ := DataW.trod_struct ht h
  have := h2 i f hf
  rw [List.getElem?_eq_getElem (by rw [hl]; exact (Array.getElem?_eq_some_iff.1 hf).1), hz] at this
  exact ⟨_, _, this⟩
theorem piece {fuel : Nat} {t : TypeId} {cs : List Value} {x : DataW H × List MemPlace} {fs : Array Field} (ht : Tryz.prog.underlying t = some (.struct fs)) (h : DataW.trod enc Tryz.prog W base (fun _ => true) held fuel t cs = some x) {i : Nat} {f : Field} {ks : List Kd} (hf : fs[i]? = some f) (hz : Tryz.prog.cellsOf f.type = ks.length)
    (R : Reads enc W base held f.type ks) : Pc ks f.offset cs := by
  obtain ⟨m, y, e⟩ := fld ht h hf hz
  exact R _ _ _ e
theorem sl_of {t e : TypeId} {ks : List Kd} (ht : Tryz.prog.underlying t = some (.slice e)) (he : Tryz.prog.cellsOf e = ks.length) (hz : 0 < ks.length) (R : Reads enc W base held e ks) {fuel : Nat} {v : Value} {x : DataW H × List MemPlace}
    (h : DataW.trod enc Tryz.prog W base (fun _ => true) held fuel t [v] = some x) : isHole (clean W.heap.size v) = false ∧ ∃ n cs, SlN (topHeap W (view W)) ks (clean W.heap.size v) n cs := by
  have nilT : TypedN ks 0 [] := ⟨by simp, fun i hi => absurd hi (Nat.not_lt_zero i)⟩
  rcases DataW.trod_slice ht h with ⟨h1, _⟩ | ⟨a, len, cap, elems, rest, n, _, h1, _, _, hlc, hcm, hl, hel, hsp, _⟩
  · cases h1
    exact ⟨rfl, 0, [], none, 0, rfl, fun _ => rfl, nilT, fun h => absurd h (Nat.lt_irrefl 0)⟩
  · cases h1
    rw [he] at hel hsp
    have hpos : 0 < cap → a.spot = none ∧ a.block < W.heap.size := by
      intro h0
      have key : ∃ cs, W.cells? base (a.add (0 * ks.length)) ks.length = some cs := by
        by_cases hlen : 0 < len
        · have := hel 0 hlen
          rw [List.getElem?_eq_getElem (by omega), Option.bind_eq_some_iff] at this
          obtain ⟨cs, hc, _⟩ := this
          exact ⟨cs, hc⟩
        · have := (hsp rfl).2 0 (by omega)
          rw [List.getElem?_eq_getElem (by rw [(hsp rfl).1]; omega), Option.bind_eq_some_iff] at this
          obtain ⟨cs, hc, _⟩ := this
          obtain rfl : len = 0 := by omega
          exact ⟨cs, hc⟩
      obtain ⟨cs, hc⟩ := key
      obtain ⟨_, hlen, hcell⟩ := World.cells?_some hc
      have g := hcell 0 hz
      obtain ⟨c0, hc0⟩ : ∃ c0, cs[0]? = some c0 := ⟨cs[0], List.getElem?_eq_getElem (by omega)⟩
      rw [hc0, Nat.zero_mul] at g
      have g : W.cell? a = some c0 := g
      obtain ⟨e1, e2, _⟩ := view_cell g
      exact ⟨e1, e2⟩
    obtain ⟨g1, a', g2, g3⟩ := clean_slice (W := W) hlc hpos
    refine ⟨g1, len, ?_⟩
    by_cases h0 : len = 0
    · subst h0
      exact ⟨[], _, _, g2, fun _ => rfl, nilT, fun h => absurd h (Nat.lt_irrefl 0)⟩
    have ha := g3 (by omega)
    subst ha
    have each : ∀ i, i < len → ∃ k es, view W a'.block = some k ∧ Typed ks es ∧ ∀ j, j < ks.length → k[a'.off + i * ks.length + j]? = es[j]? := by
      intro i hi
      have h2 := hel i hi
      rw [List.getElem?_eq_getElem (by omega), Option.bind_eq_some_iff] at h2
      obtain ⟨es, hc, ht⟩ := h2
      have ty := R _ _ _ ht
      obtain ⟨_, hlen, hcell⟩ := World.cells?_some hc
      have vc : ∀ j, j < ks.length → ∃ k, view W a'.block = some k ∧ k[a'.off + i * ks.length + j]? = es[j]? := by
        intro j hj
        obtain ⟨u, h3, h4⟩ := ty.2 j _ (List.getElem?_eq_getElem hj)
        have g := hcell j hj
        rw [h3] at g
        obtain ⟨_, _, k, hk, hc2⟩ := view_cell g
        rw [add_block, add_block] at hk
        rw [add_off, add_off, h4.clean] at hc2
        exact ⟨k, hk, by rw [hc2, h3]⟩
      obtain ⟨k, hk, _⟩ := vc 0 hz
      refine ⟨k, es, hk, ty, fun j hj => ?_⟩
      obtain ⟨k', hk', e⟩ := vc j hj
      rw [hk] at hk'
      cases hk'
      exact e
    obtain ⟨k, _, hk, _⟩ := each 0 (by omega)
    have each : ∀ i, i < len → ∃ es, Typed ks es ∧ ∀ j, j < ks.length → k[a'.off + i * ks.length + j]? = es[j]? := fun i hi => by
      obtain ⟨k', es, hk', h1, h2⟩ := each i hi
      rw [hk] at hk'
      cases hk'
      exact ⟨es, h1, h2⟩
    have hlen : a'.off + len * ks.length ≤ k.length := by
      obtain ⟨es, ty, e⟩ := each (len - 1) (by omega)
      have := e (ks.length - 1) (by omega)
      obtain ⟨u, hu, _⟩ := ty.2 (ks.length - 1) _ (List.getElem?_eq_getElem (by omega))
      rw [hu] at this
      have := (List.getElem?_eq_some_iff.1 this).1
      have h9 : len * ks.length = (len - 1) * ks.length + ks.length := by
        conv => lhs; rw [show len = (len - 1) + 1 by omega, Nat.add_mul, Nat.one_mul]
      omega
    refine ⟨(k.drop a'.off).take (len * ks.length), _, _, g2, fun h => (by cases h), ⟨by rw [List.length_take, List.length_drop]; omega, fun i hi => ?_⟩, fun _ => ⟨a'.block, a'.off, a'.spot, k, rfl, by rw [view_get]; exact hk, hlen, rfl⟩⟩
    obtain ⟨es, ty, e⟩ := each i hi
    have hm := mul_le (z := ks.length) hi
    have : (((k.drop a'.off).take (len * ks.length)).drop (i * ks.length)).take ks.length = es := by
      refine List.ext_getElem? fun j => ?_
      rw [List.getElem?_take]
      by_cases hj : j < ks.length
      · rw [if_pos hj, List.getElem?_drop, List.getElem?_take, if_pos (by omega), List.getElem?_drop, ← e j hj, Nat.add_assoc]
      · rw [if_neg hj, List.getElem?_eq_none (by rw [ty.1]; omega)]
    rw [this]
    exact ty
end
end Go.Proofs.YtjghlcdidopcpaaGreatDoor

namespace Go.Proofs.YtjghlcdidopcpaaGreatDoor
open Go Go.Abs
open Go.ChangeShapes Go.WideShapes Go.ChangeAt Go.RowKit

theorem cut (l : List Value) (n : Nat) (h : n ≤ l.length) : ∃ a b, l = a ++ b ∧ a.length = n ∧ b.length = l.length - n :=
  ⟨l.take n, l.drop n, (List.take_append_drop n l).symm, by rw [List.length_take]; omega, by rw [List.length_drop]⟩
theorem msg_cut {l : List Value} (h : l.length = 116) : ∃ a0 a1 a2 a3 a4 a5 a6 a7 a8 a9 r d w o g0 g1 g2 g3 mo e i f c, l = [a0, a1, a2, a3, a4, a5, a6, a7, a8, a9] ++ (r ++ ([d, w] ++ (o ++ (([g0, g1, g2, g3] ++ (mo ++ [e])) ++ [i, f, c])))) ∧ r.length = 32 ∧ o.length = 32 ∧ mo.length = 32 := by
  obtain ⟨A, l1, rfl, hA, h1⟩ := cut l 10 (by omega)
  obtain ⟨r, l2, rfl, hr, h2⟩ := cut l1 32 (by omega)
  obtain ⟨D, l3, rfl, hD, h3⟩ := cut l2 2 (by omega)
  obtain ⟨o, l4, rfl, ho, h4⟩ := cut l3 32 (by omega)
  obtain ⟨G, l5, rfl, hG, h5⟩ := cut l4 4 (by omega)
  obtain ⟨mo, l6, rfl, hm, h6⟩ := cut l5 32 (by omega)
  have h7 : l6.length = 4 := by omega
  match A, hA, D, hD, G, hG, l6, h7 with
  | [a0, a1, a2, a3, a4, a5, a6, a7, a8, a9], _, [d, w], _, [g0, g1, g2, g3], _, [e, i, f, c], _ =>
    exact ⟨a0, a1, a2, a3, a4, a5, a6, a7, a8, a9, r, d, w, o, g0, g1, g2, g3, mo, e, i, f, c, by simp, hr, ho, hm⟩
theorem take_one {l : List Value} {o : Nat} {v : Value} (e : l[o]? = some v) : (l.drop o).take 1 = [v] := by
  obtain ⟨ho, rfl⟩ := List.getElem?_eq_some_iff.1 e
  rw [List.drop_eq_getElem_cons ho]
  rfl
section
variable {H : Type} {enc : TypeId × Value → H} {W : World} {base : Nat} {held : Bool}
theorem rd5 : Reads enc W base held 5 [.u8] := reads_u8 Tryz.underlying5
theorem rd28 : Reads enc W base held 28 digK := reads_arr Tryz.underlying28 (by kernel_rfl) (by kernel_rfl) rd5
theorem rd58 : Reads enc W base held 58 memK := fun fuel cs x h => by
  have p0 : Pc [.i .u64] 0 cs := piece Tryz.underlying58 h (i := 0) rfl (by kernel_rfl) (reads_i Tryz.underlying25)
  have p1 : Pc [.u8] 1 cs := piece Tryz.underlying58 h (i := 1) rfl (by kernel_rfl) (reads_u8 Tryz.underlying56)
  obtain ⟨_, _, _, _, hl, _⟩ := DataW.trod_struct Tryz.underlying58 h
  exact (p0.app p1).whole (hl.trans (by kernel_rfl))
theorem rd61 : Reads enc W base held 61 recK := fun fuel cs x h => by
  have p0 : Pc [.u8] 0 cs := piece Tryz.underlying61 h (i := 0) rfl (by kernel_rfl) (reads_u8 Tryz.underlying59)
  have p1 : Pc digK 1 cs := piece Tryz.underlying61 h (i := 1) rfl (by kernel_rfl) rd28
  have p2 : Pc [.i .i64] 33 cs := piece Tryz.underlying61 h (i := 2) rfl (by kernel_rfl) (reads_i Tryz.underlying3)
  have p3 : Pc [.i .u64] 34 cs := piece Tryz.underlying61 h (i := 3) rfl (by kernel_rfl) (reads_i Tryz.underlying25)
  have p4 : Pc [.i .u64] 35 cs := piece Tryz.underlying61 h (i := 4) rfl (by kernel_rfl) (reads_i Tryz.underlying25)
  have p5 : Pc [.b] 36 cs := piece Tryz.underlying61 h (i := 5) rfl (by kernel_rfl) (reads_b Tryz.underlying4)
  have p6 : Pc [.i .i64] 37 cs := piece Tryz.underlying61 h (i := 6) rfl (by kernel_rfl) (reads_i Tryz.underlying3)
  have p7 : Pc [.i .i64] 38 cs := piece Tryz.underlying61 h (i := 7) rfl (by kernel_rfl) (reads_i Tryz.underlying3)
  obtain ⟨_, _, _, _, hl, _⟩ := DataW.trod_struct Tryz.underlying61 h
  exact (((((((p0.app p1).app p2).app p3).app p4).app p5).app p6).app p7).whole (hl.trans (by kernel_rfl))
theorem sl26 {fuel : Nat} {v : Value} {x : DataW H × List MemPlace} (h : DataW.trod enc Tryz.prog W base (fun _ => true) held fuel 26 [v] = some x) : isHole (clean W.heap.size v) = false ∧ ∃ n cs, SlN (topHeap W (view W)) memK (clean W.heap.size v) n cs := sl_of Tryz.underlying26 (ks := memK) (by kernel_rfl) (by decide) rd58 h
theorem sl22 {fuel : Nat} {v : Value} {x : DataW H × List MemPlace} (h : DataW.trod enc Tryz.prog W base (fun _ => true) held fuel 22 [v] = some x) : isHole (clean W.heap.size v) = false ∧ ∃ n cs, SlN (topHeap W (view W)) [.u8] (clean W.heap.size v) n cs := sl_of Tryz.underlying22 (ks := [.u8]) (by kernel_rfl) (by decide) rd5 h
theorem sl29 {fuel : Nat} {v : Value} {x : DataW H × List MemPlace} (h : DataW.trod enc Tryz.prog W base (fun _ => true) held fuel 29 [v] = some x) : isHole (clean W.heap.size v) = false ∧ ∃ n cs, SlN (topHeap W (view W)) recK (clean W.heap.size v) n cs := sl_of Tryz.underlying29 (ks := recK) (by kernel_rfl) (by decide) rd61 h
theorem sl30 {fuel : Nat} {v : Value} {x : DataW H × List MemPlace} (h : DataW.trod enc Tryz.prog W base (fun _ => true) held fuel 30 [v] = some x) : isHole (clean W.heap.size v) = false ∧ ∃ n cs, SlN (topHeap W (view W)) digK (clean W.heap.size v) n cs := sl_of Tryz.underlying30 (ks := digK) (by kernel_rfl) (by decide) rd28 h
theorem fld1 {fuel : Nat} {t : TypeId} {cs : List Value} {x : DataW H × List MemPlace} {fs : Array Field} (ht : Tryz.prog.underlying t = some (.struct fs)) (h : DataW.trod enc Tryz.prog W base (fun _ => true) held fuel t cs = some x) {i : Nat} {f : Field} (hf : fs[i]? = some f) (hz : Tryz.prog.cellsOf f.type = 1) {v : Value} (e : cs[f.offset]? = some v) :
    ∃ m y, DataW.trod enc Tryz.prog W base (fun _ => true) held m f.type [v] = some y := by
  obtain ⟨m, y, q⟩ := fld ht h hf hz
  rw [take_one e] at q
  exact ⟨m, y, q⟩
theorem fldN {fuel : Nat} {t : TypeId} {cs A B C : List Value} {x : DataW H × List MemPlace} {fs : Array Field} (ht : Tryz.prog.underlying t = some (.struct fs)) (h : DataW.trod enc Tryz.prog W base (fun _ => true) held fuel t cs = some x) {i z : Nat} {f : Field} (hf : fs[i]? = some f) (hz : Tryz.prog.cellsOf f.type = z) (e : cs = A ++ (B ++ C)) (hA : A.length = f.offset) (hB : B.length = z) :
    ∃ m y, DataW.trod enc Tryz.prog W base (fun _ => true) held m f.type B = some y := by
  obtain ⟨m, y, q⟩ := fld ht h hf hz
  rw [mid e hA hB] at q
  exact ⟨m, y, q⟩
theorem trod_msg {fuel : Nat} {cs : List Value} {x : DataW H × List MemPlace} (h : DataW.trod enc Tryz.prog W base (fun _ => true) held fuel 37 cs = some x) :
    ∃ (M : MsgD) (s : Sl6) (n : N6), cs.map (clean W.heap.size) = M.cells s ∧ SlV (topHeap W (view W)) s n M ∧ M.Ok := by
  obtain ⟨_, _, _, _, hl, _⟩ := DataW.trod_struct Tryz.underlying37 h
  obtain ⟨a0, a1, a2, a3, a4, a5, a6, a7, a8, a9, r, d, w, o, g0, g1, g2, g3, mo, e, i, f, c, rfl, hr, ho, hm⟩ := msg_cut (hl.trans (show Tryz.prog.cellsOf 37 = 116 by kernel_rfl))
  have c1 : Tryz.prog.cellsOf 3 = 1 := by kernel_rfl
  have c24 : Tryz.prog.cellsOf 24 = 1 := by kernel_rfl
  have c25 : Tryz.prog.cellsOf 25 = 1 := by kernel_rfl
  have c4 : Tryz.prog.cellsOf 4 = 1 := by kernel_rfl
  have c22 : Tryz.prog.cellsOf 22 = 1 := by kernel_rfl
  have c26 : Tryz.prog.cellsOf 26 = 1 := by kernel_rfl
  have c29 : Tryz.prog.cellsOf 29 = 1 := by kernel_rfl
  have c30 : Tryz.prog.cellsOf 30 = 1 := by kernel_rfl
  have c35 : Tryz.prog.cellsOf 35 = 1 := by kernel_rfl
  have c28 : Tryz.prog.cellsOf 28 = 32 := by kernel_rfl
  have c32 : Tryz.prog.cellsOf 32 = 37 := by kernel_rfl
  have c34 : Tryz.prog.cellsOf 34 = 2 := by kernel_rfl
  obtain ⟨_, _, q0⟩ := fld1 Tryz.underlying37 h (i := 0) rfl c24 (v := a0) rfl
  obtain ⟨n0, e0, _⟩ := DataW.trod_int Tryz.underlying24 q0
  obtain ⟨_, _, q1⟩ := fld1 Tryz.underlying37 h (i := 1) rfl c1 (v := a1) rfl
  obtain ⟨n1, e1, _⟩ := DataW.trod_int Tryz.underlying3 q1
  obtain ⟨_, _, q2⟩ := fld1 Tryz.underlying37 h (i := 2) rfl c1 (v := a2) rfl
  obtain ⟨n2, e2, _⟩ := DataW.trod_int Tryz.underlying3 q2
  obtain ⟨_, _, q3⟩ := fld1 Tryz.underlying37 h (i := 3) rfl c25 (v := a3) rfl
  obtain ⟨n3, e3, _⟩ := DataW.trod_int Tryz.underlying25 q3
  obtain ⟨_, _, q4⟩ := fld1 Tryz.underlying37 h (i := 4) rfl c1 (v := a4) rfl
  obtain ⟨n4, e4, _⟩ := DataW.trod_int Tryz.underlying3 q4
  obtain ⟨_, _, q5⟩ := fld1 Tryz.underlying37 h (i := 5) rfl c1 (v := a5) rfl
  obtain ⟨n5, e5, _⟩ := DataW.trod_int Tryz.underlying3 q5
  obtain ⟨_, _, q6⟩ := fld1 Tryz.underlying37 h (i := 6) rfl c26 (v := a6) rfl
  obtain ⟨_, n6, t6, s6⟩ := sl26 q6
  obtain ⟨_, _, q7⟩ := fld1 Tryz.underlying37 h (i := 7) rfl c22 (v := a7) rfl
  obtain ⟨_, n7, t7, s7⟩ := sl22 q7
  obtain ⟨_, _, q8⟩ := fld1 Tryz.underlying37 h (i := 8) rfl c22 (v := a8) rfl
  obtain ⟨_, n8, t8, s8⟩ := sl22 q8
  obtain ⟨_, _, q9⟩ := fld1 Tryz.underlying37 h (i := 9) rfl c1 (v := a9) rfl
  obtain ⟨n9, e9, _⟩ := DataW.trod_int Tryz.underlying3 q9
  obtain ⟨_, _, q10⟩ := fldN Tryz.underlying37 h (i := 10) rfl c28 rfl (A := [a0, a1, a2, a3, a4, a5, a6, a7, a8, a9]) (B := r) rfl hr
  have t10 := rd28 _ _ _ q10
  obtain ⟨_, _, q11⟩ := fld1 Tryz.underlying37 h (i := 11) rfl c29 (v := d) (by simp [List.getElem?_append, hr])
  obtain ⟨_, n11, t11, s11⟩ := sl29 q11
  obtain ⟨_, _, q12⟩ := fld1 Tryz.underlying37 h (i := 12) rfl c4 (v := w) (by simp [List.getElem?_append, hr])
  obtain ⟨n12, e12, _⟩ := DataW.trod_bool Tryz.underlying4 q12
  obtain ⟨_, _, q13⟩ := fldN Tryz.underlying37 h (i := 13) rfl c28 (A := [a0, a1, a2, a3, a4, a5, a6, a7, a8, a9] ++ (r ++ [d, w])) (B := o) (C := ([g0, g1, g2, g3] ++ (mo ++ [e])) ++ [i, f, c]) (by simp only [List.append_assoc]) (by simp [hr]) ho
  have t13 := rd28 _ _ _ q13
  obtain ⟨_, _, q14⟩ := fldN Tryz.underlying37 h (i := 14) rfl c32 (A := [a0, a1, a2, a3, a4, a5, a6, a7, a8, a9] ++ (r ++ ([d, w] ++ o))) (B := [g0, g1, g2, g3] ++ (mo ++ [e])) (C := [i, f, c]) (by simp only [List.append_assoc]) (by simp [hr, ho]) (by simp [hm])
  obtain ⟨_, _, q15⟩ := fldN Tryz.underlying37 h (i := 15) rfl c34 (A := [a0, a1, a2, a3, a4, a5, a6, a7, a8, a9] ++ (r ++ ([d, w] ++ (o ++ ([g0, g1, g2, g3] ++ (mo ++ [e])))))) (B := [i, f]) (C := [c]) (by simp only [List.append_assoc]; rfl) (by simp [hr, ho, hm]) rfl
  obtain ⟨_, _, q16⟩ := fld1 Tryz.underlying37 h (i := 16) rfl c35 (v := c) (by simp [List.getElem?_append, hr, ho, hm])
  obtain ⟨n16, e16, _⟩ := DataW.trod_int Tryz.underlying35 q16
  obtain ⟨_, _, u0⟩ := fld1 Tryz.underlying32 q14 (i := 0) rfl c1 (v := g0) rfl
  obtain ⟨k0, f0, _⟩ := DataW.trod_int Tryz.underlying3 u0
  obtain ⟨_, _, u1⟩ := fld1 Tryz.underlying32 q14 (i := 1) rfl c1 (v := g1) rfl
  obtain ⟨k1, f1, _⟩ := DataW.trod_int Tryz.underlying3 u1
  obtain ⟨_, _, u2⟩ := fld1 Tryz.underlying32 q14 (i := 2) rfl c1 (v := g2) rfl
  obtain ⟨k2, f2, _⟩ := DataW.trod_int Tryz.underlying3 u2
  obtain ⟨_, _, u3⟩ := fld1 Tryz.underlying32 q14 (i := 3) rfl c1 (v := g3) rfl
  obtain ⟨k3, f3, _⟩ := DataW.trod_int Tryz.underlying3 u3
  obtain ⟨_, _, u4⟩ := fldN Tryz.underlying32 q14 (i := 4) rfl c28 (A := [g0, g1, g2, g3]) (B := mo) rfl rfl hm
  have t4 := rd28 _ _ _ u4
  obtain ⟨_, _, u5⟩ := fld1 Tryz.underlying32 q14 (i := 5) rfl c30 (v := e) (by simp [List.getElem?_append, hm])
  obtain ⟨_, n17, t17, s17⟩ := sl30 u5
  obtain ⟨_, _, v0⟩ := fld1 Tryz.underlying34 q15 (i := 0) rfl c1 (v := i) rfl
  obtain ⟨n18, f18, _⟩ := DataW.trod_int Tryz.underlying3 v0
  obtain ⟨_, _, v1⟩ := fld1 Tryz.underlying34 q15 (i := 1) rfl c22 (v := f) rfl
  obtain ⟨_, n19, t19, s19⟩ := sl22 v1
  cases e0; cases e1; cases e2; cases e3; cases e4; cases e5; cases e9; cases e12; cases e16; cases f0; cases f1; cases f2; cases f3; cases f18
  refine ⟨⟨n0, n1, n2, n3, n4, n5, n9, r, n12, o, k0, k1, k2, k3, mo, n18, n16, t6, t7, t8, t11, t17, t19⟩, ⟨_, _, _, _, _, _⟩, ⟨n6, n7, n8, n11, n17, n19⟩, ?_, ⟨s6, s7, s8, s11, s17, s19⟩, ⟨t10, t13, t4⟩⟩
  simp only [List.map_append, List.map_cons, List.map_nil, t10.clean, t13.clean, t4.clean]
  rfl
end
end Go.Proofs.YtjghlcdidopcpaaGreatDoor

