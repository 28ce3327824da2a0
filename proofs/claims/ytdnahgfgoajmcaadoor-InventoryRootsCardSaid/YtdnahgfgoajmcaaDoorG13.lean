/-
  The wire: messages as arguments.
  Conditions: the argument can be read as data.
  The wire: messages as plain data.
  Conditions: as each theorem states.
  The wire: manifests and bodies, written.
  Conditions: as each theorem states.
  The inventory: records and bytes as arguments; the digest's table as it is laid.
  Conditions: the argument can be read as data.
  The wire's known run; the calls' evaluator; lists of typed cells, and their equality.
  Conditions: as each theorem states.
  The wire: slices of typed cells, and their comparison, element by element.
  Conditions: as each theorem states.
  Taken over from the disk's texts: numbers of functions and types are mapped.
  Conditions: as each theorem states.
  The wire: Decode.
  Conditions: as each theorem states.
  The wire: Decode.
  Conditions: as each theorem states.
  The wire's plain law: bytes that are decoded are the frame of their message.
  Conditions: as each theorem states.
  The reference's reader: digest, head.
  Conditions: as each theorem states.
  The reference: validity of a message's parts.
  Conditions: as each theorem states.
  The reference: the record of bytes.
  Conditions: as each theorem states.
  The reference: text, a record's and a manifest's bytes.
  Conditions: as each theorem states.
  Words of 32 bits in the machine.
  Conditions: as each theorem states.
  The digest's compression of a block.
  Conditions: as each theorem states.
  The digest's compression of a block: the other words, and the rounds.
  Conditions: as each theorem states.
  The digest's compression of a block: the 64 rounds, and the whole.
  Conditions: the digest's table holds what it holds at the start.
  The digest's compression of a block, whole.
  Conditions: the digest's table holds what it holds at the start.
  The digest's Hash: bytes are written.
  Conditions: the digest's table holds what it holds at the start.
  The digest's Hash: Write.
  Conditions: the digest's table holds what it holds at the start.
  The digest's Hash: Sum.
  Conditions: the digest's table holds what it holds at the start.
  InventoryRecords: the keys of records, on both sides; the bytes of records that are not valid.
  Conditions: as each theorem states.
  InventoryRecords: keys as bytes, on both sides; the bytes of records that are not valid.
  Conditions: as each theorem states.
  InventoryRecords: which of two records is newer, on the inventory's side.
  Conditions: as each theorem states.
-/
import Derived.Test.YtdnahgfgoajmcaaDoorG12
import Derived.OpenShut
namespace Go.Proofs.YtdnahgfgoajmcaaDoor
open Go Go.Abs
open Go.ChangeShapes Go.WideShapes Go.ChangeAt Go.RowKit
/-- Some cells out of many are of these kinds. -/
def Pc (ks : List Kd) (o : Nat) (cs : List Value) : Prop := Typed ks ((cs.drop o).take ks.length)
theorem Pc.app {ks ls : List Kd} {o : Nat} {cs : List Value} (x : Pc ks o cs) (y : Pc ls (o + ks.length) cs) : Pc (ks ++ ls) o cs := by
  unfold Pc at *
  rw [List.length_append, List.take_add, List.drop_drop]
  exact x.app y
theorem Pc.whole {ks : List Kd} {cs : List Value} (x : Pc ks 0 cs) (h : cs.length = ks.length) : Typed ks cs := by
  unfold Pc at x
  rw [List.drop_zero, ← h, List.take_length] at x
  exact x
theorem clean_nice {n : Nat} {v : Value} (h : nice n v = true) : clean n v = v := by unfold clean; rw [if_pos h]
theorem Kd.has.clean {k : Kd} {v : Value} (h : k.has v) (n : Nat) : clean n v = v := by
  cases k with
  | u8 => obtain ⟨m, rfl, _⟩ := h; rfl
  | i k => obtain ⟨m, rfl, _⟩ := h; rfl
  | b => obtain ⟨t, rfl⟩ := h; rfl
theorem Typed.clean {ks : List Kd} {cs : List Value} (h : Typed ks cs) (n : Nat) : cs.map (clean n) = cs := by
  refine List.ext_getElem? fun j => ?_
  rw [List.getElem?_map]
  by_cases hj : j < ks.length
  · obtain ⟨v, h1, h2⟩ := h.2 j _ (List.getElem?_eq_getElem hj)
    rw [h1, Option.map_some, h2.clean]
  · rw [List.getElem?_eq_none (by rw [h.1]; omega)]; rfl
theorem u8_lit {n : Int} (h : (Lit.int .u8 n).wf = true) : ∃ m : Nat, n = m ∧ m < 256 := by
  simp [Lit.wf, IntKind.min, IntKind.max, IntKind.signed, IntKind.bits] at h
  exact ⟨n.toNat, by omega, by omega⟩
theorem clean_slice {W : World} {a : Addr} {len cap : Nat} (hlc : len ≤ cap) (hc : 0 < cap → a.spot = none ∧ a.block < W.heap.size) :
    isHole (clean W.heap.size (.slice (some a) len cap)) = false ∧ ∃ a' , clean W.heap.size (.slice (some a) len cap) = .slice (some a') len cap ∧ (0 < cap → a' = a) := by
  obtain ⟨b, off, s⟩ := a
  by_cases h0 : 0 < cap
  · obtain ⟨h1, h2⟩ := hc h0
    have h1' : s = none := h1
    have h2' : b < W.heap.size := h2
    subst h1'
    have hn : nice W.heap.size (.slice (some ⟨b, off, none⟩) len cap) = true := by simpa [nice] using h2'
    rw [clean_nice hn]
    exact ⟨rfl, _, rfl, fun _ => rfl⟩
  · obtain rfl : cap = 0 := by omega
    obtain rfl : len = 0 := by omega
    by_cases hn : nice W.heap.size (.slice (some ⟨b, off, s⟩) 0 0) = true
    · rw [clean_nice hn]
      exact ⟨rfl, _, rfl, fun h => absurd h h0⟩
    · have : clean W.heap.size (.slice (some ⟨b, off, s⟩) 0 0) = .slice (some ⟨0, 0, some 0⟩) 0 0 := by unfold clean; rw [if_neg hn]; rfl
      rw [this]
      exact ⟨rfl, _, rfl, fun h => absurd h h0⟩
theorem add_block (a : Addr) (n : Nat) : (a.add n).block = a.block := by unfold Addr.add; split <;> rfl
theorem add_off (a : Addr) (n : Nat) : (a.add n).off = a.off + n := by
  unfold Addr.add
  split
  · rename_i h; rw [h]; rfl
  · rfl
section
variable {H : Type} {enc : TypeId × Value → H} {W : World} {base : Nat} {held : Bool}
/-- What can be read as data of this type has cells of these kinds. -/
def Reads (enc : TypeId × Value → H) (W : World) (base : Nat) (held : Bool) (t : TypeId) (ks : List Kd) : Prop :=
  ∀ fuel cs x, DataW.trod enc Tryd.prog W base (fun _ => true) held fuel t cs = some x → Typed ks cs
theorem reads_u8 {t : TypeId} (ht : Tryd.prog.underlying t = some (.int .u8)) : Reads enc W base held t [.u8] := fun fuel cs x h => by
  obtain ⟨n, rfl, _, w⟩ := DataW.trod_int ht h
  obtain ⟨m, rfl, hm⟩ := u8_lit w
  exact .one ⟨m, rfl, hm⟩
theorem reads_i {t : TypeId} {k : IntKind} (ht : Tryd.prog.underlying t = some (.int k)) : Reads enc W base held t [.i k] := fun fuel cs x h => by
  obtain ⟨n, rfl, _, w⟩ := DataW.trod_int ht h
  exact .one ⟨n, rfl, w⟩
theorem reads_b {t : TypeId} (ht : Tryd.prog.underlying t = some .bool) : Reads enc W base held t [.b] := fun fuel cs x h => by
  obtain ⟨n, rfl, _⟩ := DataW.trod_bool ht h
  exact .one ⟨n, rfl⟩
theorem reads_arr {t e : TypeId} {n : Nat} {k : Kd} (ht : Tryd.prog.underlying t = some (.array n e)) (h1 : Tryd.prog.cellsOf e = 1) (hn : Tryd.prog.cellsOf t = n) (R : Reads enc W base held e [k]) : Reads enc W base held t (List.replicate n k) := fun fuel cs x h => by
  obtain ⟨xs, m, rfl, _, hl, hx, hf⟩ := DataW.trod_array ht h
  rw [hn] at hl
  refine ⟨by rw [hl, List.length_replicate], fun j t' hj => ?_⟩
  have hj' : j < n := by
    have := (List.getElem?_eq_some_iff.1 hj).1
    rwa [List.length_replicate] at this
  rw [List.getElem?_replicate, if_pos hj'] at hj
  cases hj
  have := hf j hj'
  rw [List.getElem?_eq_getElem (by omega), h1, Nat.mul_one] at this
  obtain ⟨v, g1, g2⟩ := (R _ _ _ this).2 0 k rfl
  rw [List.getElem?_take, if_pos (by omega), List.getElem?_drop, Nat.add_zero] at g1
  exact ⟨v, g1, g2⟩
theorem fld {fuel : Nat} {t : TypeId} {cs : List Value} {x : DataW H × List MemPlace} {fs : Array Field} (ht : Tryd.prog.underlying t = some (.struct fs)) (h : DataW.trod enc Tryd.prog W base (fun _ => true) held fuel t cs = some x) {i z : Nat} {f : Field} (hf : fs[i]? = some f) (hz : Tryd.prog.cellsOf f.type = z) :
    ∃ m y, DataW.trod enc Tryd.prog W base (fun _ => true) held m f.type ((cs.drop f.offset).take z) = some y := by
  obtain ⟨xs, n, rfl, _, _, hl, h2⟩ := DataW.trod_struct ht h
  have := h2 i f hf
  rw [List.getElem?_eq_getElem (by rw [hl]; exact (Array.getElem?_eq_some_iff.1 hf).1), hz] at this
  exact ⟨_, _, this⟩
theorem piece {fuel : Nat} {t : TypeId} {cs : List Value} {x : DataW H × List MemPlace} {fs : Array Field} (ht : Tryd.prog.underlying t = some (.struct fs)) (h : DataW.trod enc Tryd.prog W base (fun _ => true) held fuel t cs = some x) {i : Nat} {f : Field} {ks : List Kd} (hf : fs[i]? = some f) (hz : Tryd.prog.cellsOf f.type = ks.length)
    (R : Reads enc W base held f.type ks) : Pc ks f.offset cs := by
  obtain ⟨m, y, e⟩ := fld ht h hf hz
  exact R _ _ _ e
theorem sl_of {t e : TypeId} {ks : List Kd} (ht : Tryd.prog.underlying t = some (.slice e)) (he : Tryd.prog.cellsOf e = ks.length) (hz : 0 < ks.length) (R : Reads enc W base held e ks) {fuel : Nat} {v : Value} {x : DataW H × List MemPlace}
    (h : DataW.trod enc Tryd.prog W base (fun _ => true) held fuel t [v] = some x) : isHole (clean W.heap.size v) = false ∧ ∃ n cs, SlN (topHeap W (view W)) ks (clean W.heap.size v) n cs := by
  have nilT : TypedN ks 0 [] := ⟨by simp, fun i hi => absurd hi (Nat.not_lt_zero i)⟩
  rcases DataW.trod_slice ht h with ⟨h1, _⟩ | ⟨a, len, cap, elems, rest, n, _, h1, _, _, hlc, hcm, hl, hel, hsp, _⟩
  · cases h1
    exact ⟨rfl, 0, [], none, 0, rfl, fun _ => rfl, nilT, fun h => absurd h (Nat.lt_irrefl 0)⟩
  · cases h1
    rw [he] at hel hsp
    have hpos : 0 < cap → a.spot = none ∧ a.block < W.heap.size := by
      intro h0
      have key : ∃ cs, W.cells? base (a.add (0 * ks.length)) ks.length = some cs := by
        by_cases hlen : 0 < len
        · have := hel 0 hlen
          rw [List.getElem?_eq_getElem (by omega), Option.bind_eq_some_iff] at this
          obtain ⟨cs, hc, _⟩ := this
          exact ⟨cs, hc⟩
        · have := (hsp rfl).2 0 (by omega)
          rw [List.getElem?_eq_getElem (by rw [(hsp rfl).1]; omega), Option.bind_eq_some_iff] at this
          obtain ⟨cs, hc, _⟩ := this
          obtain rfl : len = 0 := by omega
          exact ⟨cs, hc⟩
      obtain ⟨cs, hc⟩ := key
      obtain ⟨_, hlen, hcell⟩ := World.cells?_some hc
      have g := hcell 0 hz
      obtain ⟨c0, hc0⟩ : ∃ c0, cs[0]? = some c0 := ⟨cs[0], List.getElem?_eq_getElem (by omega)⟩
      rw [hc0, Nat.zero_mul] at g
      have g : W.cell? a = some c0 := g
      obtain ⟨e1, e2, _⟩ := view_cell g
      exact ⟨e1, e2⟩
    obtain ⟨g1, a', g2, g3⟩ := clean_slice (W := W) hlc hpos
    refine ⟨g1, len, ?_⟩
    by_cases h0 : len = 0
    · subst h0
      exact ⟨[], _, _, g2, fun _ => rfl, nilT, fun h => absurd h (Nat.lt_irrefl 0)⟩
    have ha := g3 (by omega)
    subst ha
    have each : ∀ i, i < len → ∃ k es, view W a'.block = some k ∧ Typed ks es ∧ ∀ j, j < ks.length → k[a'.off + i * ks.length + j]? = es[j]? := by
      intro i hi
      have h2 := hel i hi
      rw [List.getElem?_eq_getElem (by omega), Option.bind_eq_some_iff] at h2
      obtain ⟨es, hc, ht⟩ := h2
      have ty := R _ _ _ ht
      obtain ⟨_, hlen, hcell⟩ := World.cells?_some hc
      have vc : ∀ j, j < ks.length → ∃ k, view W a'.block = some k ∧ k[a'.off + i * ks.length + j]? = es[j]? := by
        intro j hj
        obtain ⟨u, h3, h4⟩ := ty.2 j _ (List.getElem?_eq_getElem hj)
        have g := hcell j hj
        rw [h3] at g
        obtain ⟨_, _, k, hk, hc2⟩ := view_cell g
        rw [add_block, add_block] at hk
        rw [add_off, add_off, h4.clean] at hc2
        exact ⟨k, hk, by rw [hc2, h3]⟩
      obtain ⟨k, hk, _⟩ := vc 0 hz
      refine ⟨k, es, hk, ty, fun j hj => ?_⟩
      obtain ⟨k', hk', e⟩ := vc j hj
      rw [hk] at hk'
      cases hk'
      exact e
    obtain ⟨k, _, hk, _⟩ := each 0 (by omega)
    have each : ∀ i, i < len → ∃ es, Typed ks es ∧ ∀ j, j < ks.length → k[a'.off + i * ks.length + j]? = es[j]? := fun i hi => by
      obtain ⟨k', es, hk', h1, h2⟩ := each i hi
      rw [hk] at hk'
      cases hk'
      exact ⟨es, h1, h2⟩
    have hlen : a'.off + len * ks.length ≤ k.length := by
      obtain ⟨es, ty, e⟩ := each (len - 1) (by omega)
      have := e (ks.length - 1) (by omega)
      obtain ⟨u, hu, _⟩ := ty.2 (ks.length - 1) _ (List.getElem?_eq_getElem (by omega))
      rw [hu] at this
      have := (List.getElem?_eq_some_iff.1 this).1
      have h9 : len * ks.length = (len - 1) * ks.length + ks.length := by
        conv => lhs; rw [show len = (len - 1) + 1 by omega, Nat.add_mul, Nat.one_mul]
      omega
    refine ⟨(k.drop a'.off).take (len * ks.length), _, _, g2, fun h => (by cases h), ⟨by rw [List.length_take, List.length_drop]; omega, fun i hi => ?_⟩, fun _ => ⟨a'.block, a'.off, a'.spot, k, rfl, by rw [view_get]; exact hk, hlen, rfl⟩⟩
    obtain ⟨es, ty, e⟩ := each i hi
    have hm := mul_le (z := ks.length) hi
    have : (((k.drop a'.off).take (len * ks.length)).drop (i * ks.length)).take ks.length = es := by
      refine List.ext_getElem? fun j => ?_
      rw [List.getElem?_take]
      by_cases hj : j < ks.length
      · rw [if_pos hj, List.getElem?_drop, List.getElem?_take, if_pos (by omega), List.getElem?_drop, ← e j hj, Nat.add_assoc]
      · rw [if_neg hj, List.getElem?_eq_none (by rw [ty.1]; omega)]
    rw [this]
    exact ty
end
end Go.Proofs.YtdnahgfgoajmcaaDoor

namespace Go.Proofs.YtdnahgfgoajmcaaDoor
open Go Go.Abs
theorem wf_u64 {n : Int} (h : (Lit.int .u64 n).wf = true) : ∃ m : Nat, n = m ∧ m < 18446744073709551616 := by
  simp [Lit.wf, IntKind.min, IntKind.max, IntKind.signed, IntKind.bits] at h
  exact ⟨n.toNat, by omega, by omega⟩
theorem dig_of {xs : List Value} (h : Typed digK xs) : ∃ l, xs = u8s l ∧ D32 l := by
  have hl : xs.length = 32 := h.1
  have key : ∀ n, n ≤ 32 → ∃ l : List Nat, xs.take n = u8s l ∧ l.length = n ∧ Bys l := by
    intro n
    induction n with
    | zero => exact fun _ => ⟨[], rfl, rfl, fun x hx => by cases hx⟩
    | succ n ih =>
      intro hn
      obtain ⟨l, h1, h2, h3⟩ := ih (by omega)
      obtain ⟨m, h4, h5⟩ := dig_get h (i := n) (by omega)
      refine ⟨l ++ [m], ?_, by simp [h2], fun x hx => ?_⟩
      · rw [List.take_add_one, h1, h4]
        simp [u8s]
      · rcases List.mem_append.1 hx with hx | hx
        · exact h3 x hx
        · simp only [List.mem_cons, List.not_mem_nil, or_false] at hx
          subst hx; exact h5
  obtain ⟨l, h1, h2, h3⟩ := key 32 (Nat.le_refl _)
  rw [List.take_of_length_le (by omega)] at h1
  exact ⟨l, h1, h2, h3⟩
theorem rec_of {xs : List Value} (h : Typed recK xs) : ∃ r, xs = recC r ∧ r.Wf := by
  obtain ⟨a, o, b, c, d, e, f, g, rfl, ho, ha, wb, wc, wd, wf, wg⟩ := rec_form h
  obtain ⟨l, rfl, hl⟩ := dig_of ho
  obtain ⟨c, rfl, hc⟩ := wf_u64 wc
  obtain ⟨d, rfl, hd⟩ := wf_u64 wd
  exact ⟨⟨a, l, b, c, d, e, f, g⟩, rfl, ha, hl, wf_i64.1 wb, hc, hd, wf_i64.1 wf, wf_i64.1 wg⟩
theorem list_of {ks : List Kd} {α : Type} {f : α → List Value} {P : α → Prop} (hf : ∀ xs, Typed ks xs → ∃ a, xs = f a ∧ P a) : ∀ (n : Nat) (cs : List Value), TypedN ks n cs → ∃ l : List α, l.length = n ∧ cs = l.flatMap f ∧ ∀ a ∈ l, P a
  | 0, cs, h => ⟨[], rfl, by
      have : cs.length = 0 := by rw [h.1, Nat.zero_mul]
      exact List.length_eq_zero_iff.1 this, fun a ha => by cases ha⟩
  | n + 1, cs, h => by
    have hl : cs.length = (n + 1) * ks.length := h.1
    have h0 := h.2 0 (by omega)
    rw [Nat.zero_mul, List.drop_zero] at h0
    obtain ⟨a, ha, pa⟩ := hf _ h0
    have hl2 : (cs.drop ks.length).length = n * ks.length := by rw [List.length_drop, hl, Nat.add_mul]; omega
    obtain ⟨l, q1, q2, q3⟩ := list_of hf n (cs.drop ks.length) ⟨hl2, fun i hi => by
      have := h.2 (i + 1) (by omega)
      rw [List.drop_drop, show ks.length + i * ks.length = (i + 1) * ks.length by rw [Nat.add_mul]; omega]
      exact this⟩
    refine ⟨a :: l, by simp [q1], ?_, fun b hb => ?_⟩
    · rw [List.flatMap_cons, ← ha, ← q2, List.take_append_drop]
    · rcases List.mem_cons.1 hb with rfl | hb
      · exact pa
      · exact q3 b hb
end Go.Proofs.YtdnahgfgoajmcaaDoor

namespace Go.Proofs.YtdnahgfgoajmcaaDoor
open Go Go.Abs
attribute [local congr] thenV_congr
theorem SlN.bytes {h : Heap} {v : Value} {l : List Nat} (x : SlN h [.u8] v l.length (u8s l)) (hb : Bys l) : ∃ a c, v = .slice a l.length c ∧ sliceBytes a l.length h = some l ∧ (∀ y, a = some y → 0 < l.length → slB v = some y.block) := by
  obtain ⟨a, c, rfl, h1, h2, h3⟩ := x
  refine ⟨a, c, rfl, ?_, fun y hy hn => ?_⟩
  · by_cases h0 : l.length = 0
    · have : l = [] := List.length_eq_zero_iff.1 h0
      subst this
      cases a with
      | none => rfl
      | some y => unfold sliceBytes firstA; simp; rfl
    · obtain ⟨b, off, s, k, rfl, g, h4, h5⟩ := h3 (by omega)
      have h5 : (k.drop off).take (l.length * 1) = u8s l := h5
      have h4 : off + l.length * 1 ≤ k.length := h4
      rw [Nat.mul_one] at h4 h5
      have e : k = k.take off ++ (u8s l ++ k.drop (off + l.length)) := by rw [← h5, ← List.drop_drop, List.take_append_drop, List.take_append_drop]
      exact sliceBytes_mid g e (by rw [List.length_take]; omega) hb
  · subst hy
    obtain ⟨m, hm⟩ : ∃ m, l.length = m + 1 := ⟨l.length - 1, by omega⟩
    rw [hm]
    rfl
end Go.Proofs.YtdnahgfgoajmcaaDoor

namespace Go.Proofs.YtdnahgfgoajmcaaDoor
open Go Go.Abs
open Go.ChangeShapes Go.WideShapes Go.ChangeAt Go.RowKit
theorem SlN.typed {h : Heap} {ks : List Kd} {v : Value} {n : Nat} {cs : List Value} (x : SlN h ks v n cs) : TypedN ks n cs := by
  obtain ⟨a, c, rfl, _, h2, _⟩ := x
  exact h2
section
variable {H : Type} {enc : TypeId × Value → H} {W : World} {base : Nat} {held : Bool}
theorem rd5 : Reads enc W base held 5 [.u8] := reads_u8 Tryd.underlying5
theorem rd35 : Reads enc W base held 35 digK := reads_arr Tryd.underlying35 (by kernel_rfl) (by kernel_rfl) rd5
theorem rd58 : Reads enc W base held 58 recK := fun fuel cs x h => by
  have p0 : Pc [.u8] 0 cs := piece Tryd.underlying58 h (i := 0) rfl (by kernel_rfl) (reads_u8 Tryd.underlying56)
  have p1 : Pc digK 1 cs := piece Tryd.underlying58 h (i := 1) rfl (by kernel_rfl) rd35
  have p2 : Pc [.i .i64] 33 cs := piece Tryd.underlying58 h (i := 2) rfl (by kernel_rfl) (reads_i Tryd.underlying3)
  have p3 : Pc [.i .u64] 34 cs := piece Tryd.underlying58 h (i := 3) rfl (by kernel_rfl) (reads_i Tryd.underlying32)
  have p4 : Pc [.i .u64] 35 cs := piece Tryd.underlying58 h (i := 4) rfl (by kernel_rfl) (reads_i Tryd.underlying32)
  have p5 : Pc [.b] 36 cs := piece Tryd.underlying58 h (i := 5) rfl (by kernel_rfl) (reads_b Tryd.underlying4)
  have p6 : Pc [.i .i64] 37 cs := piece Tryd.underlying58 h (i := 6) rfl (by kernel_rfl) (reads_i Tryd.underlying3)
  have p7 : Pc [.i .i64] 38 cs := piece Tryd.underlying58 h (i := 7) rfl (by kernel_rfl) (reads_i Tryd.underlying3)
  obtain ⟨_, _, _, _, hl, _⟩ := DataW.trod_struct Tryd.underlying58 h
  exact (((((((p0.app p1).app p2).app p3).app p4).app p5).app p6).app p7).whole (hl.trans (by kernel_rfl))
end
def litOf {H : Type} : Value → DataW H
  | .int k n => .lit (.int k n)
  | _ => .agg []
theorem litOf_inj {H : Type} {v : Value} {k : IntKind} {n : Int} (h : (litOf v : DataW H) = .lit (.int k n)) : v = .int k n := by
  cases v with
  | int k' n' =>
    have h : (DataW.lit (Lit.int k' n') : DataW H) = .lit (.int k n) := h
    have q := Lit.int.inj (DataW.lit.inj h)
    rw [q.1, q.2]
  | _ => cases h
theorem len_rounds : roundsL.length = 64 := by kernel_rfl
theorem rounds_ints : (roundsL.all fun v => match v with | .int _ _ => true | _ => false) = true := by kernel_rfl
theorem nice_rounds (n : Nat) : ∀ v ∈ roundsL, clean n v = v := by
  intro v hv
  have h := rounds_ints
  rw [List.all_eq_true] at h
  have h := h v hv
  cases v with
  | int k m => exact clean_nice rfl
  | _ => cases h
theorem rounds_clean (n : Nat) : roundsL.map (clean n) = roundsL := by
  rw [List.map_congr_left (nice_rounds n), List.map_id']
/-- What a table of 64 words that reads as the digest's words holds. -/
theorem rounds_cells {W : World} {fuel : Nat} {cs : List Value} {p : List MemPlace} {d : DataW Unit} (hd : d = .agg (roundsL.map litOf)) (h : DataW.trod (fun _ => ()) Tryd.prog W 0 (fun _ => true) false fuel 175 cs = some (d, p)) : cs = roundsL := by
  subst hd
  obtain ⟨xs, m, rfl, hx, hl, hxl, hf⟩ := DataW.trod_array Tryd.underlying175 h
  have h175 : Tryd.prog.cellsOf 175 = 64 := by kernel_rfl
  have h174 : Tryd.prog.cellsOf 174 = 1 := by kernel_rfl
  rw [h175] at hl
  have hx := congrArg Prod.fst hx
  have hx : (DataW.agg (roundsL.map litOf) : DataW Unit) = .agg (xs.map (·.1)) := hx
  have hx := DataW.agg.inj hx
  refine List.ext_getElem? fun j => ?_
  by_cases hj : j < 64
  · have e := hf j hj
    rw [List.getElem?_eq_getElem (by omega), h174, Nat.mul_one] at e
    obtain ⟨n, e1, e2, _⟩ := DataW.trod_int Tryd.underlying174 e
    have q : (roundsL.map (litOf (H := Unit)))[j]? = (xs.map (·.1))[j]? := by rw [hx]
    rw [List.getElem?_map, List.getElem?_map, List.getElem?_eq_getElem (by rw [len_rounds]; exact hj), List.getElem?_eq_getElem (by omega), e2] at q
    have q := litOf_inj (Option.some.inj q)
    have e3 : ((cs.drop j).take 1)[0]? = some (.int .u32 n) := by rw [e1]; rfl
    rw [List.getElem?_take, if_pos (by decide), List.getElem?_drop, Nat.add_zero] at e3
    rw [e3, List.getElem?_eq_getElem (by rw [len_rounds]; exact hj), q]
  · rw [List.getElem?_eq_none (by omega), List.getElem?_eq_none (by rw [len_rounds]; omega)]
end Go.Proofs.YtdnahgfgoajmcaaDoor

namespace Go.Proofs.YtdnahgfgoajmcaaDoor
open Go Go.Abs
theorem eq35 : EqT 35 digK := by
  intro xs ys hx hy
  obtain ⟨r, h1, h2⟩ := dig_run (d := 9998) hx hy
  exact ⟨r, h1, bin_agg (by kernel_rfl) (ground_agg hx.all.2.2) (ground_agg hy.all.2.2) h2⟩
end Go.Proofs.YtdnahgfgoajmcaaDoor

namespace Go.Proofs.YtdnahgfgoajmcaaDoor
open Go Go.Abs
theorem add3 {a b : Nat} (h : a + b ≤ 9223372036854775807) : bin Tryd.prog .add 3 (i64n a) (.int .i64 (b : Int)) = some (i64n (a + b)) := by
  unfold i64n; rw [bin_add, wrap_i64 (by omega) (by omega), Int.natCast_add]
theorem add31 {a : Nat} (h : a + 1 ≤ 9223372036854775807) : bin Tryd.prog .add 3 (i64n a) (.int .i64 1) = some (i64n (a + 1)) := add3 h
theorem lss3 (a b : Nat) : bin Tryd.prog .lss 3 (i64n a) (i64n b) = some (.bool (decide (a < b))) := by
  rw [bin_lss]
  congr 2
  by_cases e : a < b
  · rw [decide_eq_true e, decide_eq_true (by omega)]
  · rw [decide_eq_false e, decide_eq_false (by omega)]
end Go.Proofs.YtdnahgfgoajmcaaDoor

namespace Go.Proofs.YtdnahgfgoajmcaaDoor
open Go Go.Abs
section
theorem OwnC.empty (h : Heap) {N size b : Nat} (hb : N ≤ b) : OwnC h N size (.slice (some ⟨b, 0, none⟩) 0 0) 0 [] := ⟨by simp, rfl, rfl, .inr ⟨b, none, rfl, hb, .inl ⟨rfl, rfl⟩⟩⟩
theorem OwnC.base {h : Heap} {N size : Nat} {v : Value} {len : Nat} {cells : List Value} (o : OwnC h N size v len cells) {b : Nat} (hb : baseOf v = some b) : N ≤ b := by
  obtain ⟨_, _, _, ⟨rfl, _⟩ | ⟨b', s, rfl, h5, _⟩⟩ := o
  · cases hb
  · cases hb; exact h5
end
section
theorem byte_at {h : Heap} {a : Option Addr} {n c i : Nat} {l : List Nat} (e : sliceBytes a n h = some l) (hi : i < n) : ∃ b p, a.map (·.block) = some b ∧ idxS 1 (.slice a n c) (i64n i) = some (ptr b p) ∧ ld1 (ptr b p) h = some (u8 (l.getD i 0), h) := by
  obtain ⟨h1, h2, h3⟩ := sliceBytes_spec e
  obtain ⟨b, off, s, k, rfl, hk, hlen, hc⟩ := h3 (by omega)
  refine ⟨b, off + i, rfl, ?_, ld1_at hk (hc i hi) rfl⟩
  unfold idxS
  simp only []
  rw [if_pos (by omega), Int.toNat_natCast, Nat.mul_one]
end
section
end
section
theorem is96 : IsFn Tryd.prog 96 Tryd.f96 := ⟨by kernel_rfl, by kernel_rfl, by kernel_rfl, by kernel_rfl⟩
theorem b96_exit (C : CallF) (e : Env) (h : Heap) : b96_4 C 0 e h = k96_2 C e h := rfl
/-- A byte is appended. -/
theorem app_lit {g : Heap} {N x : Nat} {v : Value} {l : List Nat} (o : OwnB g N v l) (h0 : g.n0 ≤ N) (hN : N ≤ g.next) (hx : x < 256) (hl : l.length ≤ 1000000) :
    ∃ v' g', appendA 1 1 v (.slice (some ⟨g.next, 0, none⟩) 1 1) (g.alloc [u8 x]) = some (v', g') ∧ OwnB g' N v' (l ++ [x]) ∧ Kept g g' (fun c => baseOf v = some c) := by
  have ka : Old g (g.alloc [u8 x]) := Kept.alloc _ _ _
  obtain ⟨v', g', e1, e2, e3, _⟩ := append_ownB (c := 1) (o.keep ka (fun _ _ h => h)) (by rw [ka.n0]; exact h0) (Nat.le_trans hN ka.next) (bytes1 g hx) (by omega)
  exact ⟨v', g', e1, e2, (ka.mono (fun _ _ h => h.elim)).also e3 (fun _ _ h => h)⟩
/-- Number. -/
theorem r96 (h : Heap) (hG : 4 ≤ h.n0) {n k : Nat} (h1 : 1 ≤ k) (hk : k ≤ 8) (_hn : n < 18446744073709551616) : ∃ v h', CW 96 [.int .u64 (n : Int), i64n k] h = some (v, h') ∧ OwnB h' h.next v (beB k n) ∧ Old h h' := by
  have oA : Old h (h.alloc []) := Kept.alloc _ _ _
  have nA : (h.alloc []).next = h.next + 1 := Heap.next_alloc ..
  have own0 : OwnB (h.alloc []) h.next (.slice (some ⟨h.next, 0, none⟩) 0 0) [] := ⟨OwnC.empty _ (Nat.le_refl _), by simp⟩
  have hn0 := h.n0_le_next
  have hsub : bin Tryd.prog .sub 3 (i64n k) (.int .i64 1) = some (.int .i64 ((k : Int) - 1)) := by
    unfold i64n
    rw [bin_sub, wrap_i64 (by omega) (by omega)]
  have key : ∀ o, t96 CW (.int .u64 (n : Int)) (i64n k) h = o → ∃ v h', o = some (v, h') ∧ OwnB h' h.next v (beB k n) ∧ Old h h' := by
    intro o ho
    subst ho
    unfold t96
    simp -implicitDefEqProofs only [thenV_some, bsl_bytes, hsub, pu_some]
    refine endL_fin (n := 24) (fin := fun ex y g => ex = .exit 0 ∧ OwnB g h.next (y 5) (beB k n) ∧ Old h g) (Q := fun o : Out => ∃ v h', o = some (v, h') ∧ OwnB h' h.next v (beB k n) ∧ Old h h')
      (loop_fin (t96l96_11010_eq CW) (Inv := fun m y g => m ≤ k ∧ y 0 = .int .u64 (n : Int) ∧ y 6 = .int .i64 ((m : Int) - 1) ∧ Old h g ∧ ∃ cur, OwnB g h.next (y 5) cur ∧ cur ++ beB m n = beB k n) ?_ k (by have : rounds = 18446744073709551616 := rfl; omega)
        ⟨Nat.le_refl _, rfl, rfl, oA, [], own0, rfl⟩) ?_
    · rintro m y g ⟨hm, y0, y6, old, cur, own, hcur⟩
      have hclen : cur.length + m = k := by
        have := congrArg List.length hcur
        simpa [beB_length] using this
      unfold t96l96_11010
      simp -implicitDefEqProofs only [y6, thenV_some, bin_geq, pu_some]
      by_cases hz : m = 0
      · subst hz
        have hd : decide ((((0 : Nat) : Int) - 1) ≥ 0) = false := by decide
        simp -implicitDefEqProofs only [hd]
        have : cur = beB k n := by simpa [beB] using hcur
        exact Rnd.out 0 ⟨rfl, this ▸ own, old⟩
      · obtain ⟨q, rfl⟩ : ∃ q, m = q + 1 := ⟨m - 1, by omega⟩
        have hd : decide ((((q + 1 : Nat) : Int) - 1) ≥ 0) = true := decide_eq_true (by omega)
        have hcu : IntKind.wrap .u64 (((q + 1 : Nat) : Int) - 1) = ((q : Nat) : Int) := by
          rw [wrap_u64 (by omega) (by omega)]; omega
        have hm8 : bin Tryd.prog .mul 111 (.int .u64 8) (.int .u64 ((q : Nat) : Int)) = some (.int .u64 ((8 * q : Nat) : Int)) := by
          rw [bin_mul, wrap_u64 (by omega) (by omega)]
          exact congrArg (fun z => some (Value.int .u64 z)) (by omega)
        have hsh : bin Tryd.prog .shr 32 (.int .u64 (n : Int)) (.int .u64 ((8 * q : Nat) : Int)) = some (.int .u64 ((n / 256 ^ q : Nat) : Int)) := by
          rw [bin_shr_nat Tryd.prog 32 (k := .u64) (k' := .u64) (b := 8 * q) (by show 8 * q ≤ 64; omega)]
          rw [show (2 : Nat) ^ (8 * q) = 256 ^ q by rw [Nat.pow_mul]]
        have hcv : IntKind.wrap .u8 ((n / 256 ^ q : Nat) : Int) = ((n / 256 ^ q % 256 : Nat) : Int) := by
          rw [wrap_u8_mod]; omega
        have hlt8 : n / 256 ^ q % 256 < 256 := Nat.mod_lt _ (by decide)
        generalize hx : n / 256 ^ q % 256 = x at *
        obtain ⟨v', g', e1, e2, e3⟩ := app_lit own (by rw [old.n0]; exact hn0) old.next hlt8 (by omega)
        have hsub2 : bin Tryd.prog .sub 3 (.int .i64 (((q + 1 : Nat) : Int) - 1)) (.int .i64 1) = some (.int .i64 ((q : Int) - 1)) := by
          rw [bin_sub, wrap_i64 (by omega) (by omega)]
          exact congrArg (fun z => some (Value.int .i64 z)) (by omega)
        simp -implicitDefEqProofs only [hd, y0, thenV_some, pu_some, cvI_int, hcu, hm8, hsh, hcv]
        rw [show (Value.int .u8 (x : Int)) = u8 x from rfl, bsl1]
        simp -implicitDefEqProofs only [thenV_some, e1, hsub2, pu_some]
        refine Rnd.next q (by omega) ⟨by omega, y0, rfl, old.also e3 (fun c hc hb => by have := own.own.base hb; omega), cur ++ [x], e2, ?_⟩
        rw [← hcur, beB, hx, List.append_assoc]; rfl
    · rintro ex z g ⟨rfl, own, old⟩
      simp -implicitDefEqProofs only [endL_exit, b96_exit, t96k96_2_eq]
      unfold t96k96_2
      exact ⟨_, g, rfl, own, old⟩
  obtain ⟨v, h', e, o⟩ := key _ rfl
  exact ⟨v, h', CW_body is96 hG rfl ((t96_eq _ _ _ _).trans e), o⟩
end
end Go.Proofs.YtdnahgfgoajmcaaDoor

namespace Go.Proofs.YtdnahgfgoajmcaaDoor
open Go Go.Abs
attribute [local congr] thenV_congr
end Go.Proofs.YtdnahgfgoajmcaaDoor

namespace Go.Proofs.YtdnahgfgoajmcaaDoor
open Go Go.Abs
attribute [local congr] thenV_congr
theorem byte_rd {a : Option Addr} {n c i : Nat} {h : Heap} {l : List Nat} (e : sliceBytes a n h = some l) (hi : i < n) : ∃ pt, idxS 1 (.slice a n c) (i64n i) = some pt ∧ ∀ h', Old h h' → ld1 pt h' = some (.int .u8 ((l.getD i 0 : Nat) : Int), h') := by
  obtain ⟨b, off, s, k, rfl, hk, _, hc⟩ := (sliceBytes_spec e).2.2 (by omega)
  refine ⟨ptr b (off + i), ?_, fun h' o => ld1_at (Old.get o hk) (hc i hi) rfl⟩
  unfold idxS
  simp only []
  rw [if_pos (by omega), Int.toNat_natCast, Nat.mul_one]
end Go.Proofs.YtdnahgfgoajmcaaDoor

namespace Go.Proofs.YtdnahgfgoajmcaaDoor
open Go Go.Abs
theorem drop_one {l : List Nat} {i : Nat} (h : i < l.length) : (l.drop i).take 1 = [l.getD i 0] := by
  rw [List.getD_eq_getElem?_getD, List.getElem?_eq_getElem h, List.drop_eq_getElem_cons h]
  rfl
end Go.Proofs.YtdnahgfgoajmcaaDoor

namespace Go.Proofs.YtdnahgfgoajmcaaDoor
open Go Go.Abs
attribute [local congr] thenV_congr
theorem be_one (x : Nat) : be [x] = x := by unfold be; simp
end Go.Proofs.YtdnahgfgoajmcaaDoor

namespace Go.Proofs.YtdnahgfgoajmcaaDoor
open Go Go.Abs
attribute [local congr] thenV_congr
/-- The reference's zero digest, a package variable. -/
def GZ (h : Heap) : Prop := h.get 0 = some (u8s z32)
theorem GZ.old {h h' : Heap} (x : GZ h) (o : Old h h') : GZ h' := Old.get o x
theorem GZ.ld {h : Heap} (x : GZ h) : ldN 32 (ptr 0 0) h = some (.agg (u8s z32).toArray, h) := ldN_all x rfl (u8s_ok _).1
def personB (r : RecD) : Bool := decide (r.holder ≥ 0) && decide (r.holder ≤ 15) && decide ((r.inc : Int) ≥ 1)
def bareB (r : RecD) : Bool := ((r.num : Int) == 0) && (!r.held) && (r.k == 0) && (r.n == 0)
theorem person_seg {h : Heap} {b : Nat} {r : RecD} (A : RLd h b r) (K : Value → Heap → Out) :
  (
  thenV (pu (addP (ptr b 0) 33) h) fun y5 h =>
  thenV (ld1 y5 h) fun y6 h =>
  thenV (pu (bin Tryd.prog .geq 3 y6 (.int .i64 0)) h) fun y7 h =>
  thenV (some (y7, h)) fun y8 h =>
  thenV (guardK (bOf y8 == some true) (pu (addP (ptr b 0) 33) h) h) fun y9 h =>
  thenV (guardK (bOf y8 == some true) (ld1 y9 h) h) fun y10 h =>
  thenV (guardK (bOf y8 == some true) (pu (bin Tryd.prog .leq 3 y10 (.int .i64 15)) h) h) fun y11 h =>
  thenV (match y8 with | .bool t => some (if t then y11 else (.bool false), h) | _ => none) fun y12 h =>
  thenV (some (y12, h)) fun y13 h =>
  thenV (guardK (bOf y13 == some true) (pu (addP (ptr b 0) 34) h) h) fun y14 h =>
  thenV (guardK (bOf y13 == some true) (ld1 y14 h) h) fun y15 h =>
  thenV (guardK (bOf y13 == some true) (pu (bin Tryd.prog .geq 32 y15 (.int .u64 1)) h) h) fun y16 h =>
  thenV (match y13 with | .bool t => some (if t then y16 else (.bool false), h) | _ => none) fun y17 h =>
  thenV (some (y17, h)) fun y3 h =>
  K y3 h) = K (.bool (personB r)) h := by
  unfold personB
  cases q0 : decide (r.holder ≥ 0) with
  | false => simp -implicitDefEqProofs only [A.l33, thenV_some, pu_some, bOf_bool, fs, guardK_false, Bool.false_eq_true, if_false, addP_ptr, Nat.zero_add, bin_geq, q0, Bool.false_and]
  | true =>
  cases q1 : decide (r.holder ≤ 15) with
  | false => simp -implicitDefEqProofs only [A.l33, thenV_some, pu_some, bOf_bool, fs, beq_self_eq_true, guardK_true, guardK_false, Bool.false_eq_true, if_false, if_true, addP_ptr, Nat.zero_add, bin_geq, bin_leq, q0, q1, Bool.and_false, Bool.false_and]
  | true =>
  cases q2 : decide ((r.inc : Int) ≥ 1) with
  | false => simp -implicitDefEqProofs only [A.l33, A.l34, thenV_some, pu_some, bOf_bool, beq_self_eq_true, guardK_true, if_true, addP_ptr, Nat.zero_add, bin_geq, bin_leq, q0, q1, q2, Bool.and_true, Bool.and_false]
  | true =>
  simp -implicitDefEqProofs only [A.l33, A.l34, thenV_some, pu_some, bOf_bool, beq_self_eq_true, guardK_true, if_true, addP_ptr, Nat.zero_add, bin_geq, bin_leq, q0, q1, q2, Bool.and_true]
theorem bare_seg {h : Heap} {b : Nat} {r : RecD} (A : RLd h b r) (K : Value → Heap → Out) :
  (
  thenV (pu (addP (ptr b 0) 35) h) fun y18 h =>
  thenV (ld1 y18 h) fun y19 h =>
  thenV (pu (bin Tryd.prog .eql 32 y19 (.int .u64 0)) h) fun y20 h =>
  thenV (some (y20, h)) fun y21 h =>
  thenV (guardK (bOf y21 == some true) (pu (addP (ptr b 0) 36) h) h) fun y22 h =>
  thenV (guardK (bOf y21 == some true) (ld1 y22 h) h) fun y23 h =>
  thenV (guardK (bOf y21 == some true) (pu (unA .not y23) h) h) fun y24 h =>
  thenV (match y21 with | .bool t => some (if t then y24 else (.bool false), h) | _ => none) fun y25 h =>
  thenV (some (y25, h)) fun y26 h =>
  thenV (guardK (bOf y26 == some true) (pu (addP (ptr b 0) 37) h) h) fun y27 h =>
  thenV (guardK (bOf y26 == some true) (ld1 y27 h) h) fun y28 h =>
  thenV (guardK (bOf y26 == some true) (pu (bin Tryd.prog .eql 3 y28 (.int .i64 0)) h) h) fun y29 h =>
  thenV (match y26 with | .bool t => some (if t then y29 else (.bool false), h) | _ => none) fun y30 h =>
  thenV (some (y30, h)) fun y31 h =>
  thenV (guardK (bOf y31 == some true) (pu (addP (ptr b 0) 38) h) h) fun y32 h =>
  thenV (guardK (bOf y31 == some true) (ld1 y32 h) h) fun y33 h =>
  thenV (guardK (bOf y31 == some true) (pu (bin Tryd.prog .eql 3 y33 (.int .i64 0)) h) h) fun y34 h =>
  thenV (match y31 with | .bool t => some (if t then y34 else (.bool false), h) | _ => none) fun y35 h =>
  thenV (some (y35, h)) fun y4 h =>
  K y4 h) = K (.bool (bareB r)) h := by
  unfold bareB
  cases q0 : ((r.num : Int) == 0) with
  | false => simp -implicitDefEqProofs only [A.l35, thenV_some, pu_some, bOf_bool, fs, guardK_false, Bool.false_eq_true, if_false, addP_ptr, Nat.zero_add, bin_eql, q0, Bool.false_and]
  | true =>
  cases q1 : (!r.held) with
  | false => simp -implicitDefEqProofs only [A.l35, A.l36, thenV_some, pu_some, bOf_bool, fs, beq_self_eq_true, guardK_true, guardK_false, Bool.false_eq_true, if_false, if_true, addP_ptr, Nat.zero_add, unA_not, bin_eql, q0, q1, Bool.and_false, Bool.false_and]
  | true =>
  cases q2 : (r.k == 0) with
  | false => simp -implicitDefEqProofs only [A.l35, A.l36, A.l37, thenV_some, pu_some, bOf_bool, fs, beq_self_eq_true, guardK_true, guardK_false, Bool.false_eq_true, if_false, if_true, addP_ptr, Nat.zero_add, unA_not, bin_eql, q0, q1, q2, Bool.and_true, Bool.and_false, Bool.false_and]
  | true =>
  cases q3 : (r.n == 0) with
  | false => simp -implicitDefEqProofs only [A.l35, A.l36, A.l37, A.l38, thenV_some, pu_some, bOf_bool, beq_self_eq_true, guardK_true, if_true, addP_ptr, Nat.zero_add, unA_not, bin_eql, q0, q1, q2, q3, Bool.and_true, Bool.and_false]
  | true =>
  simp -implicitDefEqProofs only [A.l35, A.l36, A.l37, A.l38, thenV_some, pu_some, bOf_bool, beq_self_eq_true, guardK_true, if_true, addP_ptr, Nat.zero_add, unA_not, bin_eql, q0, q1, q2, q3, Bool.and_true]
/-- What the reference asks of a record. -/
def recR (r : RecD) : Bool := if (r.kind : Int) == 1 then personB r && bareB r && decide (r.obj = z32) else if (r.kind : Int) == 2 then bareB r && (r.holder == 0) && ((r.inc : Int) == 0) else if (r.kind : Int) == 3 then personB r && decide ((r.num : Int) ≥ 1) && decide (1 ≤ r.k) && decide (r.k ≤ r.n) && decide (r.n ≤ 255) else false
theorem person_holder (r : RecD) : personB r = holderB r := by
  unfold personB holderB
  congr 2
  exact decide_eq_decide.2 (by omega)
theorem bare_spec (r : RecD) : bareB r = true ↔ r.num = 0 ∧ r.held = false ∧ r.k = 0 ∧ r.n = 0 := by
  unfold bareB
  simp only [Bool.and_eq_true, beq_iff_eq, Bool.not_eq_true']
  constructor
  · rintro ⟨⟨⟨h1, h2⟩, h3⟩, h4⟩
    exact ⟨by omega, h2, h3, h4⟩
  · rintro ⟨h1, h2, h3, h4⟩
    exact ⟨⟨⟨by omega, h2⟩, h3⟩, h4⟩
theorem recR_eq (r : RecD) : recR r = recB r := by
  unfold recR recB pieceB
  rw [person_holder]
  split
  · rw [Bool.eq_iff_iff]
    simp only [Bool.and_eq_true, decide_eq_true_eq, bare_spec]
    constructor
    · rintro ⟨⟨h1, h2, h3, h4, h5⟩, h6⟩
      refine ⟨?_, h1⟩
      unfold RecD.base RecD.z
      exact RecD.ext rfl h6 rfl rfl h2 h3 h4 h5
    · rintro ⟨h1, h2⟩
      refine ⟨⟨h2, ?_⟩, ?_⟩
      · rw [h1]; exact ⟨rfl, rfl, rfl, rfl⟩
      · rw [h1]; rfl
  split
  · rw [Bool.eq_iff_iff]
    simp only [Bool.and_eq_true, decide_eq_true_eq, bare_spec, beq_iff_eq]
    constructor
    · rintro ⟨⟨⟨h2, h3, h4, h5⟩, h6⟩, h7⟩
      unfold RecD.grave RecD.z
      exact RecD.ext rfl rfl h6 (by show r.inc = 0; omega) h2 h3 h4 h5
    · intro h1
      refine ⟨⟨?_, ?_⟩, ?_⟩
      · rw [h1]; exact ⟨rfl, rfl, rfl, rfl⟩
      · rw [h1]; rfl
      · rw [h1]; rfl
  · rfl
theorem is48 : IsFn Tryd.prog 48 Tryd.f48 := ⟨by kernel_rfl, by kernel_rfl, by kernel_rfl, by kernel_rfl⟩
set_option maxRecDepth 100000 in
/-- Valid, of a record -/
theorem r48 {h : Heap} (hG : 4 ≤ h.n0) (hz : GZ h) {r : RecD} (w : r.Wf) : ∃ h', CW 48 [.agg (recC r).toArray] h = some (.bool (recB r), h') ∧ Old h h' := by
  obtain ⟨h1, b1, o1, A⟩ := rec_box h w
  have z1 := (hz.old o1).ld
  obtain ⟨q, hq, e28, _⟩ := eq35 (u8s r.obj) (u8s z32) (dig_typed w.obj) (dig_typed z32_ok)
  have hq : q = decide (r.obj = z32) := by
    by_cases e : r.obj = z32
    · rw [decide_eq_true e, hq.2 (by rw [e])]
    · rw [decide_eq_false e]
      cases q with
      | false => rfl
      | true => exact absurd (u8s_inj (hq.1 rfl)) e
  rw [hq] at e28
  refine ⟨h1, CW_body is48 hG rfl ((t48_eq _ _ _).trans ?_), o1⟩
  rw [← recR_eq]
  unfold t48
  rw [b1, thenV_some, thenV_some]
  refine (person_seg A _).trans ?_
  refine (bare_seg A _).trans ?_
  unfold recR
  cases k1 : (r.kind : Int) == 1 with
  | true =>
    rw [if_pos rfl]
    cases q0 : personB r with
    | false => simp -implicitDefEqProofs only [A.l0, k1, thenV_some, pu_some, bOf_bool, fs, guardK_false, Bool.false_eq_true, if_false, addP_ptr, Nat.zero_add, bin_eql, Bool.false_and]
    | true =>
    cases q1 : bareB r with
    | false => simp -implicitDefEqProofs only [A.l0, k1, thenV_some, pu_some, bOf_bool, fs, beq_self_eq_true, guardK_true, guardK_false, Bool.false_eq_true, if_false, if_true, addP_ptr, Nat.zero_add, bin_eql, Bool.and_false, Bool.false_and]
    | true =>
    simp -implicitDefEqProofs only [A.l0, A.l1, k1, z1, e28, thenV_some, pu_some, bOf_bool, beq_self_eq_true, guardK_true, if_true, addP_ptr, Nat.zero_add, bin_eql, Bool.and_true, Bool.true_and]
  | false =>
  rw [if_neg (by decide)]
  cases k2 : (r.kind : Int) == 2 with
  | true =>
    rw [if_pos rfl]
    cases q0 : bareB r with
    | false => simp -implicitDefEqProofs only [A.l0, k1, k2, thenV_some, pu_some, bOf_bool, fs, guardK_false, Bool.false_eq_true, if_false, addP_ptr, Nat.zero_add, bin_eql, Bool.false_and]
    | true =>
    cases q1 : (r.holder == 0) with
    | false => simp -implicitDefEqProofs only [A.l0, A.l33, k1, k2, thenV_some, pu_some, bOf_bool, fs, beq_self_eq_true, guardK_true, guardK_false, Bool.false_eq_true, if_false, if_true, addP_ptr, Nat.zero_add, bin_eql, q1, Bool.and_false, Bool.false_and]
    | true =>
    simp -implicitDefEqProofs only [A.l0, A.l33, A.l34, k1, k2, thenV_some, pu_some, bOf_bool, beq_self_eq_true, guardK_true, if_true, addP_ptr, Nat.zero_add, bin_eql, q1, Bool.and_true, Bool.true_and]
  | false =>
  rw [if_neg (by decide)]
  cases k3 : (r.kind : Int) == 3 with
  | true =>
    rw [if_pos rfl]
    cases q0 : personB r with
    | false => simp -implicitDefEqProofs only [A.l0, k1, k2, k3, thenV_some, pu_some, bOf_bool, fs, guardK_false, Bool.false_eq_true, if_false, addP_ptr, Nat.zero_add, bin_eql, Bool.false_and]
    | true =>
    cases q1 : decide ((r.num : Int) ≥ 1) with
    | false => simp -implicitDefEqProofs only [A.l0, A.l35, k1, k2, k3, thenV_some, pu_some, bOf_bool, fs, beq_self_eq_true, guardK_true, guardK_false, Bool.false_eq_true, if_false, if_true, addP_ptr, Nat.zero_add, bin_geq, bin_eql, q1, Bool.and_false, Bool.false_and]
    | true =>
    cases q2 : decide (1 ≤ r.k) with
    | false => simp -implicitDefEqProofs only [A.l0, A.l35, A.l37, k1, k2, k3, thenV_some, pu_some, bOf_bool, fs, beq_self_eq_true, guardK_true, guardK_false, Bool.false_eq_true, if_false, if_true, addP_ptr, Nat.zero_add, bin_geq, bin_leq, bin_eql, q1, q2, Bool.and_true, Bool.and_false, Bool.false_and]
    | true =>
    cases q3 : decide (r.k ≤ r.n) with
    | false => simp -implicitDefEqProofs only [A.l0, A.l35, A.l37, A.l38, k1, k2, k3, thenV_some, pu_some, bOf_bool, fs, beq_self_eq_true, guardK_true, guardK_false, Bool.false_eq_true, if_false, if_true, addP_ptr, Nat.zero_add, bin_geq, bin_leq, bin_eql, q1, q2, q3, Bool.and_true, Bool.and_false, Bool.false_and]
    | true =>
    cases q4 : decide (r.n ≤ 255) with
    | false => simp -implicitDefEqProofs only [A.l0, A.l35, A.l37, A.l38, k1, k2, k3, thenV_some, pu_some, bOf_bool, beq_self_eq_true, guardK_true, if_true, addP_ptr, Nat.zero_add, bin_geq, bin_leq, bin_eql, q1, q2, q3, q4, Bool.and_true, Bool.and_false]
    | true =>
    simp -implicitDefEqProofs only [A.l0, A.l35, A.l37, A.l38, k1, k2, k3, thenV_some, pu_some, bOf_bool, beq_self_eq_true, guardK_true, if_true, addP_ptr, Nat.zero_add, bin_geq, bin_leq, bin_eql, q1, q2, q3, q4, Bool.and_true]
  | false =>
  rw [if_neg (by decide)]
  simp -implicitDefEqProofs only [A.l0, k1, k2, k3, thenV_some, pu_some, bOf_bool, addP_ptr, Nat.zero_add, bin_eql]
end Go.Proofs.YtdnahgfgoajmcaaDoor

namespace Go.Proofs.YtdnahgfgoajmcaaDoor
open Go Go.Abs
attribute [local congr] thenV_congr
theorem chkI (k : IntKind) (n : Int) (h : Heap) : chkR true (some (.int k n, h)) (.int k n) = true := by simp [chkR, same, veq]
theorem rec_fin {h0 h : Heap} {b : Nat} {k : Blk} {r : RecD} (w : r.Wf) (o : Old h0 h) (hb : h0.next ≤ b) (g : h.get b = some k) (hk : k.length = 39) : ∃ h', stN 39 (ptr b 0) (.agg (recC r).toArray) h = some (undef, h') ∧ ldN 39 (ptr b 0) h' = some (.agg (recC r).toArray, h') ∧ Old h0 h' := by
  have hn : h.n0 ≤ b := by rw [o.n0]; exact Nat.le_trans h0.n0_le_next hb
  have c := rec_cells w
  obtain ⟨h', e1, k1, g1, _, _⟩ := stored_all (n := 39) g hn hk c.1 c.2.2
  exact ⟨h', e1, ldN_all g1 c.1 c.2.1, Old.of_new o k1 hb⟩
/-- What OfBytes' pieces find. -/
structure E82 (h h1 : Heap) (a : Option Addr) (n c : Nat) (l : List Nat) (y : Nat → Value) : Prop where
  hG : 4 ≤ h.n0
  hz : GZ h
  hl : sliceBytes a n h = some l
  hg : 0 < l.length → goodS a n c = true
  o1 : Old h h1
  g1 : h1.get h.next = some Zr
  n1 : h1.next = h.next + 1
  y0 : y 0 = .slice a n c
  y2 : y 2 = ptr h.next 0
section
variable {h h1 : Heap} {a : Option Addr} {n c : Nat} {l : List Nat} {y : Nat → Value}
theorem E82.go (E : E82 h h1 a n c l y) {y' : Nat → Value} (e0 : y' 0 = y 0) (e2 : y' 2 = y 2) : E82 h h1 a n c l y' := ⟨E.hG, E.hz, E.hl, E.hg, E.o1, E.g1, E.n1, e0.trans E.y0, e2.trans E.y2⟩
/-- An early end. -/
theorem E82.zero (E : E82 h h1 a n c l y) : ∃ hz1, stN 39 (ptr h.next 0) (.agg (recC RecD.z).toArray) h1 = some (undef, hz1) ∧ ldN 39 (ptr h.next 0) hz1 = some (.agg (recC RecD.z).toArray, hz1) ∧ Old h hz1 := rec_fin RecD.z_wf E.o1 (Nat.le_refl _) E.g1 rfl
theorem E82.byte (E : E82 h h1 a n c l y) (h53 : l.length = 53) (i : Nat) (hi : i < 53) : ∃ pt, idxS 1 (.slice a n c) (i64n i) = some pt ∧ ld1 pt h1 = some (.int .u8 ((be ((l.drop i).take 1) : Nat) : Int), h1) := by
  have hlen := (sliceBytes_spec E.hl).1
  obtain ⟨pt, i1, i2⟩ := byte_rd (c := c) (i := i) E.hl (by omega)
  refine ⟨pt, i1, ?_⟩
  rw [drop_one (by omega), be_one]
  exact i2 h1 E.o1
end
end Go.Proofs.YtdnahgfgoajmcaaDoor

namespace Go.Proofs.YtdnahgfgoajmcaaDoor
open Go Go.Abs
attribute [local congr] thenV_congr
theorem bytesL (h : Heap) {l : List Nat} (hb : Bys l) : sliceBytes (some ⟨h.next, 0, none⟩) l.length (h.alloc (u8s l)) = some l := by
  have := sliceBytes_at (h := h.alloc (u8s l)) (b := h.next) (off := 0) (n := l.length) (s := none) (l := l) (by rw [Heap.get_alloc, if_pos rfl]) (by simp) hb
  rw [this, List.drop_zero, List.take_of_length_le (Nat.le_refl _)]
theorem OwnB.weak {h : Heap} {N M : Nat} {v : Value} {l : List Nat} (o : OwnB h N v l) (hM : M ≤ N) : OwnB h M v l := by
  obtain ⟨⟨h1, h2, h3, h4⟩, hb⟩ := o
  refine ⟨⟨h1, h2, h3, ?_⟩, hb⟩
  rcases h4 with h4 | ⟨b, s, e, h5, h6⟩
  · exact .inl h4
  · exact .inr ⟨b, s, e, by omega, h6⟩
/-- append, behind bytes that are no one's own. -/
theorem append_lit {h : Heap} {b off n k c : Nat} {a : Option Addr} {l m : List Nat} (hl : sliceBytes (some ⟨b, off, none⟩) n h = some l) (hm : sliceBytes a k h = some m) (hk : 0 < k) (hb : n + k ≤ 100000000) :
    ∃ v' h', appendA 1 1 (.slice (some ⟨b, off, none⟩) n n) (.slice a k c) h = some (v', h') ∧ OwnB h' h.next v' (l ++ m) ∧ Old h h' := by
  obtain ⟨l1, lb, _⟩ := sliceBytes_spec hl
  obtain ⟨m1, mb, _⟩ := sliceBytes_spec hm
  have f1 := firstA_of hl (Nat.le_refl n) (c := n)
  rw [List.take_of_length_le (by omega)] at f1
  have f2 := firstA_of hm (Nat.le_refl k) (c := c)
  rw [List.take_of_length_le (by omega)] at f2
  refine ⟨.slice (some ⟨h.next, 0, some 1⟩) (n + k) (n + k), h.alloc (u8s l ++ u8s m), ?_, ⟨⟨?_, ?_, ?_, .inr ⟨h.next, some 1, ?_, Nat.le_refl _, .inr ⟨rfl, ?_⟩⟩⟩, ?_⟩, Kept.alloc _ _ _⟩
  · unfold appendA
    simp only [show lenA (.slice a k c) = some k from rfl, f1, f2]
    have c1 : ((!(oneCells (m.map u8)) || !(decide ((n + k) * 1 ≤ 140737488355328)) || !(decide (n + k ≤ 4611686018427387904)) || decide ((m.map u8).length ≠ k * 1)) = true) ↔ False := by
      rw [one_u8, decide_eq_true (by omega), decide_eq_true (by omega), decide_eq_false (by simp; omega)]
      simp
    rw [if_neg (by rw [c1]; exact id), if_neg (by omega), if_neg (by simp; omega)]
  · simp
  · rw [List.map_append]; exact noHoles_append _ _ (noHoles_u8 _) (noHoles_u8 _)
  · rw [List.map_append]; exact oneCells_append _ _ (one_u8 _) (one_u8 _)
  · rw [List.length_append, l1, m1]
  · rw [Heap.get_alloc, if_pos rfl, List.map_append]
  · intro x hx
    rcases List.mem_append.1 hx with hx | hx
    · exact lb x hx
    · exact mb x hx
/-- Bytes are put behind one's own. -/
theorem app_sl {h0 g : Heap} {v : Value} {l m : List Nat} {a : Option Addr} {n c : Nat} (K : Old h0 g) (o : OwnB g h0.next v l) (hm : sliceBytes a n g = some m) (hb : l.length + n ≤ 100000000) : ∃ v' g2, appendA 1 1 v (.slice a n c) g = some (v', g2) ∧ OwnB g2 h0.next v' (l ++ m) ∧ Old h0 g2 := by
  obtain ⟨v', g2, e1, e2, k, _⟩ := append_ownB o (by rw [K.n0]; exact h0.n0_le_next) K.next hm hb (c := c)
  exact ⟨v', g2, e1, e2, K.also k (fun d hd e => by have := o.own.base e; omega)⟩
theorem app_own {h0 g g1 : Heap} {v w : Value} {l m : List Nat} {N : Nat} (K : Old h0 g) (o : OwnB g h0.next v l) (o1 : Old g g1) (ow : OwnB g1 N w m) (hb : l.length + m.length ≤ 100000000) : ∃ v' g2, appendA 1 1 v w g1 = some (v', g2) ∧ OwnB g2 h0.next v' (l ++ m) ∧ Old h0 g2 := by
  obtain ⟨a, c, rfl, s, _, _⟩ := ow.bytes
  exact app_sl (K.trans o1) (o.keep o1 (fun _ _ h => h)) s hb
theorem app_one {h0 g : Heap} {v : Value} {l : List Nat} {x : Nat} (K : Old h0 g) (o : OwnB g h0.next v l) (hx : x < 256) (hb : l.length + 1 ≤ 100000000) : ∃ v' g2, appendA 1 1 v (.slice (some ⟨g.next, 0, none⟩) 1 1) (g.alloc [u8 x]) = some (v', g2) ∧ OwnB g2 h0.next v' (l ++ [x]) ∧ Old h0 g2 := by
  have ka : Old g (g.alloc [u8 x]) := Kept.alloc _ _ _
  exact app_sl (c := 1) (K.trans ka) (o.keep ka (fun _ _ h => h)) (bytes1 g hx) hb
theorem beB1 {x : Nat} (h : x < 256) : beB 1 x = [x] := by simp [beB, Nat.mod_eq_of_lt h]
theorem is46 : IsFn Tryd.prog 46 Tryd.f46 := ⟨by kernel_rfl, by kernel_rfl, by kernel_rfl, by kernel_rfl⟩
theorem is97 : IsFn Tryd.prog 97 Tryd.f97 := ⟨by kernel_rfl, by kernel_rfl, by kernel_rfl, by kernel_rfl⟩
/-- bit -/
theorem r97 {h : Heap} (hG : 4 ≤ h.n0) (b : Bool) : CW 97 [.bool b] h = some (.int .u64 ((bit b : Nat) : Int), h) := by
  refine CW_body is97 hG rfl ((t97_eq _ _ _).trans ?_)
  unfold t97
  cases b <;> rfl
theorem cv8i (k : IntKind) (x : Int) (h : Heap) : cvI .u8 (.int k x) h = some (u8 (i8 x), h) := by rw [cvI_int, wrap_i8]
theorem chkU (x : Nat) (h : Heap) : chkR true (some (u8 x, h)) (u8 x) = true := chkI .u8 _ _
theorem enc3 (a b c : Nat) (ha : a < 256) (hb : b < 256) (hc : c < 256) : beB 1 a ++ (beB 1 b ++ beB 1 c) = [a, b, c] := by rw [beB1 ha, beB1 hb, beB1 hc]; rfl
theorem bsl3 (h : Heap) (x y z : Nat) : bslR 1 (.int .u8 0) 3 [(0, u8 x), (1, u8 y), (2, u8 z)] h = some (.slice (some ⟨h.next, 0, none⟩) 3 3, h.alloc (u8s [x, y, z])) := rfl
set_option maxRecDepth 100000 in
/-- Bytes, of a record -/
theorem r46 {h : Heap} (hG : 4 ≤ h.n0) (hz : GZ h) {r : RecD} (w : r.Wf) (hv : recB r = true) : ∃ v h', CW 46 [.agg (recC r).toArray] h = some (.tuple #[v, .int .i64 0], h') ∧ OwnB h' h.next v (encRec r) ∧ Old h h' := by
  have cr := rec_cells w
  have b1 : box (.agg (recC r).toArray) h = some (ptr h.next 0, h.alloc (recC r)) := box_at h _ cr.2.2
  have o1 : Old h (h.alloc (recC r)) := Kept.alloc _ _ _
  have g1 : (h.alloc (recC r)).get h.next = some (recC r) := by rw [Heap.get_alloc, if_pos rfl]
  have n1 : (h.alloc (recC r)).next = h.next + 1 := Heap.next_alloc ..
  generalize h.alloc (recC r) = h1 at *
  have L : ∀ g, Old h1 g → RLd g h.next r := fun g o => r_ld w (Old.get o g1)
  have A1 := L h1 (Kept.refl _ _)
  obtain ⟨h2, e2, o2⟩ := r48 (h := h1) (by rw [o1.n0]; exact hG) (hz.old o1) w
  rw [hv] at e2
  have A2 := L h2 o2
  have O2 := o1.trans o2
  have ha := arr32 h.next 1
  have hs2 : ∀ g, Old h1 g → sliceBytes (some ⟨h.next, 1, none⟩) 32 g = some r.obj := fun g o => by
    have := sliceBytes_mid (s := none) (Old.get o g1) (show recC r = [.int .u8 (r.kind : Int)] ++ (u8s r.obj ++ [.int .i64 r.holder, .int .u64 (r.inc : Int), .int .u64 (r.num : Int), .bool r.held, .int .i64 r.k, .int .i64 r.n]) from rfl) rfl w.obj.2
    rw [w.obj.1] at this
    exact this
  have b3 := bsl1 h2 r.kind
  have ka : Old h2 (h2.alloc [u8 r.kind]) := Kept.alloc _ _ _
  obtain ⟨v4, h4, e4, O4, k4⟩ := append_lit (c := 32) (bytes1 h2 w.kind) (hs2 _ (o2.trans ka)) (by decide) (by decide)
  have K4 := (o2.trans ka).trans k4
  have O4 := O4.weak (M := h1.next) (Nat.le_trans o2.next ka.next)
  have A4 := L h4 K4
  have cv1 := cv8i .i64 r.holder h4
  have b5 := bsl1 h4 (i8 r.holder)
  obtain ⟨v5, h5, e5, O5, K5⟩ := app_one (h0 := h1) K4 O4 (i8_lt r.holder) (by simp [w.obj.1])
  have A5 := L h5 K5
  have G5 : 4 ≤ h5.n0 := by rw [K5.n0, o1.n0]; exact hG
  obtain ⟨w6, h6, e6, W6, k6⟩ := r96 h5 G5 (n := r.inc) (k := 8) (by decide) (by decide) w.inc
  have e6 : CW 96 [.int .u64 (r.inc : Int), .int .i64 8] h5 = _ := e6
  obtain ⟨v7, h7, e7, O7, K7⟩ := app_own K5 O5 k6 W6 (by simp [w.obj.1, beB_length])
  have A6 := L h6 (K5.trans k6)
  have A7 := L h7 K7
  have G7 : 4 ≤ h7.n0 := by rw [K7.n0, o1.n0]; exact hG
  obtain ⟨w8, h8, e8, W8, k8⟩ := r96 h7 G7 (n := r.num) (k := 8) (by decide) (by decide) w.num
  have e8 : CW 96 [.int .u64 (r.num : Int), .int .i64 8] h7 = _ := e8
  obtain ⟨v9, h9, e9, O9, K9⟩ := app_own K7 O7 k8 W8 (by simp [w.obj.1, beB_length])
  have A9 := L h9 K9
  have G9 : 4 ≤ h9.n0 := by rw [K9.n0, o1.n0]; exact hG
  have e10 := r97 G9 r.held
  have hbit := bit_lt r.held
  have cvb : cvI .u8 (.int .u64 ((bit r.held : Nat) : Int)) h9 = some (u8 (bit r.held), h9) := by rw [cvI_int, wrap_u8 (by omega) (by omega)]
  have cvk := cv8i .i64 r.k h9
  have cvn := cv8i .i64 r.n h9
  have b11 := bsl3 h9 (bit r.held) (i8 r.k) (i8 r.n)
  have ka9 : Old h9 (h9.alloc (u8s [bit r.held, i8 r.k, i8 r.n])) := Kept.alloc _ _ _
  have hb3 : Bys [bit r.held, i8 r.k, i8 r.n] := fun x hx => by
    simp only [List.mem_cons, List.not_mem_nil, or_false] at hx
    rcases hx with rfl | rfl | rfl
    · omega
    · exact i8_lt _
    · exact i8_lt _
  obtain ⟨v12, h12, e12, O12, K12⟩ := app_sl (c := 3) (K9.trans ka9) (O9.keep ka9 (fun _ _ h => h)) (bytesL h9 hb3) (by simp [w.obj.1, beB_length])
  have e12 : appendA 1 1 v9 (.slice (some ⟨h9.next, 0, none⟩) 3 3) (h9.alloc (u8s [bit r.held, i8 r.k, i8 r.n])) = some (v12, h12) := e12
  have cku1 := chkU (i8 r.k) h9
  have cku2 := chkU (i8 r.n) h9
  refine ⟨v12, h12, CW_body is46 hG rfl ((t46_eq _ _ _).trans ?_), ?_, o1.trans K12⟩
  · unfold t46
    simp -implicitDefEqProofs only [b1, A1.all, e2, A2.l0, ha, b3, e4, A4.l33, cv1, b5, e5, A5.l34, e6, e7, A7.l35, A5.l35, A6.l35, e8, e9, A9.l36, e10, cvb, A9.l37, A9.l38, cvk, cvn, b11, e12, chkI, cku1, cku2, thenV_some, pu_some, Bool.not_true, unA_not, Bool.and_true, Bool.and_self, addP_ptr, Nat.zero_add]
  · have O12 := O12.weak (M := h.next) (by omega)
    have ee : encRec r = ((((([r.kind] ++ r.obj) ++ [i8 r.holder]) ++ beB 8 r.inc) ++ beB 8 r.num) ++ [bit r.held, i8 r.k, i8 r.n]) := by
      unfold encRec
      rw [beB1 w.kind, beB1 (i8_lt _), enc3 _ _ _ (by omega) (i8_lt _) (i8_lt _)]
      simp only [List.append_assoc]
    rw [ee]
    exact O12
end Go.Proofs.YtdnahgfgoajmcaaDoor

namespace Go.Proofs.YtdnahgfgoajmcaaDoor
open Go Go.Abs
/-- A word, as a value. -/
def wv (x : BitVec 32) : Value := .int .u32 (x.toNat : Int)
section
variable {P : Program} {t : TypeId}
theorem w_add (x y : BitVec 32) : bin P .add t (wv x) (wv y) = some (wv (x + y)) := by
  unfold wv
  rw [bin_add, wrap_u32_mod, BitVec.toNat_add]
  congr 3
theorem w_xor (x y : BitVec 32) : bin P .xor t (wv x) (wv y) = some (wv (x ^^^ y)) := by
  unfold wv
  rw [bin_xor_nat P t rfl x.isLt y.isLt, BitVec.toNat_xor]
theorem w_and (x y : BitVec 32) : bin P .and t (wv x) (wv y) = some (wv (x &&& y)) := by
  unfold wv
  rw [bin_and_nat P t rfl x.isLt y.isLt, BitVec.toNat_and]
theorem w_or (x y : BitVec 32) : bin P .or t (wv x) (wv y) = some (wv (x ||| y)) := by
  unfold wv
  rw [bin_or_nat P t rfl x.isLt y.isLt, BitVec.toNat_or]
theorem w_shr (x : BitVec 32) {k : Nat} (hk : k ≤ 32) : bin P .shr t (wv x) (.int .u64 (k : Int)) = some (wv (x >>> k)) := by
  unfold wv
  rw [bin_shr_nat P t (by show k ≤ 32; exact hk), BitVec.toNat_ushiftRight, Nat.shiftRight_eq_div_pow]
theorem w_shl (x : BitVec 32) {k : Nat} (hk : k ≤ 32) : bin P .shl t (wv x) (.int .u64 (k : Int)) = some (wv (x <<< k)) := by
  unfold wv
  rw [bin_int]
  unfold binI
  simp only
  have hm : min ((k : Int)).toNat (IntKind.bits .u32) = k := by
    rw [Int.toNat_natCast]
    exact Nat.min_eq_left hk
  rw [if_neg (by omega), hm, wrap_u32_mod, BitVec.toNat_shiftLeft, Nat.shiftLeft_eq]
  congr 2
theorem w_not (x : BitVec 32) : unA .xor (wv x) = some (wv (~~~x)) := by
  unfold wv unA bitsA
  simp only
  have e1 : BitVec.ofInt (IntKind.bits .u32) (if IntKind.signed .u32 = true then -1 else IntKind.max .u32) = BitVec.allOnes 32 := by show BitVec.ofInt 32 4294967295 = _; rfl
  have e2 : BitVec.ofInt (IntKind.bits .u32) ((x.toNat : Nat) : Int) = x := by
    show BitVec.ofInt 32 _ = x
    rw [BitVec.ofInt_natCast, BitVec.ofNat_toNat, BitVec.setWidth_eq]
  rw [e1, e2]
  have e3 : (BitVec.allOnes 32 ^^^ x) = ~~~x := by
    rw [BitVec.allOnes_xor]
  show some (Value.int .u32 (IntKind.wrap .u32 (((BitVec.allOnes 32 ^^^ x).toNat : Nat) : Int))) = _
  rw [e3, wrap_u32 (by omega) (by have := (~~~x).isLt; omega)]
theorem w_byte (n : Nat) (hn : n < 256) (h : Heap) : cvI .u32 (u8 n) h = some (wv (BitVec.ofNat 32 n), h) := by
  unfold wv
  rw [cvI_int, wrap_u32 (by omega) (by omega), BitVec.toNat_ofNat, Nat.mod_eq_of_lt (by omega)]
end
/-- A word turned to the right. -/
def rotR (x : BitVec 32) (n : Nat) : BitVec 32 := (x <<< (32 - n)) ||| (x >>> n)
end Go.Proofs.YtdnahgfgoajmcaaDoor

namespace Go.Proofs.YtdnahgfgoajmcaaDoor
open Go Go.Abs
attribute [local congr] thenV_congr
theorem is159 : IsFn Tryd.prog 159 Tryd.f159 := ⟨by kernel_rfl, by kernel_rfl, by kernel_rfl, by kernel_rfl⟩
/-- RotateLeft32 by a number below zero. -/
theorem r159 {h : Heap} (hG : 4 ≤ h.n0) (x : BitVec 32) {k : Nat} (hk : k ≤ 32) {z : Int} (e : bin Tryd.prog .and 111 (.int .u64 (IntKind.wrap .u64 z)) (.int .u64 31) = some (.int .u64 ((32 - k : Nat) : Int))) : CW 159 [wv x, .int .i64 z] h = some (wv (rotR x k), h) := by
  refine CW_body is159 hG rfl ((t159_eq _ _ _ _).trans ?_)
  unfold t159
  have e2 : bin Tryd.prog .sub 111 (.int .u64 32) (.int .u64 ((32 - k : Nat) : Int)) = some (.int .u64 ((k : Nat) : Int)) := by
    rw [bin_sub, show (32 : Int) - ((32 - k : Nat) : Int) = (k : Int) by omega, wrap_u64 (by omega) (by omega)]
  simp -implicitDefEqProofs only [cvI_int, e, e2, w_shl x (show 32 - k ≤ 32 by omega), w_shr x hk, w_or, thenV_some, pu_some]
  rfl
/-- The word of four bytes. -/
def w4 (a b c d : Nat) : BitVec 32 := (BitVec.ofNat 32 a <<< 24) ||| (BitVec.ofNat 32 b <<< 16) ||| (BitVec.ofNat 32 c <<< 8) ||| BitVec.ofNat 32 d
def wAt (B : List Nat) (i : Nat) : BitVec 32 := w4 (B.getD (4 * i) 0) (B.getD (4 * i + 1) 0) (B.getD (4 * i + 2) 0) (B.getD (4 * i + 3) 0)
def sch0 (B : List Nat) : List (BitVec 32) := (List.range 16).map (wAt B)
def s0w (x : BitVec 32) : BitVec 32 := rotR x 7 ^^^ rotR x 18 ^^^ (x >>> 3)
def s1w (y : BitVec 32) : BitVec 32 := rotR y 17 ^^^ rotR y 19 ^^^ (y >>> 10)
def nextW (l : List (BitVec 32)) : BitVec 32 := l.getD (l.length - 16) 0 + s0w (l.getD (l.length - 15) 0) + l.getD (l.length - 7) 0 + s1w (l.getD (l.length - 2) 0)
def extW : Nat → List (BitVec 32) → List (BitVec 32)
  | 0, l => l
  | n + 1, l => extW n (l ++ [nextW l])
abbrev wvs (l : List (BitVec 32)) : List Value := l.map wv
/-- Words, and behind them zeros, in 64 cells. -/
def wTab (l : List (BitVec 32)) : List Value := wvs l ++ List.replicate (64 - l.length) (.int .u32 0)
theorem wTab_len {l : List (BitVec 32)} (h : l.length ≤ 64) : (wTab l).length = 64 := by unfold wTab; simp; omega
theorem wTab_set {l : List (BitVec 32)} {i : Nat} (hl : l.length = i) (hi : i < 64) (x : BitVec 32) : (wTab l).set i (wv x) = wTab (l ++ [x]) := by
  subst hl
  unfold wTab
  have e : 64 - l.length = (64 - (l.length + 1)) + 1 := by omega
  rw [e, List.replicate_succ]
  rw [set_app (A := wvs l) (B' := wv x :: List.replicate (64 - (l.length + 1)) (.int .u32 0)) 0 (by simp) rfl]
  simp
theorem wTab_at {l : List (BitVec 32)} {i : Nat} (hi : i < l.length) : (wTab l)[i]? = some (wv (l.getD i 0)) := by
  unfold wTab
  rw [List.getElem?_append_left (by simpa using hi), List.getElem?_map, List.getD_eq_getElem?_getD, List.getElem?_eq_getElem hi]
  rfl
/-- The cells of a Hash. -/
def hashC (S : List (BitVec 32)) (B : List Nat) (n : Nat) : List Value := wvs S ++ (u8s B ++ [i64n n])
theorem hash_byte {S : List (BitVec 32)} {B : List Nat} {n : Nat} (hS : S.length = 8) {j : Nat} (hj : j < B.length) : (hashC S B n)[8 + j]? = some (u8 (B.getD j 0)) := by
  unfold hashC
  rw [List.getElem?_append_right (by simp [hS]), List.length_map, hS, Nat.add_sub_cancel_left, List.getElem?_append_left (by simpa using hj), List.getElem?_map, List.getD_eq_getElem?_getD, List.getElem?_eq_getElem hj]
  rfl
theorem idxN {N b o i : Nat} (hi : i < N) : idxA N 1 (ptr b o) (i64n i) = some (ptr b (o + i)) := by
  unfold idxA
  simp only []
  rw [if_pos (by omega), Int.toNat_natCast, Nat.mul_one, addP_ptr]
theorem mul4 {i : Nat} (hi : i < 1000) : bin Tryd.prog .mul 3 (.int .i64 4) (i64n i) = some (i64n (4 * i)) := by
  unfold i64n
  rw [bin_mul, show (4 : Int) * (i : Int) = ((4 * i : Nat) : Int) by omega, wrap_i64 (by omega) (by omega)]
theorem addc {i c : Nat} (hi : i + c < 100000) : bin Tryd.prog .add 3 (i64n i) (.int .i64 (c : Int)) = some (i64n (i + c)) := by
  unfold i64n
  rw [bin_add, show (i : Int) + (c : Int) = ((i + c : Nat) : Int) by omega, wrap_i64 (by omega) (by omega)]
theorem subc {i c : Nat} (hi : i < 100000) (hc : c ≤ i) : bin Tryd.prog .sub 3 (i64n i) (.int .i64 (c : Int)) = some (i64n (i - c)) := by
  unfold i64n
  rw [bin_sub, show (i : Int) - (c : Int) = ((i - c : Nat) : Int) by omega, wrap_i64 (by omega) (by omega)]
theorem bys_getD {B : List Nat} (hB : Bys B) {j : Nat} (hj : j < B.length) : B.getD j 0 < 256 := by
  rw [List.getD_eq_getElem?_getD, List.getElem?_eq_getElem hj]
  exact hB _ (List.getElem_mem hj)
/-- The first loop: sixteen words of the block. -/
theorem cmp1 {h : Heap} {p b : Nat} {S : List (BitVec 32)} {B : List Nat} {n : Nat} (hS : S.length = 8) (hBl : B.length = 64) (hB : Bys B) (hp : h.get p = some (hashC S B n)) (hb : h.n0 ≤ b) (hpb : p ≠ b) (hw : h.get b = some (wTab []))
    {x : Nat → Value} (x0 : x 0 = ptr p 0) (x2 : x 2 = ptr b 0) (x24 : x 24 = i64n 0) :
    Fin 241 (fun ex y g => ex = .exit 0 ∧ y 0 = ptr p 0 ∧ y 2 = ptr b 0 ∧ Kept h g (· = b) ∧ g.get b = some (wTab (sch0 B)) ∧ g.next = h.next) (iter (codeA Tryd.prog CW (partOf Tryd.f149 [1, 0, 1, 0, 0])) rounds (mkF 241 x) h) := by
  refine loop_fin (t149l149_1010_eq CW) (Inv := fun k y g => ∃ i, i + k = 16 ∧ y 0 = ptr p 0 ∧ y 2 = ptr b 0 ∧ y 24 = i64n i ∧ Kept h g (· = b) ∧ g.get b = some (wTab ((List.range i).map (wAt B))) ∧ g.next = h.next) ?_ 16 (by have : rounds = 18446744073709551616 := rfl; omega) ⟨0, Nat.zero_add _, x0, x2, x24, Kept.refl _ _, hw, rfl⟩
  rintro k y g ⟨i, hik, y0, y2, y24, K, gw, gn⟩
  unfold t149l149_1010
  have l16 : bin Tryd.prog .lss 3 (i64n i) (.int .i64 16) = some (.bool (decide (i < 16))) := lss3 i 16
  simp -implicitDefEqProofs only [y24, l16, thenV_some, pu_some]
  by_cases hi : i < 16
  · have gp : g.get p = some (hashC S B n) := Kept.getE K hp hpb
    have lb : ∀ j, j < 64 → ld1 (ptr p (8 + j)) g = some (u8 (B.getD j 0), g) := fun j hj => ld1_at gp (hash_byte hS (by omega)) rfl
    have c0 := w_byte _ (bys_getD hB (j := 4 * i) (by omega)) g
    have c1 := w_byte _ (bys_getD hB (j := 4 * i + 1) (by omega)) g
    have c2 := w_byte _ (bys_getD hB (j := 4 * i + 2) (by omega)) g
    have c3 := w_byte _ (bys_getD hB (j := 4 * i + 3) (by omega)) g
    have a1 : bin Tryd.prog .add 3 (i64n (4 * i)) (.int .i64 1) = some (i64n (4 * i + 1)) := addc (c := 1) (by omega)
    have a2 : bin Tryd.prog .add 3 (i64n (4 * i)) (.int .i64 2) = some (i64n (4 * i + 2)) := addc (c := 2) (by omega)
    have a3 : bin Tryd.prog .add 3 (i64n (4 * i)) (.int .i64 3) = some (i64n (4 * i + 3)) := addc (c := 3) (by omega)
    have sh24 : ∀ x : BitVec 32, bin Tryd.prog .shl 174 (wv x) (.int .u64 24) = some (wv (x <<< 24)) := fun x => w_shl x (k := 24) (by decide)
    have sh16 : ∀ x : BitVec 32, bin Tryd.prog .shl 174 (wv x) (.int .u64 16) = some (wv (x <<< 16)) := fun x => w_shl x (k := 16) (by decide)
    have sh8 : ∀ x : BitVec 32, bin Tryd.prog .shl 174 (wv x) (.int .u64 8) = some (wv (x <<< 8)) := fun x => w_shl x (k := 8) (by decide)
    have ll : ((List.range i).map (wAt B)).length = i := by simp
    obtain ⟨g2, e2, k2, s2, _, m2⟩ := stored (o := i) (v := wv (wAt B i)) gw (by rw [K.n0]; exact hb) (by rw [wTab_len (by omega)]; omega) rfl rfl
    have hw4 : wv (BitVec.ofNat 32 (B.getD (4 * i) 0) <<< 24 ||| BitVec.ofNat 32 (B.getD (4 * i + 1) 0) <<< 16 ||| BitVec.ofNat 32 (B.getD (4 * i + 2) 0) <<< 8 ||| BitVec.ofNat 32 (B.getD (4 * i + 3) 0)) = wv (wAt B i) := rfl
    have ix : idxA 64 1 (ptr b 0) (i64n i) = some (ptr b i) := by rw [idxN (by omega), Nat.zero_add]
    simp -implicitDefEqProofs only [decide_eq_true hi, y0, y2, mul4 (show i < 1000 by omega), nilCheck_ptr, addP_ptr, Nat.zero_add, idxN (show 4 * i < 64 by omega), idxN (show 4 * i + 1 < 64 by omega), idxN (show 4 * i + 2 < 64 by omega), idxN (show 4 * i + 3 < 64 by omega), lb (4 * i) (by omega), lb (4 * i + 1) (by omega), lb (4 * i + 2) (by omega), lb (4 * i + 3) (by omega), c0, c1, c2, c3, a1, a2, a3, sh24, sh16, sh8, w_or, hw4, ix, e2, add31 (show i + 1 ≤ 9223372036854775807 by omega), thenV_some, pu_some]
    refine Rnd.next (k - 1) (by omega) ⟨i + 1, by omega, y0, y2, rfl, K.trans k2, ?_, m2.trans gn⟩
    rw [s2, wTab_set ll (by omega), List.range_succ, List.map_append]
    rfl
  · have : i = 16 := by omega
    subst this
    simp -implicitDefEqProofs only [decide_eq_false hi]
    exact Rnd.out 0 ⟨rfl, y0, y2, K, gw, gn⟩
end Go.Proofs.YtdnahgfgoajmcaaDoor

namespace Go.Proofs.YtdnahgfgoajmcaaDoor
open Go Go.Abs
attribute [local congr] thenV_congr
theorem and25 : bin Tryd.prog .and 111 (.int .u64 (IntKind.wrap .u64 (-7))) (.int .u64 31) = some (.int .u64 ((32 - 7 : Nat) : Int)) := by kernel_rfl
theorem rots {h : Heap} (hG : 4 ≤ h.n0) (x : BitVec 32) : CW 159 [wv x, .int .i64 (-7)] h = some (wv (rotR x 7), h) ∧ CW 159 [wv x, .int .i64 (-18)] h = some (wv (rotR x 18), h) ∧ CW 159 [wv x, .int .i64 (-17)] h = some (wv (rotR x 17), h) ∧ CW 159 [wv x, .int .i64 (-19)] h = some (wv (rotR x 19), h) ∧
    CW 159 [wv x, .int .i64 (-6)] h = some (wv (rotR x 6), h) ∧ CW 159 [wv x, .int .i64 (-11)] h = some (wv (rotR x 11), h) ∧ CW 159 [wv x, .int .i64 (-25)] h = some (wv (rotR x 25), h) ∧ CW 159 [wv x, .int .i64 (-2)] h = some (wv (rotR x 2), h) ∧ CW 159 [wv x, .int .i64 (-13)] h = some (wv (rotR x 13), h) ∧ CW 159 [wv x, .int .i64 (-22)] h = some (wv (rotR x 22), h) :=
  ⟨r159 hG x (by decide) and25, r159 hG x (k := 18) (by decide) (by kernel_rfl), r159 hG x (k := 17) (by decide) (by kernel_rfl), r159 hG x (k := 19) (by decide) (by kernel_rfl), r159 hG x (k := 6) (by decide) (by kernel_rfl), r159 hG x (k := 11) (by decide) (by kernel_rfl), r159 hG x (k := 25) (by decide) (by kernel_rfl), r159 hG x (k := 2) (by decide) (by kernel_rfl), r159 hG x (k := 13) (by decide) (by kernel_rfl), r159 hG x (k := 22) (by decide) (by kernel_rfl)⟩
theorem extW_len : ∀ (n : Nat) (l : List (BitVec 32)), (extW n l).length = l.length + n
  | 0, l => rfl
  | n + 1, l => by rw [extW, extW_len n, List.length_append]; simp; omega
theorem extW_snoc : ∀ (n : Nat) (l : List (BitVec 32)), extW n l ++ [nextW (extW n l)] = extW (n + 1) l
  | 0, l => rfl
  | n + 1, l => by rw [extW, extW_snoc n]; rfl
/-- The second loop: 48 further words. -/
theorem cmp2 {h : Heap} (hG : 4 ≤ h.n0) {p b : Nat} {l : List (BitVec 32)} (hl : l.length = 16) (hb : h.n0 ≤ b) (hw : h.get b = some (wTab l))
    {x : Nat → Value} (x0 : x 0 = ptr p 0) (x2 : x 2 = ptr b 0) (x4 : x 4 = i64n 16) :
    Fin 241 (fun ex y g => ex = .exit 2 ∧ y 0 = ptr p 0 ∧ y 2 = ptr b 0 ∧ Kept h g (· = b) ∧ g.get b = some (wTab (extW 48 l)) ∧ g.next = h.next) (iter (codeA Tryd.prog CW (partOf Tryd.f149 [1, 1, 0, 1, 0, 0])) rounds (mkF 241 x) h) := by
  refine loop_fin (t149l149_11010_eq CW) (Inv := fun k y g => ∃ i, i + k = 48 ∧ y 0 = ptr p 0 ∧ y 2 = ptr b 0 ∧ y 4 = i64n (16 + i) ∧ Kept h g (· = b) ∧ g.get b = some (wTab (extW i l)) ∧ g.next = h.next) ?_ 48 (by have : rounds = 18446744073709551616 := rfl; omega) ⟨0, Nat.zero_add _, x0, x2, x4, Kept.refl _ _, hw, rfl⟩
  rintro k y g ⟨i, hik, y0, y2, y4, K, gw, gn⟩
  unfold t149l149_11010
  have l64 : bin Tryd.prog .lss 3 (i64n (16 + i)) (.int .i64 64) = some (.bool (decide (16 + i < 64))) := lss3 (16 + i) 64
  simp -implicitDefEqProofs only [y4, l64, thenV_some, pu_some]
  by_cases hi : 16 + i < 64
  · have len : (extW i l).length = 16 + i := by rw [extW_len, hl]
    have hg : 4 ≤ g.n0 := by rw [K.n0]; exact hG
    have s15 : bin Tryd.prog .sub 3 (i64n (16 + i)) (.int .i64 15) = some (i64n (16 + i - 15)) := subc (c := 15) (by omega) (by omega)
    have s2 : bin Tryd.prog .sub 3 (i64n (16 + i)) (.int .i64 2) = some (i64n (16 + i - 2)) := subc (c := 2) (by omega) (by omega)
    have s16 : bin Tryd.prog .sub 3 (i64n (16 + i)) (.int .i64 16) = some (i64n (16 + i - 16)) := subc (c := 16) (by omega) (by omega)
    have s7 : bin Tryd.prog .sub 3 (i64n (16 + i)) (.int .i64 7) = some (i64n (16 + i - 7)) := subc (c := 7) (by omega) (by omega)
    have ix : ∀ j, j < 64 → idxA 64 1 (ptr b 0) (i64n j) = some (ptr b j) := fun j hj => by rw [idxN hj, Nat.zero_add]
    have lw : ∀ j, j < 16 + i → ld1 (ptr b j) g = some (wv ((extW i l).getD j 0), g) := fun j hj => ld1_at gw (wTab_at (by omega)) rfl
    generalize hX : (extW i l).getD (16 + i - 15) 0 = X at *
    generalize hY : (extW i l).getD (16 + i - 2) 0 = Y at *
    have lX := lw (16 + i - 15) (by omega)
    have lY := lw (16 + i - 2) (by omega)
    rw [hX] at lX
    rw [hY] at lY
    obtain ⟨rx7, rx18, _⟩ := rots hg X
    obtain ⟨_, _, ry17, ry19, _⟩ := rots hg Y
    have sh3 : ∀ x : BitVec 32, bin Tryd.prog .shr 174 (wv x) (.int .u64 3) = some (wv (x >>> 3)) := fun x => w_shr x (k := 3) (by decide)
    have sh10 : ∀ x : BitVec 32, bin Tryd.prog .shr 174 (wv x) (.int .u64 10) = some (wv (x >>> 10)) := fun x => w_shr x (k := 10) (by decide)
    have hN : wv ((extW i l).getD (16 + i - 16) 0 + (rotR X 7 ^^^ rotR X 18 ^^^ X >>> 3) + (extW i l).getD (16 + i - 7) 0 + (rotR Y 17 ^^^ rotR Y 19 ^^^ Y >>> 10)) = wv (nextW (extW i l)) := by
      unfold nextW s0w s1w
      rw [len, hX, hY]
    obtain ⟨g2, e2, k2, t2, _, m2⟩ := stored (o := 16 + i) (v := wv (nextW (extW i l))) gw (by rw [K.n0]; exact hb) (by rw [wTab_len (by omega)]; omega) rfl rfl
    simp -implicitDefEqProofs only [decide_eq_true hi, y2, s15, s2, s16, s7, ix (16 + i - 15) (by omega), ix (16 + i - 2) (by omega), ix (16 + i - 16) (by omega), ix (16 + i - 7) (by omega), ix (16 + i) (by omega), lX, lY, lw (16 + i - 16) (by omega), lw (16 + i - 7) (by omega), rx7, rx18, ry17, ry19, w_xor, sh3, sh10, w_add, hN, e2, add31 (show 16 + i + 1 ≤ 9223372036854775807 by omega), thenV_some, pu_some]
    refine Rnd.next (k - 1) (by omega) ⟨i + 1, by omega, y0, y2, rfl, K.trans k2, ?_, m2.trans gn⟩
    rw [t2, wTab_set len (by omega), extW_snoc]
  · have : i = 48 := by omega
    subst this
    simp -implicitDefEqProofs only [decide_eq_false hi]
    exact Rnd.out 2 ⟨rfl, y0, y2, K, gw, gn⟩
end Go.Proofs.YtdnahgfgoajmcaaDoor

namespace Go.Proofs.YtdnahgfgoajmcaaDoor
open Go Go.Abs
attribute [local congr] thenV_congr
/-- The digest's table as words. -/
def rkW : List (BitVec 32) := roundsL.map fun v => match v with | .int _ n => BitVec.ofInt 32 n | _ => 0
theorem rkW_eq : wvs rkW = roundsL := by kernel_rfl
theorem rkW_len : rkW.length = 64 := by unfold rkW; rw [List.length_map]; kernel_rfl
structure St where
  a : BitVec 32
  b : BitVec 32
  c : BitVec 32
  d : BitVec 32
  e : BitVec 32
  f : BitVec 32
  g : BitVec 32
  i : BitVec 32
def St.l (s : St) : List (BitVec 32) := [s.a, s.b, s.c, s.d, s.e, s.f, s.g, s.i]
def t1S (s : St) (k w : BitVec 32) : BitVec 32 := s.i + (rotR s.e 6 ^^^ rotR s.e 11 ^^^ rotR s.e 25) + (s.g ^^^ (s.e &&& (s.f ^^^ s.g))) + k + w
def t2S (s : St) : BitVec 32 := (rotR s.a 2 ^^^ rotR s.a 13 ^^^ rotR s.a 22) + ((s.a &&& s.b) ||| (s.c &&& (s.a ||| s.b)))
def stepS (s : St) (k w : BitVec 32) : St := ⟨t1S s k w + t2S s, s.a, s.b, s.c, s.d + t1S s k w, s.e, s.f, s.g⟩
def runS (W : List (BitVec 32)) : Nat → St → St
  | 0, s => s
  | n + 1, s => stepS (runS W n s) (rkW.getD n 0) (W.getD n 0)
structure StE (s : St) (y : Nat → Value) : Prop where
  a : y 9 = wv s.a
  b : y 10 = wv s.b
  c : y 11 = wv s.c
  d : y 12 = wv s.d
  e : y 13 = wv s.e
  f : y 14 = wv s.f
  g : y 15 = wv s.g
  i : y 16 = wv s.i
set_option maxRecDepth 100000 in
/-- The third loop: 64 rounds. -/
theorem cmp3 {h : Heap} (hG : 4 ≤ h.n0) (hz : h.get 3 = some roundsL) {p b : Nat} {W : List (BitVec 32)} (hl : W.length = 64) (hw : h.get b = some (wTab W)) {s : St}
    {x : Nat → Value} (x0 : x 0 = ptr p 0) (x2 : x 2 = ptr b 0) (x154 : x 154 = i64n 0) (xs : StE s x) :
    Fin 241 (fun ex y g => ex = .exit 4 ∧ y 0 = ptr p 0 ∧ StE (runS W 64 s) y ∧ g = h) (iter (codeA Tryd.prog CW (partOf Tryd.f149 [1, 1, 1, 1, 1, 0, 1, 0, 0])) rounds (mkF 241 x) h) := by
  refine loop_fin (t149l149_11111010_eq CW) (Inv := fun k y g => ∃ i, i + k = 64 ∧ y 0 = ptr p 0 ∧ y 2 = ptr b 0 ∧ y 154 = i64n i ∧ StE (runS W i s) y ∧ g = h) ?_ 64 (by have : rounds = 18446744073709551616 := rfl; omega) ⟨0, Nat.zero_add _, x0, x2, x154, xs, rfl⟩
  rintro k y g ⟨i, hik, y0, y2, y154, Y, rfl⟩
  unfold t149l149_11111010
  have l64 : bin Tryd.prog .lss 3 (i64n i) (.int .i64 64) = some (.bool (decide (i < 64))) := lss3 i 64
  simp -implicitDefEqProofs only [y154, l64, thenV_some, pu_some]
  by_cases hi : i < 64
  · have ix : idxA 64 1 (ptr b 0) (i64n i) = some (ptr b i) := by rw [idxN hi, Nat.zero_add]
    have ix3 : idxA 64 1 (ptr 3 0) (i64n i) = some (ptr 3 i) := by rw [idxN hi, Nat.zero_add]
    have lw : ld1 (ptr b i) g = some (wv (W.getD i 0), g) := ld1_at hw (wTab_at (by omega)) rfl
    have lk : ld1 (ptr 3 i) g = some (wv (rkW.getD i 0), g) := ld1_at hz (by
      rw [← rkW_eq, List.getElem?_map, List.getD_eq_getElem?_getD, List.getElem?_eq_getElem (by rw [rkW_len]; exact hi)]
      rfl) rfl
    generalize hs : runS W i s = q at *
    obtain ⟨_, _, _, _, re6, re11, re25, _⟩ := rots hG q.e
    obtain ⟨_, _, _, _, _, _, _, ra2, ra13, ra22⟩ := rots hG q.a
    simp -implicitDefEqProofs only [decide_eq_true hi, y2, Y.a, Y.b, Y.c, Y.d, Y.e, Y.f, Y.g, Y.i, ix, ix3, lw, lk, re6, re11, re25, ra2, ra13, ra22, w_xor, w_and, w_or, w_add, add31 (show i + 1 ≤ 9223372036854775807 by omega), thenV_some, pu_some]
    refine Rnd.next (k - 1) (by omega) ⟨i + 1, by omega, y0, y2, rfl, ?_, rfl⟩
    rw [runS, hs]
    exact ⟨rfl, rfl, rfl, rfl, rfl, rfl, rfl, rfl⟩
  · have : i = 64 := by omega
    subst this
    simp -implicitDefEqProofs only [decide_eq_false hi]
    exact Rnd.out 4 ⟨rfl, y0, ⟨Y.a, Y.b, Y.c, Y.d, Y.e, Y.f, Y.g, Y.i⟩, rfl⟩
/-- Sums of two lists of words. -/
def addS (l m : List (BitVec 32)) : List (BitVec 32) := List.zipWith (· + ·) l m
/-- The state after a block. -/
def compS (S : List (BitVec 32)) (B : List Nat) : List (BitVec 32) := addS S (runS (extW 48 (sch0 B)) 64 ⟨S.getD 0 0, S.getD 1 0, S.getD 2 0, S.getD 3 0, S.getD 4 0, S.getD 5 0, S.getD 6 0, S.getD 7 0⟩).l
theorem compS_len {S : List (BitVec 32)} {B : List Nat} (h : S.length = 8) : (compS S B).length = 8 := by unfold compS addS; rw [List.length_zipWith, h]; rfl
end Go.Proofs.YtdnahgfgoajmcaaDoor

namespace Go.Proofs.YtdnahgfgoajmcaaDoor
open Go Go.Abs
attribute [local congr] thenV_congr
theorem eight {S : List (BitVec 32)} (h : S.length = 8) : ∃ a b c d e f g i, S = [a, b, c, d, e, f, g, i] := by
  match S, h with
  | [a, b, c, d, e, f, g, i], _ => exact ⟨a, b, c, d, e, f, g, i, rfl⟩
def mixS (S L : List (BitVec 32)) (i : Nat) : List (BitVec 32) := (addS S L).take i ++ S.drop i
theorem mix_step {S L : List (BitVec 32)} (hS : S.length = 8) (hL : L.length = 8) {i : Nat} (hi : i < 8) : (mixS S L i).getD i 0 = S.getD i 0 ∧ (mixS S L i).set i (S.getD i 0 + L.getD i 0) = mixS S L (i + 1) ∧ (mixS S L i).length = 8 := by
  obtain ⟨a, b, c, d, e, f, g, j, rfl⟩ := eight hS
  obtain ⟨a', b', c', d', e', f', g', j', rfl⟩ := eight hL
  match i, hi with
  | 0, _ => exact ⟨rfl, rfl, rfl⟩
  | 1, _ => exact ⟨rfl, rfl, rfl⟩
  | 2, _ => exact ⟨rfl, rfl, rfl⟩
  | 3, _ => exact ⟨rfl, rfl, rfl⟩
  | 4, _ => exact ⟨rfl, rfl, rfl⟩
  | 5, _ => exact ⟨rfl, rfl, rfl⟩
  | 6, _ => exact ⟨rfl, rfl, rfl⟩
  | 7, _ => exact ⟨rfl, rfl, rfl⟩
theorem hash_word {S : List (BitVec 32)} {B : List Nat} {n j : Nat} (hj : j < S.length) : (hashC S B n)[j]? = some (wv (S.getD j 0)) := by
  unfold hashC
  rw [List.getElem?_append_left (by simpa using hj), List.getElem?_map, List.getD_eq_getElem?_getD, List.getElem?_eq_getElem hj]
  rfl
theorem hash_set {S : List (BitVec 32)} {B : List Nat} {n j : Nat} (hj : j < S.length) (x : BitVec 32) : (hashC S B n).set j (wv x) = hashC (S.set j x) B n := by
  unfold hashC
  rw [List.set_append_left _ _ (by simpa using hj)]
  show (S.map wv).set j (wv x) ++ _ = (S.set j x).map wv ++ _
  rw [List.map_set]
theorem hash_len {S : List (BitVec 32)} {B : List Nat} {n : Nat} : (hashC S B n).length = S.length + B.length + 1 := by
  unfold hashC
  simp
  omega
/-- The last loop: the state grows. -/
theorem cmp4 {h : Heap} {p : Nat} {S L : List (BitVec 32)} {B : List Nat} {n : Nat} (hS : S.length = 8) (hL : L.length = 8) (hp : h.get p = some (hashC S B n)) (hp0 : h.n0 ≤ p)
    {x : Nat → Value} (x0 : x 0 = ptr p 0) (x224 : x 224 = .agg (wvs L).toArray) (x225 : x 225 = i64n 0) :
    Fin 241 (fun ex _ g => ex = .exit 6 ∧ Kept h g (· = p) ∧ g.get p = some (hashC (addS S L) B n) ∧ g.next = h.next) (iter (codeA Tryd.prog CW (partOf Tryd.f149 [1, 1, 1, 1, 1, 1, 1, 0, 0])) rounds (mkF 241 x) h) := by
  have hm0 : mixS S L 0 = S := rfl
  have hm8 : mixS S L 8 = addS S L := by
    obtain ⟨a, b, c, d, e, f, g, j, rfl⟩ := eight hS
    obtain ⟨a', b', c', d', e', f', g', j', rfl⟩ := eight hL
    rfl
  refine loop_fin (t149l149_11111110_eq CW) (Inv := fun k y g => ∃ i, i + k = 8 ∧ y 0 = ptr p 0 ∧ y 224 = .agg (wvs L).toArray ∧ y 225 = i64n i ∧ Kept h g (· = p) ∧ g.get p = some (hashC (mixS S L i) B n) ∧ g.next = h.next) ?_ 8 (by have : rounds = 18446744073709551616 := rfl; omega) ⟨0, Nat.zero_add _, x0, x224, x225, Kept.refl _ _, by rw [hm0]; exact hp, rfl⟩
  rintro k y g ⟨i, hik, y0, y224, y225, K, gp, gn⟩
  unfold t149l149_11111110
  have l8 : bin Tryd.prog .lss 3 (i64n i) (.int .i64 8) = some (.bool (decide (i < 8))) := lss3 i 8
  simp -implicitDefEqProofs only [y225, l8, thenV_some, pu_some]
  by_cases hi : i < 8
  · obtain ⟨m1, m2, m3⟩ := mix_step hS hL hi
    have ix : idxA 8 1 (ptr p 0) (i64n i) = some (ptr p i) := by rw [idxN hi, Nat.zero_add]
    have ia : ixA1 8 1 (.agg (wvs L).toArray) (i64n i) = some (wv (L.getD i 0)) := by
      unfold ixA1
      simp only []
      rw [if_pos (by omega), Int.toNat_natCast, Nat.mul_one, List.getElem?_toArray, List.getElem?_map, List.getD_eq_getElem?_getD, List.getElem?_eq_getElem (by omega)]
      rfl
    have lp : ld1 (ptr p i) g = some (wv (S.getD i 0), g) := by
      rw [← m1]
      exact ld1_at gp (hash_word (by omega)) rfl
    obtain ⟨g2, e2, k2, t2, _, n2⟩ := stored (o := i) (v := wv (S.getD i 0 + L.getD i 0)) gp (by rw [K.n0]; exact hp0) (by rw [hash_len, m3]; omega) rfl rfl
    simp -implicitDefEqProofs only [decide_eq_true hi, y0, y224, ia, nilCheck_ptr, addP_ptr, Nat.zero_add, ix, lp, w_add, e2, add31 (show i + 1 ≤ 9223372036854775807 by omega), thenV_some, pu_some]
    refine Rnd.next (k - 1) (by omega) ⟨i + 1, by omega, y0, y224, rfl, K.trans k2, ?_, n2.trans gn⟩
    rw [t2, hash_set (by omega), m2]
  · have : i = 8 := by omega
    subst this
    simp -implicitDefEqProofs only [decide_eq_false hi]
    rw [hm8] at gp
    exact Rnd.out 6 ⟨rfl, K, gp, gn⟩
theorem is149 : IsFn Tryd.prog 149 Tryd.f149 := ⟨by kernel_rfl, by kernel_rfl, by kernel_rfl, by kernel_rfl⟩
theorem results149 : Tryd.f149.results.toList = [] := by kernel_rfl
theorem bld8v (a b c d e f g i : Int) : bldR (List.replicate 8 (.int .u32 0)) [(0, 1, .int .u32 a), (1, 1, .int .u32 b), (2, 1, .int .u32 c), (3, 1, .int .u32 d), (4, 1, .int .u32 e), (5, 1, .int .u32 f), (6, 1, .int .u32 g), (7, 1, .int .u32 i)] = some (.agg ([Value.int .u32 a, .int .u32 b, .int .u32 c, .int .u32 d, .int .u32 e, .int .u32 f, .int .u32 g, .int .u32 i]).toArray) := by kernel_rfl
theorem bld8 (a b c d e f g i : BitVec 32) : bldR (List.replicate 8 (.int .u32 0)) [(0, 1, wv a), (1, 1, wv b), (2, 1, wv c), (3, 1, wv d), (4, 1, wv e), (5, 1, wv f), (6, 1, wv g), (7, 1, wv i)] = some (.agg (wvs [a, b, c, d, e, f, g, i]).toArray) := bld8v _ _ _ _ _ _ _ _
set_option maxRecDepth 100000 in
/-- compress -/
theorem r149 {h : Heap} (hG : 4 ≤ h.n0) (hz : h.get 3 = some roundsL) {p : Nat} {S : List (BitVec 32)} {B : List Nat} {n : Nat} (hS : S.length = 8) (hBl : B.length = 64) (hB : Bys B) (hp : h.get p = some (hashC S B n)) (hp0 : h.n0 ≤ p) :
    ∃ h', CW 149 [ptr p 0] h = some (.tuple #[], h') ∧ Kept h h' (· = p) ∧ h'.get p = some (hashC (compS S B) B n) := by
  have hlt := h.lt_of_get hp
  obtain ⟨h1, z1, o1, g1, n1⟩ := fresh (List.replicate 64 (.int .u32 0)) h
  have hb1 : h1.n0 ≤ h.next := by rw [o1.n0]; exact h.n0_le_next
  have hne : p ≠ h.next := by omega
  have key : ∃ o : Out, t149 CW (ptr p 0) h = o ∧ ∃ h', o = some (.tuple #[], h') ∧ Kept h h' (· = p) ∧ h'.get p = some (hashC (compS S B) B n) := by
    refine ⟨_, rfl, ?_⟩
    unfold t149
    simp -implicitDefEqProofs only [z1, thenV_some]
    refine endL_fin (Q := fun o : Out => ∃ h', o = some (.tuple #[], h') ∧ Kept h h' (· = p) ∧ h'.get p = some (hashC (compS S B) B n)) (cmp1 (p := p) (b := h.next) hS hBl hB (Old.get o1 hp) hb1 hne g1 rfl rfl rfl) ?_
    rintro _ y g ⟨rfl, y0, y2, K2, G2, N2⟩
    simp -implicitDefEqProofs only [endL_exit, b149_3, if_true, t149k149_1_eq]
    unfold t149k149_1
    simp -implicitDefEqProofs only [thenV_some]
    have hg2 : 4 ≤ g.n0 := by rw [K2.n0, o1.n0]; exact hG
    refine endL_fin (Q := fun o : Out => ∃ h', o = some (.tuple #[], h') ∧ Kept h h' (· = p) ∧ h'.get p = some (hashC (compS S B) B n)) (cmp2 (p := p) (b := h.next) hg2 (l := sch0 B) (by simp [sch0]) (by rw [K2.n0]; exact hb1) G2 y0 y2 rfl) ?_
    rintro _ y' g3 ⟨rfl, y0', y2', K3, G3, N3⟩
    simp -implicitDefEqProofs only [endL_exit, b149_6, if_true, t149k149_4_eq]
    unfold t149k149_4
    have O3 : Old h g3 := (Old.of_new o1 K2 (Nat.le_refl _)).also K3 (fun d hd e => by omega)
    have hp3 := Old.get O3 hp
    have lp : ∀ j, j < 8 → ld1 (ptr p j) g3 = some (wv (S.getD j 0), g3) := fun j hj => ld1_at hp3 (hash_word (by omega)) rfl
    have ix : ∀ j, j < 8 → idxA 8 1 (ptr p 0) (i64n j) = some (ptr p j) := fun j hj => by rw [idxN hj, Nat.zero_add]
    have i0 : idxA 8 1 (ptr p 0) (.int .i64 0) = some (ptr p 0) := ix 0 (by decide)
    have i1 : idxA 8 1 (ptr p 0) (.int .i64 1) = some (ptr p 1) := ix 1 (by decide)
    have i2 : idxA 8 1 (ptr p 0) (.int .i64 2) = some (ptr p 2) := ix 2 (by decide)
    have i3 : idxA 8 1 (ptr p 0) (.int .i64 3) = some (ptr p 3) := ix 3 (by decide)
    have i4 : idxA 8 1 (ptr p 0) (.int .i64 4) = some (ptr p 4) := ix 4 (by decide)
    have i5 : idxA 8 1 (ptr p 0) (.int .i64 5) = some (ptr p 5) := ix 5 (by decide)
    have i6 : idxA 8 1 (ptr p 0) (.int .i64 6) = some (ptr p 6) := ix 6 (by decide)
    have i7 : idxA 8 1 (ptr p 0) (.int .i64 7) = some (ptr p 7) := ix 7 (by decide)
    simp -implicitDefEqProofs only [y0', nilCheck_ptr, addP_ptr, Nat.zero_add, i0, i1, i2, i3, i4, i5, i6, i7, lp 0 (by decide), lp 1 (by decide), lp 2 (by decide), lp 3 (by decide), lp 4 (by decide), lp 5 (by decide), lp 6 (by decide), lp 7 (by decide), thenV_some, pu_some]
    have hg3 : 4 ≤ g3.n0 := by rw [O3.n0]; exact hG
    refine endL_fin (Q := fun o : Out => ∃ h', o = some (.tuple #[], h') ∧ Kept h h' (· = p) ∧ h'.get p = some (hashC (compS S B) B n)) (cmp3 (p := p) (b := h.next) hg3 (Old.get O3 hz) (W := extW 48 (sch0 B)) (by rw [extW_len]; simp [sch0]) G3 (s := ⟨S.getD 0 0, S.getD 1 0, S.getD 2 0, S.getD 3 0, S.getD 4 0, S.getD 5 0, S.getD 6 0, S.getD 7 0⟩) y0' y2' rfl ⟨rfl, rfl, rfl, rfl, rfl, rfl, rfl, rfl⟩) ?_
    rintro _ y4 g4 ⟨rfl, y40, Y, rfl⟩
    simp -implicitDefEqProofs only [endL_exit, b149_16, if_true, t149k149_14_eq]
    unfold t149k149_14
    simp -implicitDefEqProofs only [Y.a, Y.b, Y.c, Y.d, Y.e, Y.f, Y.g, Y.i, bld8, thenV_some, pu_some]
    refine endL_fin (Q := fun o : Out => ∃ h', o = some (.tuple #[], h') ∧ Kept h h' (· = p) ∧ h'.get p = some (hashC (compS S B) B n)) (cmp4 (p := p) (S := S) (L := (runS (extW 48 (sch0 B)) 64 ⟨S.getD 0 0, S.getD 1 0, S.getD 2 0, S.getD 3 0, S.getD 4 0, S.getD 5 0, S.getD 6 0, S.getD 7 0⟩).l) hS rfl hp3 (by rw [O3.n0]; exact hp0) y40 rfl rfl) ?_
    rintro _ y5 g5 ⟨rfl, K5, G5, N5⟩
    simp -implicitDefEqProofs only [endL_exit, b149_25, if_true]
    refine ⟨g5, ?_, (O3.mono (fun _ _ h => h.elim)).trans K5, G5⟩
    rw [results149]
    rfl
  obtain ⟨o, e, h', e', k, g⟩ := key
  exact ⟨h', CW_body is149 hG rfl ((t149_eq _ _ _).trans (e.trans e')), k, g⟩
end Go.Proofs.YtdnahgfgoajmcaaDoor

namespace Go.Proofs.YtdnahgfgoajmcaaDoor
open Go Go.Abs
attribute [local congr] thenV_congr
/-- A Hash: its state, its block, the size of what it has read. -/
structure HD where
  S : List (BitVec 32)
  B : List Nat
  n : Nat
structure HD.Ok (s : HD) : Prop where
  S : s.S.length = 8
  B : s.B.length = 64
  by_ : Bys s.B
abbrev HD.cells (s : HD) : List Value := hashC s.S s.B s.n
/-- Some bytes are put into the block. -/
def HD.put (s : HD) (l : List Nat) : HD :=
  let at_ := s.n % 64
  let k := min l.length (64 - at_)
  let B := s.B.take at_ ++ (l.take k ++ s.B.drop (at_ + k))
  ⟨if at_ + k = 64 then compS s.S B else s.S, B, s.n + k⟩
def HD.wrN : Nat → HD → List Nat → HD
  | 0, s, _ => s
  | f + 1, s, l => if l = [] then s else HD.wrN f (s.put l) (l.drop (min l.length (64 - s.n % 64)))
def HD.wr (s : HD) (l : List Nat) : HD := HD.wrN l.length s l
theorem HD.wrN_le : ∀ (f g : Nat) (s : HD) (l : List Nat), l.length ≤ f → l.length ≤ g → HD.wrN f s l = HD.wrN g s l
  | 0, 0, _, _, _, _ => rfl
  | 0, g + 1, s, l, h, _ => by
    have : l = [] := List.length_eq_zero_iff.1 (by omega)
    rw [HD.wrN, HD.wrN, if_pos this]
  | f + 1, 0, s, l, _, h => by
    have : l = [] := List.length_eq_zero_iff.1 (by omega)
    rw [HD.wrN, HD.wrN, if_pos this]
  | f + 1, g + 1, s, l, h1, h2 => by
    rw [HD.wrN, HD.wrN]
    by_cases e : l = []
    · rw [if_pos e, if_pos e]
    · rw [if_neg e, if_neg e]
      have hp : 0 < l.length := List.length_pos_iff.2 e
      have hm : s.n % 64 < 64 := Nat.mod_lt _ (by decide)
      exact HD.wrN_le f g _ _ (by rw [List.length_drop]; omega) (by rw [List.length_drop]; omega)
theorem HD.wr_nil (s : HD) : s.wr [] = s := rfl
theorem HD.wr_put (s : HD) {l : List Nat} (h : l ≠ []) : s.wr l = (s.put l).wr (l.drop (min l.length (64 - s.n % 64))) := by
  unfold HD.wr
  have hp : 0 < l.length := List.length_pos_iff.2 h
  obtain ⟨f, hf⟩ : ∃ f, l.length = f + 1 := ⟨l.length - 1, by omega⟩
  rw [hf, HD.wrN, if_neg h, hf]
  have hm : s.n % 64 < 64 := Nat.mod_lt _ (by decide)
  exact HD.wrN_le _ _ _ _ (by rw [List.length_drop]; omega) (Nat.le_refl _)
theorem HD.put_ok {s : HD} (o : s.Ok) {l : List Nat} (hl : Bys l) : (s.put l).Ok := by
  have hm : s.n % 64 < 64 := Nat.mod_lt _ (by decide)
  unfold HD.put
  refine ⟨?_, ?_, ?_⟩
  · simp only
    split
    · exact compS_len o.S
    · exact o.S
  · simp only [List.length_append, List.length_take, List.length_drop, o.B]
    omega
  · intro x hx
    simp only [List.mem_append] at hx
    rcases hx with hx | hx | hx
    · exact o.by_ x (List.mem_of_mem_take hx)
    · exact hl x (List.mem_of_mem_take hx)
    · exact o.by_ x (List.mem_of_mem_drop hx)
theorem arr64 {p i : Nat} (h : i < 64) : sliceArr 64 1 (ptr p 8) (some (i64n i)) none none = some (.slice (some ⟨p, 8 + i, none⟩) (64 - i) (64 - i)) := by
  have b1 : boundA 64 64 (none : Option Value) = some 64 := rfl
  have b2 : boundA 0 64 (some (i64n i)) = some i := by
    unfold boundA i64n
    simp only
    rw [if_pos (by omega), Int.toNat_natCast]
  unfold sliceArr
  simp only [boundsA, b1, b2]
  show some (Value.slice (some ⟨p, if 64 = i then 8 else 8 + i * 1, none⟩) (64 - i) (64 - i)) = _
  rw [if_neg (by omega), Nat.mul_one]
/-- copy, of as much as there is room for. -/
theorem copy_min {h : Heap} {b off dn dc c n k : Nat} {s : Option Nat} {a : Option Addr} {A B C : List Value} {l : List Nat} (g : h.get b = some (A ++ (B ++ C))) (h0 : h.n0 ≤ b) (hA : A.length = off) (hB : B.length = k) (hs : sliceBytes a n h = some l) (hk : k = min n dn) (hk0 : 0 < k) :
    ∃ g', copyA 1 (.slice (some ⟨b, off, s⟩) dn dc) (.slice a n c) h = some (i64n k, g') ∧ Kept h g' (· = b) ∧ g'.get b = some (A ++ (u8s (l.take k) ++ C)) ∧ g'.next = h.next := by
  obtain ⟨hl, hb, _⟩ := sliceBytes_spec hs
  have hf := firstA_of hs (show k ≤ n by omega) (c := c)
  have hlk : (l.take k).length = k := by rw [List.length_take]; omega
  have hsp : splice (A ++ (B ++ C)) off (u8s (l.take k)) = A ++ (u8s (l.take k) ++ C) := splice_app hA hB (by rw [List.length_map]; exact hlk)
  refine ⟨h.set b (A ++ (u8s (l.take k) ++ C)), ?_, Kept.set h0 g (.inr rfl), Heap.get_set_same h0 g _, rfl⟩
  unfold copyA
  simp only [lenA]
  rw [← hk, hf]
  simp only
  rw [if_neg (by omega)]
  unfold stL
  simp only [g]
  rw [if_pos (by
    have h1 : off + (u8s (l.take k)).length ≤ (A ++ (B ++ C)).length := by rw [List.length_append, List.length_append, List.length_map, hA, hB]; omega
    simp only [decide_eq_true h0, decide_eq_true h1, (u8s_ok (l.take k)).2, Bool.and_self]), hsp]
  rfl
theorem is122 : IsFn Tryd.prog 122 Tryd.f122 := ⟨by kernel_rfl, by kernel_rfl, by kernel_rfl, by kernel_rfl⟩
theorem results122 : Tryd.f122.results.toList = [] := by kernel_rfl
theorem eql158 (b o : Nat) : bin Tryd.prog .eql 158 (ptr b o) (.pointer none) = some (.bool false) := by kernel_rfl
end Go.Proofs.YtdnahgfgoajmcaaDoor

namespace Go.Proofs.YtdnahgfgoajmcaaDoor
open Go Go.Abs
attribute [local congr] thenV_congr
theorem u8s_split {B : List Nat} {i k : Nat} : u8s B = u8s (B.take i) ++ (u8s ((B.drop i).take k) ++ u8s (B.drop (i + k))) := by
  show B.map u8 = (B.take i).map u8 ++ (((B.drop i).take k).map u8 ++ (B.drop (i + k)).map u8)
  rw [← List.map_append, ← List.map_append, ← List.drop_drop, List.take_append_drop, List.take_append_drop]
set_option maxRecDepth 100000 in
/-- Write -/
theorem r122 {h : Heap} (hG : 4 ≤ h.n0) (hz : h.get 3 = some roundsL) {p : Nat} {s : HD} (o : s.Ok) (hp : h.get p = some s.cells) (hp0 : h.n0 ≤ p) {a : Option Addr} {n c : Nat} {l : List Nat} (hl : sliceBytes a n h = some l) (hg : 0 < n → goodS a n c = true) (ha : ∀ y, a = some y → 0 < n → ¬ y.block = p) (hfit : s.n + n ≤ 1000000) :
    ∃ h', CW 122 [ptr p 0, .slice a n c] h = some (.tuple #[], h') ∧ Kept h h' (· = p) ∧ h'.get p = some (s.wr l).cells ∧ (s.wr l).Ok ∧ (s.wr l).n = s.n + n := by
  have hlen0 : l.length = n := (sliceBytes_spec hl).1
  have h3p : ¬ 3 = p := by
    have := h.lt_of_get hp
    intro e
    omega
  have key : ∃ o : Out, t122 CW (ptr p 0) (.slice a n c) h = o ∧ ∃ h', o = some (.tuple #[], h') ∧ Kept h h' (· = p) ∧ h'.get p = some (s.wr l).cells ∧ (s.wr l).Ok ∧ (s.wr l).n = s.n + n := by
    refine ⟨_, rfl, ?_⟩
    unfold t122
    simp -implicitDefEqProofs only [eql158, thenV_some, pu_some]
    refine endL_fin (n := 40) (fin := fun ex _ g => ex = .exit 0 ∧ Kept h g (· = p) ∧ g.get p = some (s.wr l).cells ∧ (s.wr l).Ok ∧ (s.wr l).n = s.n + n) (Q := fun o : Out => ∃ h', o = some (.tuple #[], h') ∧ Kept h h' (· = p) ∧ h'.get p = some (s.wr l).cells ∧ (s.wr l).Ok ∧ (s.wr l).n = s.n + n)
      (loop_fin (t122l122_10_eq CW) (Inv := fun k y g => ∃ (s' : HD) (a' : Option Addr) (n' c' : Nat) (l' : List Nat), n' = k ∧ y 0 = ptr p 0 ∧ y 1 = .slice a' n' c' ∧ sliceBytes a' n' g = some l' ∧ (0 < n' → goodS a' n' c' = true) ∧ (∀ y, a' = some y → 0 < n' → ¬ y.block = p) ∧ s'.Ok ∧ g.get p = some s'.cells ∧ Kept h g (· = p) ∧ s'.wr l' = s.wr l ∧ s'.n + n' = s.n + n) ?_ n (by have : rounds = 18446744073709551616 := rfl; omega) ⟨s, a, n, c, l, rfl, rfl, rfl, hl, hg, ha, o, hp, Kept.refl _ _, rfl, rfl⟩) ?_
    · rintro k y g ⟨s', a', n', c', l', rfl, y0, y1, sl', hg', ha', o', gp, K, hw, hn⟩
      unfold t122l122_10
      have hll : lenL (.slice a' n' c') = some (i64n n') := rfl
      have hgt : bin Tryd.prog .gtr 3 (i64n n') (.int .i64 0) = some (.bool (decide (0 < n'))) := by
        unfold i64n
        rw [bin_gtr]
        congr 2
        rw [decide_eq_decide]
        omega
      have hlen : l'.length = n' := (sliceBytes_spec sl').1
      have hby : Bys l' := (sliceBytes_spec sl').2.1
      simp -implicitDefEqProofs only [y1, hll, hgt, thenV_some, pu_some]
      by_cases hpos : 0 < n'
      · have hm : s'.n % 64 < 64 := Nat.mod_lt _ (by decide)
        generalize hat : s'.n % 64 = at_ at *
        generalize hk : min n' (64 - at_) = k
        have hkp : 0 < k := by omega
        have hp0g : g.n0 ≤ p := by rw [K.n0]; exact hp0
        have l72 : ld1 (ptr p 72) g = some (i64n s'.n, g) := ld1_at gp (by
          unfold HD.cells hashC
          rw [List.getElem?_append_right (by simp [o'.S]), List.getElem?_append_right (by simp [o'.S, o'.B])]
          simp [o'.S, o'.B]) rfl
        have hrem : bin Tryd.prog .rem 3 (i64n s'.n) (.int .i64 64) = some (i64n at_) := by
          unfold i64n
          rw [bin_rem Tryd.prog 3 .i64 _ 64 (by decide), ← hat]
          rfl
        have gp1 : g.get p = some ((wvs s'.S ++ u8s (s'.B.take at_)) ++ (u8s ((s'.B.drop at_).take k) ++ (u8s (s'.B.drop (at_ + k)) ++ [i64n s'.n]))) := by
          rw [gp]
          unfold HD.cells hashC
          rw [u8s_split (B := s'.B) (i := at_) (k := k)]
          simp only [List.append_assoc]
        obtain ⟨g2, e2, k2, G2, n2⟩ := copy_min (s := none) (dn := 64 - at_) (dc := 64 - at_) (c := c') (k := k) (off := 8 + at_) gp1 hp0g (by simp [o'.S, o'.B]; omega) (by simp [o'.B]; omega) sl' hk.symm hkp
        have ll72 : ld1 (ptr p 72) g2 = some (i64n s'.n, g2) := ld1_at G2 (by
          rw [List.getElem?_append_right (by simp [o'.S, o'.B]; omega), List.getElem?_append_right (by simp [o'.S, o'.B]; omega), List.getElem?_append_right (by simp [o'.S, o'.B]; omega)]
          have : 72 - (wvs s'.S ++ u8s (List.take at_ s'.B)).length - (u8s (List.take k l')).length - (u8s (List.drop (at_ + k) s'.B)).length = 0 := by simp [o'.S, o'.B]; omega
          rw [this]
          rfl) rfl
        have hadd : bin Tryd.prog .add 3 (i64n s'.n) (i64n k) = some (i64n (s'.n + k)) := by
          unfold i64n
          rw [bin_add, show (s'.n : Int) + (k : Int) = ((s'.n + k : Nat) : Int) by omega, wrap_i64 (by omega) (by omega)]
        have hadd2 : bin Tryd.prog .add 3 (i64n at_) (i64n k) = some (i64n (at_ + k)) := by
          unfold i64n
          rw [bin_add, show (at_ : Int) + (k : Int) = ((at_ + k : Nat) : Int) by omega, wrap_i64 (by omega) (by omega)]
        have hp2 : g2.n0 ≤ p := by rw [k2.n0]; exact hp0g
        obtain ⟨g3, e3, k3, G3, _, n3⟩ := stored (o := 72) (v := i64n (s'.n + k)) G2 hp2 (by simp [o'.S, o'.B]; omega) rfl rfl
        have hBn : ((s'.put l').B) = s'.B.take at_ ++ (l'.take k ++ s'.B.drop (at_ + k)) := by
          unfold HD.put
          simp only [hat, hlen, hk]
        have hnn : (s'.put l').n = s'.n + k := by
          unfold HD.put
          simp only [hat, hlen, hk]
        have G3' : g3.get p = some (hashC s'.S (s'.put l').B (s'.put l').n) := by
          rw [G3, hBn, hnn]
          unfold hashC
          have e1 : ((wvs s'.S ++ u8s (s'.B.take at_)) ++ (u8s (l'.take k) ++ (u8s (s'.B.drop (at_ + k)) ++ [i64n s'.n]))) = ((wvs s'.S ++ u8s (s'.B.take at_)) ++ (u8s (l'.take k) ++ u8s (s'.B.drop (at_ + k)))) ++ [i64n s'.n] := by simp only [List.append_assoc]
          rw [e1, set_app (A := (wvs s'.S ++ u8s (s'.B.take at_)) ++ (u8s (l'.take k) ++ u8s (s'.B.drop (at_ + k)))) (B' := [i64n (s'.n + k)]) 0 (by simp [o'.S, o'.B]; omega) rfl]
          simp only [List.map_append, List.append_assoc]
        have sl3 : sliceBytes a' n' g3 = some l' := (k2.trans k3).bytes sl' ha'
        obtain ⟨a2, c2, es, ss, gs, bs⟩ := slR_bytes (vl := some (i64n k)) (vh := none) (lo := k) (hi := n') (hg' hpos) sl3 (by omega) (Nat.le_refl _) rfl (by
          unfold boundA i64n
          simp only
          rw [if_pos (by omega), Int.toNat_natCast])
        have hss : ((l'.drop k).take (n' - k)) = l'.drop k := List.take_of_length_le (by rw [List.length_drop]; omega)
        rw [hss] at ss
        have hwr : (s'.put l').wr (l'.drop k) = s.wr l := by
          rw [← hw, HD.wr_put s' (l := l') (fun e => by rw [e] at hlen; simp at hlen; omega), hat, hlen, hk]
        have ok2 := HD.put_ok o' hby
        have ha2 : ∀ y, a2 = some y → 0 < n' - k → ¬ y.block = p := fun y hy _ e => by
          obtain ⟨y0, h1, h2⟩ := bs y hy
          exact ha' y0 h1 hpos (h2.trans e)
        have K3 : Kept h g3 (· = p) := (K.trans k2).trans k3
        by_cases hc : at_ + k = 64
        · have hceq : bin Tryd.prog .eql 3 (i64n (at_ + k)) (.int .i64 64) = some (.bool true) := by
            unfold i64n
            rw [bin_eql, hc]
            rfl
          have hg3 : 4 ≤ g3.n0 := by rw [K3.n0]; exact hG
          obtain ⟨g4, e4, k4, G4⟩ := r149 hg3 (Kept.getE K3 hz h3p) (p := p) o'.S ok2.B ok2.by_ G3' (by rw [K3.n0]; exact hp0)
          have hS : (s'.put l').S = compS s'.S (s'.put l').B := by
            unfold HD.put
            simp only [hat, hlen, hk]
            rw [if_pos hc]
          rw [← hS] at G4
          simp -implicitDefEqProofs only [decide_eq_true hpos, y0, nilCheck_ptr, addP_ptr, Nat.zero_add, l72, hrem, arr64 hm, e2, ll72, hadd, e3, es, hadd2, hceq, e4, thenV_some, pu_some]
          exact Rnd.next (n' - k) (by omega) ⟨s'.put l', a2, n' - k, c2, l'.drop k, rfl, y0, rfl, k4.bytes ss ha2, fun _ => gs, ha2, ok2, G4, K3.trans k4, hwr, by rw [hnn]; omega⟩
        · have hceq : bin Tryd.prog .eql 3 (i64n (at_ + k)) (.int .i64 64) = some (.bool false) := by
            unfold i64n
            rw [bin_eql]
            congr 2
            simp only [beq_eq_false_iff_ne, ne_eq]
            omega
          have hS : (s'.put l').S = s'.S := by
            unfold HD.put
            simp only [hat, hlen, hk]
            rw [if_neg hc]
          rw [← hS] at G3'
          simp -implicitDefEqProofs only [decide_eq_true hpos, y0, nilCheck_ptr, addP_ptr, Nat.zero_add, l72, hrem, arr64 hm, e2, ll72, hadd, e3, es, hadd2, hceq, thenV_some, pu_some]
          exact Rnd.next (n' - k) (by omega) ⟨s'.put l', a2, n' - k, c2, l'.drop k, rfl, y0, rfl, ss, fun _ => gs, ha2, ok2, G3', K3, hwr, by rw [hnn]; omega⟩
      · have h0 : n' = 0 := by omega
        subst h0
        have : l' = [] := List.length_eq_zero_iff.1 hlen
        subst this
        simp -implicitDefEqProofs only [decide_eq_false hpos]
        rw [HD.wr_nil] at hw
        refine Rnd.out 0 ⟨rfl, K, by rw [← hw]; exact gp, by rw [← hw]; exact o', by rw [← hw]; omega⟩
    · rintro _ y g ⟨rfl, K, G, O, N⟩
      simp -implicitDefEqProofs only [endL_exit, b122_2, if_true]
      rw [results122]
      exact ⟨g, rfl, K, G, O, N⟩
  obtain ⟨o1, e, h', e', r⟩ := key
  exact ⟨h', CW_body is122 hG rfl ((t122_eq _ _ _ _).trans (e.trans e')), r⟩
end Go.Proofs.YtdnahgfgoajmcaaDoor

namespace Go.Proofs.YtdnahgfgoajmcaaDoor
open Go Go.Abs
attribute [local congr] thenV_congr
/-- The table of the padding, with some of the length's bytes. -/
def padT (N v : Nat) : Nat → List Nat
  | 0 => 128 :: List.replicate 71 0
  | j + 1 => (padT N v j).set (N + j) (v / 2 ^ (56 - 8 * j) % 256)
/-- What is written behind a message of n bytes. -/
def padOf (n : Nat) : List Nat := (padT (64 - (n + 8) % 64) (n * 8) 8).take (64 - (n + 8) % 64 + 8)
/-- Some bytes of a state. -/
def digT (S : List (BitVec 32)) : Nat → List Nat
  | 0 => List.replicate 32 0
  | j + 1 => (digT S j).set j ((S.getD (j / 4) 0).toNat / 2 ^ (24 - 8 * (j % 4)) % 256)
def HD.sum (s : HD) : List Nat := digT (s.wr (padOf s.n)).S 32
theorem padT_len (N v : Nat) : ∀ j, (padT N v j).length = 72
  | 0 => rfl
  | j + 1 => by rw [padT, List.length_set, padT_len N v j]
theorem digT_len (S : List (BitVec 32)) : ∀ j, (digT S j).length = 32
  | 0 => rfl
  | j + 1 => by rw [digT, List.length_set, digT_len S j]
theorem bys_set {l : List Nat} (h : Bys l) (i : Nat) {x : Nat} (hx : x < 256) : Bys (l.set i x) := fun y hy => by
  rcases List.mem_or_eq_of_mem_set hy with h1 | h1
  · exact h y h1
  · omega
theorem padT_bys (N v : Nat) : ∀ j, Bys (padT N v j)
  | 0 => fun x hx => by
    have hx : x ∈ 128 :: List.replicate 71 0 := hx
    rcases List.mem_cons.1 hx with h | h
    · omega
    · have := List.eq_of_mem_replicate h; omega
  | j + 1 => bys_set (padT_bys N v j) _ (Nat.mod_lt _ (by decide))
theorem digT_bys (S : List (BitVec 32)) : ∀ j, Bys (digT S j)
  | 0 => fun x hx => by have := List.eq_of_mem_replicate (show x ∈ List.replicate 32 0 from hx); omega
  | j + 1 => bys_set (digT_bys S j) _ (Nat.mod_lt _ (by decide))
theorem sum_d32 (s : HD) : D32 s.sum := ⟨digT_len _ 32, digT_bys _ 32⟩
theorem words_ok (l : List (BitVec 32)) : Abs.noHoles (wvs l) = true ∧ oneCells (wvs l) = true := by
  induction l with
  | nil => exact ⟨rfl, rfl⟩
  | cons x l ih => exact ⟨ih.1, ih.2⟩
theorem hash_ok (s : HD) : Abs.noHoles s.cells = true ∧ oneCells s.cells = true := by
  have a := words_ok s.S
  unfold HD.cells hashC
  exact ⟨noHoles_append _ _ a.1 (noHoles_append _ _ (noHoles_u8 _) rfl), oneCells_append _ _ a.2 (oneCells_append _ _ (one_u8 _) rfl)⟩
/-- The first loop of Sum. -/
theorem sum1 {h : Heap} {b N v : Nat} (hN : N ≤ 64) (_hv : v < 18446744073709551616) (hb : h.n0 ≤ b) (hw : h.get b = some (u8s (padT N v 0))) {p2 p3 : Value}
    {x : Nat → Value} (x2 : x 2 = p2) (x3 : x 3 = p3) (x4 : x 4 = ptr b 0) (x5 : x 5 = i64n N) (x6 : x 6 = .int .u64 (v : Int)) (x30 : x 30 = i64n 0) :
    Fin 66 (fun ex y g => ex = .exit 0 ∧ y 2 = p2 ∧ y 3 = p3 ∧ y 4 = ptr b 0 ∧ y 5 = i64n N ∧ Kept h g (· = b) ∧ g.get b = some (u8s (padT N v 8)) ∧ g.next = h.next) (iter (codeA Tryd.prog CW (partOf Tryd.f123 [1, 1, 1, 1, 1, 1, 1, 0, 1, 0, 0])) rounds (mkF 66 x) h) := by
  refine loop_fin (t123l123_1111111010_eq CW) (Inv := fun k y g => ∃ j, j + k = 8 ∧ y 2 = p2 ∧ y 3 = p3 ∧ y 4 = ptr b 0 ∧ y 5 = i64n N ∧ y 6 = .int .u64 (v : Int) ∧ y 30 = i64n j ∧ Kept h g (· = b) ∧ g.get b = some (u8s (padT N v j)) ∧ g.next = h.next) ?_ 8 (by have : rounds = 18446744073709551616 := rfl; omega) ⟨0, Nat.zero_add _, x2, x3, x4, x5, x6, x30, Kept.refl _ _, hw, rfl⟩
  rintro k y g ⟨j, hjk, y2, y3, y4, y5, y6, y30, K, gw, gn⟩
  unfold t123l123_1111111010
  have l8 : bin Tryd.prog .lss 3 (i64n j) (.int .i64 8) = some (.bool (decide (j < 8))) := lss3 j 8
  simp -implicitDefEqProofs only [y30, l8, thenV_some, pu_some]
  by_cases hj : j < 8
  · have a1 : bin Tryd.prog .add 3 (i64n N) (i64n j) = some (i64n (N + j)) := addc (c := j) (by omega)
    have m1 : bin Tryd.prog .mul 3 (.int .i64 8) (i64n j) = some (i64n (8 * j)) := by
      unfold i64n
      rw [bin_mul, show (8 : Int) * (j : Int) = ((8 * j : Nat) : Int) by omega, wrap_i64 (by omega) (by omega)]
    have s1 : bin Tryd.prog .sub 3 (.int .i64 56) (i64n (8 * j)) = some (i64n (56 - 8 * j)) := by
      unfold i64n
      rw [bin_sub, show (56 : Int) - ((8 * j : Nat) : Int) = ((56 - 8 * j : Nat) : Int) by omega, wrap_i64 (by omega) (by omega)]
    have r1 : bin Tryd.prog .shr 32 (.int .u64 (v : Int)) (i64n (56 - 8 * j)) = some (.int .u64 ((v / 2 ^ (56 - 8 * j) : Nat) : Int)) := bin_shr_nat Tryd.prog 32 (by show 56 - 8 * j ≤ 64; omega)
    have c1 : cvI .u8 (.int .u64 ((v / 2 ^ (56 - 8 * j) : Nat) : Int)) g = some (u8 (v / 2 ^ (56 - 8 * j) % 256), g) := by
      rw [cvI_int, wrap_u8_mod]
      rfl
    have ix : idxA 72 1 (ptr b 0) (i64n (N + j)) = some (ptr b (N + j)) := by rw [idxN (by omega), Nat.zero_add]
    obtain ⟨g2, e2, k2, t2, _, n2⟩ := stored (o := N + j) (v := u8 (v / 2 ^ (56 - 8 * j) % 256)) gw (by rw [K.n0]; exact hb) (by rw [List.length_map, padT_len]; omega) rfl rfl
    simp -implicitDefEqProofs only [decide_eq_true hj, y4, y5, y6, a1, m1, s1, r1, c1, ix, e2, add31 (show j + 1 ≤ 9223372036854775807 by omega), thenV_some, pu_some]
    refine Rnd.next (k - 1) (by omega) ⟨j + 1, by omega, y2, y3, y4, y5, y6, rfl, K.trans k2, ?_, n2.trans gn⟩
    rw [t2, padT]
    show some ((List.map u8 (padT N v j)).set (N + j) (u8 (v / 2 ^ (56 - 8 * j) % 256))) = some (List.map u8 ((padT N v j).set (N + j) (v / 2 ^ (56 - 8 * j) % 256)))
    rw [List.map_set]
  · have : j = 8 := by omega
    subst this
    simp -implicitDefEqProofs only [decide_eq_false hj]
    exact Rnd.out 0 ⟨rfl, y2, y3, y4, y5, K, gw, gn⟩
/-- The second loop of Sum. -/
theorem sum2 {h : Heap} {b p : Nat} {S : List (BitVec 32)} {B : List Nat} {n : Nat} (hS : S.length = 8) (hp : h.get p = some (hashC S B n)) (hpb : p ≠ b) (hb : h.n0 ≤ b) (hw : h.get b = some (u8s (digT S 0))) {p2 : Value}
    {x : Nat → Value} (x2 : x 2 = p2) (x3 : x 3 = ptr p 0) (x8 : x 8 = ptr b 0) (x48 : x 48 = i64n 0) :
    Fin 66 (fun ex y g => ex = .exit 2 ∧ y 2 = p2 ∧ y 8 = ptr b 0 ∧ Kept h g (· = b) ∧ g.get b = some (u8s (digT S 32)) ∧ g.next = h.next) (iter (codeA Tryd.prog CW (partOf Tryd.f123 [1, 1, 1, 1, 1, 1, 1, 1, 1, 1, 0, 1, 0, 0])) rounds (mkF 66 x) h) := by
  refine loop_fin (t123l123_1111111111010_eq CW) (Inv := fun k y g => ∃ j, j + k = 32 ∧ y 2 = p2 ∧ y 3 = ptr p 0 ∧ y 8 = ptr b 0 ∧ y 48 = i64n j ∧ Kept h g (· = b) ∧ g.get b = some (u8s (digT S j)) ∧ g.next = h.next) ?_ 32 (by have : rounds = 18446744073709551616 := rfl; omega) ⟨0, Nat.zero_add _, x2, x3, x8, x48, Kept.refl _ _, hw, rfl⟩
  rintro k y g ⟨j, hjk, y2, y3, y8, y48, K, gw, gn⟩
  unfold t123l123_1111111111010
  have l32 : bin Tryd.prog .lss 3 (i64n j) (.int .i64 32) = some (.bool (decide (j < 32))) := lss3 j 32
  simp -implicitDefEqProofs only [y48, l32, thenV_some, pu_some]
  by_cases hj : j < 32
  · have q1 : bin Tryd.prog .quo 3 (i64n j) (.int .i64 4) = some (i64n (j / 4)) := by
      unfold i64n
      rw [bin_quo Tryd.prog 3 .i64 _ 4 (by decide), show Int.tdiv (j : Int) 4 = ((j / 4 : Nat) : Int) from rfl, wrap_i64 (by omega) (by omega)]
    have r1 : bin Tryd.prog .rem 3 (i64n j) (.int .i64 4) = some (i64n (j % 4)) := by
      unfold i64n
      rw [bin_rem Tryd.prog 3 .i64 _ 4 (by decide)]
      rfl
    have m1 : bin Tryd.prog .mul 3 (.int .i64 8) (i64n (j % 4)) = some (i64n (8 * (j % 4))) := by
      unfold i64n
      rw [bin_mul, show (8 : Int) * ((j % 4 : Nat) : Int) = ((8 * (j % 4) : Nat) : Int) by omega, wrap_i64 (by omega) (by omega)]
    have s1 : bin Tryd.prog .sub 3 (.int .i64 24) (i64n (8 * (j % 4))) = some (i64n (24 - 8 * (j % 4))) := by
      unfold i64n
      rw [bin_sub, show (24 : Int) - ((8 * (j % 4) : Nat) : Int) = ((24 - 8 * (j % 4) : Nat) : Int) by omega, wrap_i64 (by omega) (by omega)]
    have gp : g.get p = some (hashC S B n) := Kept.getE K hp hpb
    have lp : ld1 (ptr p (j / 4)) g = some (wv (S.getD (j / 4) 0), g) := ld1_at gp (hash_word (by omega)) rfl
    have ixp : idxA 8 1 (ptr p 0) (i64n (j / 4)) = some (ptr p (j / 4)) := by rw [idxN (by omega), Nat.zero_add]
    have ixb : idxA 32 1 (ptr b 0) (i64n j) = some (ptr b j) := by rw [idxN hj, Nat.zero_add]
    have sh : bin Tryd.prog .shr 174 (wv (S.getD (j / 4) 0)) (i64n (24 - 8 * (j % 4))) = some (.int .u32 (((S.getD (j / 4) 0).toNat / 2 ^ (24 - 8 * (j % 4)) : Nat) : Int)) := bin_shr_nat Tryd.prog 174 (by show 24 - 8 * (j % 4) ≤ 32; omega)
    have c1 : cvI .u8 (.int .u32 (((S.getD (j / 4) 0).toNat / 2 ^ (24 - 8 * (j % 4)) : Nat) : Int)) g = some (u8 ((S.getD (j / 4) 0).toNat / 2 ^ (24 - 8 * (j % 4)) % 256), g) := by
      rw [cvI_int, wrap_u8_mod]
      rfl
    obtain ⟨g2, e2, k2, t2, _, n2⟩ := stored (o := j) (v := u8 ((S.getD (j / 4) 0).toNat / 2 ^ (24 - 8 * (j % 4)) % 256)) gw (by rw [K.n0]; exact hb) (by rw [List.length_map, digT_len]; omega) rfl rfl
    simp -implicitDefEqProofs only [decide_eq_true hj, y3, y8, q1, r1, m1, s1, addP_ptr, Nat.zero_add, ixp, lp, sh, c1, ixb, e2, add31 (show j + 1 ≤ 9223372036854775807 by omega), thenV_some, pu_some]
    refine Rnd.next (k - 1) (by omega) ⟨j + 1, by omega, y2, y3, y8, rfl, K.trans k2, ?_, n2.trans gn⟩
    rw [t2, digT]
    show some ((List.map u8 (digT S j)).set j (u8 ((S.getD (j / 4) 0).toNat / 2 ^ (24 - 8 * (j % 4)) % 256))) = some (List.map u8 ((digT S j).set j ((S.getD (j / 4) 0).toNat / 2 ^ (24 - 8 * (j % 4)) % 256)))
    rw [List.map_set]
  · have : j = 32 := by omega
    subst this
    simp -implicitDefEqProofs only [decide_eq_false hj]
    exact Rnd.out 2 ⟨rfl, y2, y8, K, gw, gn⟩
abbrev zHash : List Value := [(.int .u32 0), (.int .u32 0), (.int .u32 0), (.int .u32 0), (.int .u32 0), (.int .u32 0), (.int .u32 0), (.int .u32 0), (.int .u8 0), (.int .u8 0), (.int .u8 0), (.int .u8 0), (.int .u8 0), (.int .u8 0), (.int .u8 0), (.int .u8 0), (.int .u8 0), (.int .u8 0), (.int .u8 0), (.int .u8 0), (.int .u8 0), (.int .u8 0), (.int .u8 0), (.int .u8 0), (.int .u8 0), (.int .u8 0), (.int .u8 0), (.int .u8 0), (.int .u8 0), (.int .u8 0), (.int .u8 0), (.int .u8 0), (.int .u8 0), (.int .u8 0), (.int .u8 0), (.int .u8 0), (.int .u8 0), (.int .u8 0), (.int .u8 0), (.int .u8 0), (.int .u8 0), (.int .u8 0), (.int .u8 0), (.int .u8 0), (.int .u8 0), (.int .u8 0), (.int .u8 0), (.int .u8 0), (.int .u8 0), (.int .u8 0), (.int .u8 0), (.int .u8 0), (.int .u8 0), (.int .u8 0), (.int .u8 0), (.int .u8 0), (.int .u8 0), (.int .u8 0), (.int .u8 0), (.int .u8 0), (.int .u8 0), (.int .u8 0), (.int .u8 0), (.int .u8 0), (.int .u8 0), (.int .u8 0), (.int .u8 0), (.int .u8 0), (.int .u8 0), (.int .u8 0), (.int .u8 0), (.int .u8 0), (.int .i64 0)]
end Go.Proofs.YtdnahgfgoajmcaaDoor

namespace Go.Proofs.YtdnahgfgoajmcaaDoor
open Go Go.Abs
attribute [local congr] thenV_congr
end Go.Proofs.YtdnahgfgoajmcaaDoor

namespace Go.Proofs.YtdnahgfgoajmcaaDoor
open Go Go.Abs
attribute [local congr] thenV_congr
end Go.Proofs.YtdnahgfgoajmcaaDoor

namespace Go.Proofs.YtdnahgfgoajmcaaDoor
open Go Go.Abs
attribute [local congr] thenV_congr
theorem Typed.kinds {ks : List Kd} {cs : List Value} (h : Typed ks cs) : ∀ v ∈ cs, ∃ k : Kd, k.has v := by
  intro v hv
  obtain ⟨j, hj⟩ := List.mem_iff_getElem?.1 hv
  have hlt := (List.getElem?_eq_some_iff.1 hj).1
  rw [h.1] at hlt
  obtain ⟨w, hw, hk⟩ := h.2 j _ (List.getElem?_eq_getElem hlt)
  rw [hj] at hw
  cases hw
  exact ⟨_, hk⟩
theorem res_cell {rs : List ResultVar} {n k t z : Nat} (hr : rs = [.cell k t]) (h1 : aggT Tryd.prog t = some true) (h2 : sizeT Tryd.prog t = some z) (hk : k < n) (x : Nat → Value) {h : Heap} {v : Value} (e : ldN z (x k) h = some (v, h)) : resultsA Tryd.prog rs (mkF n x) h = some (v, h) := by
  subst hr
  simp only [resultsA, resultA, getD_mkF hk, ld_agg h1 h2, e]
  rfl
end Go.Proofs.YtdnahgfgoajmcaaDoor

