/-
  The wire: messages as arguments.
  Conditions: the argument can be read as data.
  The wire: messages as plain data.
  Conditions: as each theorem states.
  The wire: manifests and bodies, written.
  Conditions: as each theorem states.
  The inventory: records and bytes as arguments; the digest's table as it is laid.
  Conditions: the argument can be read as data.
  The wire's known run; the calls' evaluator; lists of typed cells, and their equality.
  Conditions: as each theorem states.
  The wire: slices of typed cells, and their comparison, element by element.
  Conditions: as each theorem states.
  Taken over from the disk's texts: numbers of functions and types are mapped.
  Conditions: as each theorem states.
  The wire: Decode.
  Conditions: as each theorem states.
  The wire: Decode.
  Conditions: as each theorem states.
  The wire's plain law: bytes that are decoded are the frame of their message.
  Conditions: as each theorem states.
  The reference's reader: digest, head.
  Conditions: as each theorem states.
  The reference: validity of a message's parts.
  Conditions: as each theorem states.
  The reference: the record of bytes.
  Conditions: as each theorem states.
  The reference: text, a record's and a manifest's bytes.
  Conditions: as each theorem states.
  Words of 32 bits in the machine.
  Conditions: as each theorem states.
  The digest's compression of a block.
  Conditions: as each theorem states.
  The digest's compression of a block: the other words, and the rounds.
  Conditions: as each theorem states.
  The digest's compression of a block: the 64 rounds, and the whole.
  Conditions: the digest's table holds what it holds at the start.
  The digest's compression of a block, whole.
  Conditions: the digest's table holds what it holds at the start.
  The digest's Hash: bytes are written.
  Conditions: the digest's table holds what it holds at the start.
  The digest's Hash: Write.
  Conditions: the digest's table holds what it holds at the start.
  The digest's Hash: Sum.
  Conditions: the digest's table holds what it holds at the start.
  InventoryRecords: the keys of records, on both sides; the bytes of records that are not valid.
  Conditions: as each theorem states.
  InventoryRecords: keys as bytes, on both sides; the bytes of records that are not valid.
  Conditions: as each theorem states.
  InventoryRecords: which of two records is newer, on the inventory's side.
  Conditions: as each theorem states.
  The digest's Hash: Sum, whole; NewHash.
  Conditions: the digest's table holds what it holds at the start.
  The hashes of records and of nodes.
  Conditions: the digest's table holds what it holds at the start.
  The document's SHA-256: the words of a block.
  Conditions: as each theorem states.
  The document's SHA-256: the rounds.
  Conditions: as each theorem states.
  The document's SHA-256: a block.
  Conditions: as each theorem states.
  The document's SHA-256: the padding of a message.
  Conditions: as each theorem states.
  The document's SHA-256: the blocks, and the digest's bytes.
  Conditions: as each theorem states.
  The document's SHA-256: fold.
  Conditions: as each theorem states.
  The document's hashes of records and of nodes.
  Conditions: the package variables hold what they hold at the start.
  The document's hash of two hashes.
  Conditions: the package variables hold what they hold at the start.
  Both hashes are one: what is written, block by block.
  Conditions: none (plain lists).
  Both hashes are one.
  Conditions: none (plain lists).
  Both sides hash records and nodes alike.
  Conditions: none (plain lists).
  InventoryVerifies: half, of the document.
  Conditions: as each theorem states.
-/
import Derived.Test.YtdnahgfgoajmcaaDoorG12
import Derived.OpenShut
namespace Go.Proofs.YtdnahgfgoajmcaaDoor
open Go Go.Abs
open Go.ChangeShapes Go.WideShapes Go.ChangeAt Go.RowKit
/-- Some cells out of many are of these kinds. -/
def Pc (ks : List Kd) (o : Nat) (cs : List Value) : Prop := Typed ks ((cs.drop o).take ks.length)
theorem Pc.app {ks ls : List Kd} {o : Nat} {cs : List Value} (x : Pc ks o cs) (y : Pc ls (o + ks.length) cs) : Pc (ks ++ ls) o cs := by
  unfold Pc at *
  rw [List.length_append, List.take_add, List.drop_drop]
  exact x.app y
theorem Pc.whole {ks : List Kd} {cs : List Value} (x : Pc ks 0 cs) (h : cs.length = ks.length) : Typed ks cs := by
  unfold Pc at x
  rw [List.drop_zero, ← h, List.take_length] at x
  exact x
theorem clean_nice {n : Nat} {v : Value} (h : nice n v = true) : clean n v = v := by unfold clean; rw [if_pos h]
theorem Kd.has.clean {k : Kd} {v : Value} (h : k.has v) (n : Nat) : clean n v = v := by
  cases k with
  | u8 => obtain ⟨m, rfl, _⟩ := h; rfl
  | i k => obtain ⟨m, rfl, _⟩ := h; rfl
  | b => obtain ⟨t, rfl⟩ := h; rfl
theorem Typed.clean {ks : List Kd} {cs : List Value} (h : Typed ks cs) (n : Nat) : cs.map (clean n) = cs := by
  refine List.ext_getElem? fun j => ?_
  rw [List.getElem?_map]
  by_cases hj : j < ks.length
  · obtain ⟨v, h1, h2⟩ := h.2 j _ (List.getElem?_eq_getElem hj)
    rw [h1, Option.map_some, h2.clean]
  · rw [List.getElem?_eq_none (by rw [h.1]; omega)]; rfl
theorem u8_lit {n : Int} (h : (Lit.int .u8 n).wf = true) : ∃ m : Nat, n = m ∧ m < 256 := by
  simp [Lit.wf, IntKind.min, IntKind.max, IntKind.signed, IntKind.bits] at h
  exact ⟨n.toNat, by omega, by omega⟩
theorem clean_slice {W : World} {a : Addr} {len cap : Nat} (hlc : len ≤ cap) (hc : 0 < cap → a.spot = none ∧ a.block < W.heap.size) :
    isHole (clean W.heap.size (.slice (some a) len cap)) = false ∧ ∃ a' , clean W.heap.size (.slice (some a) len cap) = .slice (some a') len cap ∧ (0 < cap → a' = a) := by
  obtain ⟨b, off, s⟩ := a
  by_cases h0 : 0 < cap
  · obtain ⟨h1, h2⟩ := hc h0
    have h1' : s = none := h1
    have h2' : b < W.heap.size := h2
    subst h1'
    have hn : nice W.heap.size (.slice (some ⟨b, off, none⟩) len cap) = true := by simpa [nice] using h2'
    rw [clean_nice hn]
    exact ⟨rfl, _, rfl, fun _ => rfl⟩
  · obtain rfl : cap = 0 := by omega
    obtain rfl : len = 0 := by omega
    by_cases hn : nice W.heap.size (.slice (some ⟨b, off, s⟩) 0 0) = true
    · rw [clean_nice hn]
      exact ⟨rfl, _, rfl, fun h => absurd h h0⟩
    · have : clean W.heap.size (.slice (some ⟨b, off, s⟩) 0 0) = .slice (some ⟨0, 0, some 0⟩) 0 0 := by unfold clean; rw [if_neg hn]; rfl
      rw [this]
      exact ⟨rfl, _, rfl, fun h => absurd h h0⟩
theorem add_block (a : Addr) (n : Nat) : (a.add n).block = a.block := by unfold Addr.add; split <;> rfl
theorem add_off (a : Addr) (n : Nat) : (a.add n).off = a.off + n := by
  unfold Addr.add
  split
  · rename_i h; rw [h]; rfl
  · rfl
section
variable {H : Type} {enc : TypeId × Value → H} {W : World} {base : Nat} {held : Bool}
/-- What can be read as data of this type has cells of these kinds. -/
def Reads (enc : TypeId × Value → H) (W : World) (base : Nat) (held : Bool) (t : TypeId) (ks : List Kd) : Prop :=
  ∀ fuel cs x, DataW.trod enc Tryd.prog W base (fun _ => true) held fuel t cs = some x → Typed ks cs
theorem reads_u8 {t : TypeId} (ht : Tryd.prog.underlying t = some (.int .u8)) : Reads enc W base held t [.u8] := fun fuel cs x h => by
  obtain ⟨n, rfl, _, w⟩ := DataW.trod_int ht h
  obtain ⟨m, rfl, hm⟩ := u8_lit w
  exact .one ⟨m, rfl, hm⟩
theorem reads_i {t : TypeId} {k : IntKind} (ht : Tryd.prog.underlying t = some (.int k)) : Reads enc W base held t [.i k] := fun fuel cs x h => by
  obtain ⟨n, rfl, _, w⟩ := DataW.trod_int ht h
  exact .one ⟨n, rfl, w⟩
theorem reads_b {t : TypeId} (ht : Tryd.prog.underlying t = some .bool) : Reads enc W base held t [.b] := fun fuel cs x h => by
  obtain ⟨n, rfl, _⟩ := DataW.trod_bool ht h
  exact .one ⟨n, rfl⟩
theorem reads_arr {t e : TypeId} {n : Nat} {k : Kd} (ht : Tryd.prog.underlying t = some (.array n e)) (h1 : Tryd.prog.cellsOf e = 1) (hn : Tryd.prog.cellsOf t = n) (R : Reads enc W base held e [k]) : Reads enc W base held t (List.replicate n k) := fun fuel cs x h => by
  obtain ⟨xs, m, rfl, _, hl, hx, hf⟩ := DataW.trod_array ht h
  rw [hn] at hl
  refine ⟨by rw [hl, List.length_replicate], fun j t' hj => ?_⟩
  have hj' : j < n := by
    have := (List.getElem?_eq_some_iff.1 hj).1
    rwa [List.length_replicate] at this
  rw [List.getElem?_replicate, if_pos hj'] at hj
  cases hj
  have := hf j hj'
  rw [List.getElem?_eq_getElem (by omega), h1, Nat.mul_one] at this
  obtain ⟨v, g1, g2⟩ := (R _ _ _ this).2 0 k rfl
  rw [List.getElem?_take, if_pos (by omega), List.getElem?_drop, Nat.add_zero] at g1
  exact ⟨v, g1, g2⟩
theorem fld {fuel : Nat} {t : TypeId} {cs : List Value} {x : DataW H × List MemPlace} {fs : Array Field} (ht : Tryd.prog.underlying t = some (.struct fs)) (h : DataW.trod enc Tryd.prog W base (fun _ => true) held fuel t cs = some x) {i z : Nat} {f : Field} (hf : fs[i]? = some f) (hz : Tryd.prog.cellsOf f.type = z) :
    ∃ m y, DataW.trod enc Tryd.prog W base (fun _ => true) held m f.type ((cs.drop f.offset).take z) = some y := by
  obtain ⟨xs, n, rfl, _, _, hl, h2⟩ := DataW.trod_struct ht h
  have := h2 i f hf
  rw [List.getElem?_eq_getElem (by rw [hl]; exact (Array.getElem?_eq_some_iff.1 hf).1), hz] at this
  exact ⟨_, _, this⟩
theorem piece {fuel : Nat} {t : TypeId} {cs : List Value} {x : DataW H × List MemPlace} {fs : Array Field} (ht : Tryd.prog.underlying t = some (.struct fs)) (h : DataW.trod enc Tryd.prog W base (fun _ => true) held fuel t cs = some x) {i : Nat} {f : Field} {ks : List Kd} (hf : fs[i]? = some f) (hz : Tryd.prog.cellsOf f.type = ks.length)
    (R : Reads enc W base held f.type ks) : Pc ks f.offset cs := by
  obtain ⟨m, y, e⟩ := fld ht h hf hz
  exact R _ _ _ e
theorem sl_of {t e : TypeId} {ks : List Kd} (ht : Tryd.prog.underlying t = some (.slice e)) (he : Tryd.prog.cellsOf e = ks.length) (hz : 0 < ks.length) (R : Reads enc W base held e ks) {fuel : Nat} {v : Value} {x : DataW H × List MemPlace}
    (h : DataW.trod enc Tryd.prog W base (fun _ => true) held fuel t [v] = some x) : isHole (clean W.heap.size v) = false ∧ ∃ n cs, SlN (topHeap W (view W)) ks (clean W.heap.size v) n cs := by
  have nilT : TypedN ks 0 [] := ⟨by simp, fun i hi => absurd hi (Nat.not_lt_zero i)⟩
  rcases DataW.trod_slice ht h with ⟨h1, _⟩ | ⟨a, len, cap, elems, rest, n, _, h1, _, _, hlc, hcm, hl, hel, hsp, _⟩
  · cases h1
    exact ⟨rfl, 0, [], none, 0, rfl, fun _ => rfl, nilT, fun h => absurd h (Nat.lt_irrefl 0)⟩
  · cases h1
    rw [he] at hel hsp
    have hpos : 0 < cap → a.spot = none ∧ a.block < W.heap.size := by
      intro h0
      have key : ∃ cs, W.cells? base (a.add (0 * ks.length)) ks.length = some cs := by
        by_cases hlen : 0 < len
        · have := hel 0 hlen
          rw [List.getElem?_eq_getElem (by omega), Option.bind_eq_some_iff] at this
          obtain ⟨cs, hc, _⟩ := this
          exact ⟨cs, hc⟩
        · have := (hsp rfl).2 0 (by omega)
          rw [List.getElem?_eq_getElem (by rw [(hsp rfl).1]; omega), Option.bind_eq_some_iff] at this
          obtain ⟨cs, hc, _⟩ := this
          obtain rfl : len = 0 := by omega
          exact ⟨cs, hc⟩
      obtain ⟨cs, hc⟩ := key
      obtain ⟨_, hlen, hcell⟩ := World.cells?_some hc
      have g := hcell 0 hz
      obtain ⟨c0, hc0⟩ : ∃ c0, cs[0]? = some c0 := ⟨cs[0], List.getElem?_eq_getElem (by omega)⟩
      rw [hc0, Nat.zero_mul] at g
      have g : W.cell? a = some c0 := g
      obtain ⟨e1, e2, _⟩ := view_cell g
      exact ⟨e1, e2⟩
    obtain ⟨g1, a', g2, g3⟩ := clean_slice (W := W) hlc hpos
    refine ⟨g1, len, ?_⟩
    by_cases h0 : len = 0
    · subst h0
      exact ⟨[], _, _, g2, fun _ => rfl, nilT, fun h => absurd h (Nat.lt_irrefl 0)⟩
    have ha := g3 (by omega)
    subst ha
    have each : ∀ i, i < len → ∃ k es, view W a'.block = some k ∧ Typed ks es ∧ ∀ j, j < ks.length → k[a'.off + i * ks.length + j]? = es[j]? := by
      intro i hi
      have h2 := hel i hi
      rw [List.getElem?_eq_getElem (by omega), Option.bind_eq_some_iff] at h2
      obtain ⟨es, hc, ht⟩ := h2
      have ty := R _ _ _ ht
      obtain ⟨_, hlen, hcell⟩ := World.cells?_some hc
      have vc : ∀ j, j < ks.length → ∃ k, view W a'.block = some k ∧ k[a'.off + i * ks.length + j]? = es[j]? := by
        intro j hj
        obtain ⟨u, h3, h4⟩ := ty.2 j _ (List.getElem?_eq_getElem hj)
        have g := hcell j hj
        rw [h3] at g
        obtain ⟨_, _, k, hk, hc2⟩ := view_cell g
        rw [add_block, add_block] at hk
        rw [add_off, add_off, h4.clean] at hc2
        exact ⟨k, hk, by rw [hc2, h3]⟩
      obtain ⟨k, hk, _⟩ := vc 0 hz
      refine ⟨k, es, hk, ty, fun j hj => ?_⟩
      obtain ⟨k', hk', e⟩ := vc j hj
      rw [hk] at hk'
      cases hk'
      exact e
    obtain ⟨k, _, hk, _⟩ := each 0 (by omega)
    have each : ∀ i, i < len → ∃ es, Typed ks es ∧ ∀ j, j < ks.length → k[a'.off + i * ks.length + j]? = es[j]? := fun i hi => by
      obtain ⟨k', es, hk', h1, h2⟩ := each i hi
      rw [hk] at hk'
      cases hk'
      exact ⟨es, h1, h2⟩
    have hlen : a'.off + len * ks.length ≤ k.length := by
      obtain ⟨es, ty, e⟩ := each (len - 1) (by omega)
      have := e (ks.length - 1) (by omega)
      obtain ⟨u, hu, _⟩ := ty.2 (ks.length - 1) _ (List.getElem?_eq_getElem (by omega))
      rw [hu] at this
      have := (List.getElem?_eq_some_iff.1 this).1
      have h9 : len * ks.length = (len - 1) * ks.length + ks.length := by
        conv => lhs; rw [show len = (len - 1) + 1 by omega, Nat.add_mul, Nat.one_mul]
      omega
    refine ⟨(k.drop a'.off).take (len * ks.length), _, _, g2, fun h => (by cases h), ⟨by rw [List.length_take, List.length_drop]; omega, fun i hi => ?_⟩, fun _ => ⟨a'.block, a'.off, a'.spot, k, rfl, by rw [view_get]; exact hk, hlen, rfl⟩⟩
    obtain ⟨es, ty, e⟩ := each i hi
    have hm := mul_le (z := ks.length) hi
    have : (((k.drop a'.off).take (len * ks.length)).drop (i * ks.length)).take ks.length = es := by
      refine List.ext_getElem? fun j => ?_
      rw [List.getElem?_take]
      by_cases hj : j < ks.length
      · rw [if_pos hj, List.getElem?_drop, List.getElem?_take, if_pos (by omega), List.getElem?_drop, ← e j hj, Nat.add_assoc]
      · rw [if_neg hj, List.getElem?_eq_none (by rw [ty.1]; omega)]
    rw [this]
    exact ty
end
end Go.Proofs.YtdnahgfgoajmcaaDoor

namespace Go.Proofs.YtdnahgfgoajmcaaDoor
open Go Go.Abs
theorem wf_u64 {n : Int} (h : (Lit.int .u64 n).wf = true) : ∃ m : Nat, n = m ∧ m < 18446744073709551616 := by
  simp [Lit.wf, IntKind.min, IntKind.max, IntKind.signed, IntKind.bits] at h
  exact ⟨n.toNat, by omega, by omega⟩
theorem dig_of {xs : List Value} (h : Typed digK xs) : ∃ l, xs = u8s l ∧ D32 l := by
  have hl : xs.length = 32 := h.1
  have key : ∀ n, n ≤ 32 → ∃ l : List Nat, xs.take n = u8s l ∧ l.length = n ∧ Bys l := by
    intro n
    induction n with
    | zero => exact fun _ => ⟨[], rfl, rfl, fun x hx => by cases hx⟩
    | succ n ih =>
      intro hn
      obtain ⟨l, h1, h2, h3⟩ := ih (by omega)
      obtain ⟨m, h4, h5⟩ := dig_get h (i := n) (by omega)
      refine ⟨l ++ [m], ?_, by simp [h2], fun x hx => ?_⟩
      · rw [List.take_add_one, h1, h4]
        simp [u8s]
      · rcases List.mem_append.1 hx with hx | hx
        · exact h3 x hx
        · simp only [List.mem_cons, List.not_mem_nil, or_false] at hx
          subst hx; exact h5
  obtain ⟨l, h1, h2, h3⟩ := key 32 (Nat.le_refl _)
  rw [List.take_of_length_le (by omega)] at h1
  exact ⟨l, h1, h2, h3⟩
theorem rec_of {xs : List Value} (h : Typed recK xs) : ∃ r, xs = recC r ∧ r.Wf := by
  obtain ⟨a, o, b, c, d, e, f, g, rfl, ho, ha, wb, wc, wd, wf, wg⟩ := rec_form h
  obtain ⟨l, rfl, hl⟩ := dig_of ho
  obtain ⟨c, rfl, hc⟩ := wf_u64 wc
  obtain ⟨d, rfl, hd⟩ := wf_u64 wd
  exact ⟨⟨a, l, b, c, d, e, f, g⟩, rfl, ha, hl, wf_i64.1 wb, hc, hd, wf_i64.1 wf, wf_i64.1 wg⟩
theorem list_of {ks : List Kd} {α : Type} {f : α → List Value} {P : α → Prop} (hf : ∀ xs, Typed ks xs → ∃ a, xs = f a ∧ P a) : ∀ (n : Nat) (cs : List Value), TypedN ks n cs → ∃ l : List α, l.length = n ∧ cs = l.flatMap f ∧ ∀ a ∈ l, P a
  | 0, cs, h => ⟨[], rfl, by
      have : cs.length = 0 := by rw [h.1, Nat.zero_mul]
      exact List.length_eq_zero_iff.1 this, fun a ha => by cases ha⟩
  | n + 1, cs, h => by
    have hl : cs.length = (n + 1) * ks.length := h.1
    have h0 := h.2 0 (by omega)
    rw [Nat.zero_mul, List.drop_zero] at h0
    obtain ⟨a, ha, pa⟩ := hf _ h0
    have hl2 : (cs.drop ks.length).length = n * ks.length := by rw [List.length_drop, hl, Nat.add_mul]; omega
    obtain ⟨l, q1, q2, q3⟩ := list_of hf n (cs.drop ks.length) ⟨hl2, fun i hi => by
      have := h.2 (i + 1) (by omega)
      rw [List.drop_drop, show ks.length + i * ks.length = (i + 1) * ks.length by rw [Nat.add_mul]; omega]
      exact this⟩
    refine ⟨a :: l, by simp [q1], ?_, fun b hb => ?_⟩
    · rw [List.flatMap_cons, ← ha, ← q2, List.take_append_drop]
    · rcases List.mem_cons.1 hb with rfl | hb
      · exact pa
      · exact q3 b hb
end Go.Proofs.YtdnahgfgoajmcaaDoor

namespace Go.Proofs.YtdnahgfgoajmcaaDoor
open Go Go.Abs
attribute [local congr] thenV_congr
theorem SlN.bytes {h : Heap} {v : Value} {l : List Nat} (x : SlN h [.u8] v l.length (u8s l)) (hb : Bys l) : ∃ a c, v = .slice a l.length c ∧ sliceBytes a l.length h = some l ∧ (∀ y, a = some y → 0 < l.length → slB v = some y.block) := by
  obtain ⟨a, c, rfl, h1, h2, h3⟩ := x
  refine ⟨a, c, rfl, ?_, fun y hy hn => ?_⟩
  · by_cases h0 : l.length = 0
    · have : l = [] := List.length_eq_zero_iff.1 h0
      subst this
      cases a with
      | none => rfl
      | some y => unfold sliceBytes firstA; simp; rfl
    · obtain ⟨b, off, s, k, rfl, g, h4, h5⟩ := h3 (by omega)
      have h5 : (k.drop off).take (l.length * 1) = u8s l := h5
      have h4 : off + l.length * 1 ≤ k.length := h4
      rw [Nat.mul_one] at h4 h5
      have e : k = k.take off ++ (u8s l ++ k.drop (off + l.length)) := by rw [← h5, ← List.drop_drop, List.take_append_drop, List.take_append_drop]
      exact sliceBytes_mid g e (by rw [List.length_take]; omega) hb
  · subst hy
    obtain ⟨m, hm⟩ : ∃ m, l.length = m + 1 := ⟨l.length - 1, by omega⟩
    rw [hm]
    rfl
end Go.Proofs.YtdnahgfgoajmcaaDoor

namespace Go.Proofs.YtdnahgfgoajmcaaDoor
open Go Go.Abs
open Go.ChangeShapes Go.WideShapes Go.ChangeAt Go.RowKit
theorem SlN.typed {h : Heap} {ks : List Kd} {v : Value} {n : Nat} {cs : List Value} (x : SlN h ks v n cs) : TypedN ks n cs := by
  obtain ⟨a, c, rfl, _, h2, _⟩ := x
  exact h2
section
variable {H : Type} {enc : TypeId × Value → H} {W : World} {base : Nat} {held : Bool}
theorem rd5 : Reads enc W base held 5 [.u8] := reads_u8 Tryd.underlying5
theorem rd35 : Reads enc W base held 35 digK := reads_arr Tryd.underlying35 (by kernel_rfl) (by kernel_rfl) rd5
theorem rd58 : Reads enc W base held 58 recK := fun fuel cs x h => by
  have p0 : Pc [.u8] 0 cs := piece Tryd.underlying58 h (i := 0) rfl (by kernel_rfl) (reads_u8 Tryd.underlying56)
  have p1 : Pc digK 1 cs := piece Tryd.underlying58 h (i := 1) rfl (by kernel_rfl) rd35
  have p2 : Pc [.i .i64] 33 cs := piece Tryd.underlying58 h (i := 2) rfl (by kernel_rfl) (reads_i Tryd.underlying3)
  have p3 : Pc [.i .u64] 34 cs := piece Tryd.underlying58 h (i := 3) rfl (by kernel_rfl) (reads_i Tryd.underlying32)
  have p4 : Pc [.i .u64] 35 cs := piece Tryd.underlying58 h (i := 4) rfl (by kernel_rfl) (reads_i Tryd.underlying32)
  have p5 : Pc [.b] 36 cs := piece Tryd.underlying58 h (i := 5) rfl (by kernel_rfl) (reads_b Tryd.underlying4)
  have p6 : Pc [.i .i64] 37 cs := piece Tryd.underlying58 h (i := 6) rfl (by kernel_rfl) (reads_i Tryd.underlying3)
  have p7 : Pc [.i .i64] 38 cs := piece Tryd.underlying58 h (i := 7) rfl (by kernel_rfl) (reads_i Tryd.underlying3)
  obtain ⟨_, _, _, _, hl, _⟩ := DataW.trod_struct Tryd.underlying58 h
  exact (((((((p0.app p1).app p2).app p3).app p4).app p5).app p6).app p7).whole (hl.trans (by kernel_rfl))
end
def litOf {H : Type} : Value → DataW H
  | .int k n => .lit (.int k n)
  | _ => .agg []
theorem litOf_inj {H : Type} {v : Value} {k : IntKind} {n : Int} (h : (litOf v : DataW H) = .lit (.int k n)) : v = .int k n := by
  cases v with
  | int k' n' =>
    have h : (DataW.lit (Lit.int k' n') : DataW H) = .lit (.int k n) := h
    have q := Lit.int.inj (DataW.lit.inj h)
    rw [q.1, q.2]
  | _ => cases h
theorem len_rounds : roundsL.length = 64 := by kernel_rfl
theorem rounds_ints : (roundsL.all fun v => match v with | .int _ _ => true | _ => false) = true := by kernel_rfl
theorem nice_rounds (n : Nat) : ∀ v ∈ roundsL, clean n v = v := by
  intro v hv
  have h := rounds_ints
  rw [List.all_eq_true] at h
  have h := h v hv
  cases v with
  | int k m => exact clean_nice rfl
  | _ => cases h
theorem rounds_clean (n : Nat) : roundsL.map (clean n) = roundsL := by
  rw [List.map_congr_left (nice_rounds n), List.map_id']
/-- What a table of 64 words that reads as the digest's words holds. -/
theorem rounds_cells {W : World} {fuel : Nat} {cs : List Value} {p : List MemPlace} {d : DataW Unit} (hd : d = .agg (roundsL.map litOf)) (h : DataW.trod (fun _ => ()) Tryd.prog W 0 (fun _ => true) false fuel 175 cs = some (d, p)) : cs = roundsL := by
  subst hd
  obtain ⟨xs, m, rfl, hx, hl, hxl, hf⟩ := DataW.trod_array Tryd.underlying175 h
  have h175 : Tryd.prog.cellsOf 175 = 64 := by kernel_rfl
  have h174 : Tryd.prog.cellsOf 174 = 1 := by kernel_rfl
  rw [h175] at hl
  have hx := congrArg Prod.fst hx
  have hx : (DataW.agg (roundsL.map litOf) : DataW Unit) = .agg (xs.map (·.1)) := hx
  have hx := DataW.agg.inj hx
  refine List.ext_getElem? fun j => ?_
  by_cases hj : j < 64
  · have e := hf j hj
    rw [List.getElem?_eq_getElem (by omega), h174, Nat.mul_one] at e
    obtain ⟨n, e1, e2, _⟩ := DataW.trod_int Tryd.underlying174 e
    have q : (roundsL.map (litOf (H := Unit)))[j]? = (xs.map (·.1))[j]? := by rw [hx]
    rw [List.getElem?_map, List.getElem?_map, List.getElem?_eq_getElem (by rw [len_rounds]; exact hj), List.getElem?_eq_getElem (by omega), e2] at q
    have q := litOf_inj (Option.some.inj q)
    have e3 : ((cs.drop j).take 1)[0]? = some (.int .u32 n) := by rw [e1]; rfl
    rw [List.getElem?_take, if_pos (by decide), List.getElem?_drop, Nat.add_zero] at e3
    rw [e3, List.getElem?_eq_getElem (by rw [len_rounds]; exact hj), q]
  · rw [List.getElem?_eq_none (by omega), List.getElem?_eq_none (by rw [len_rounds]; omega)]
end Go.Proofs.YtdnahgfgoajmcaaDoor

namespace Go.Proofs.YtdnahgfgoajmcaaDoor
open Go Go.Abs
end Go.Proofs.YtdnahgfgoajmcaaDoor

namespace Go.Proofs.YtdnahgfgoajmcaaDoor
open Go Go.Abs
theorem add3 {a b : Nat} (h : a + b ≤ 9223372036854775807) : bin Tryd.prog .add 3 (i64n a) (.int .i64 (b : Int)) = some (i64n (a + b)) := by
  unfold i64n; rw [bin_add, wrap_i64 (by omega) (by omega), Int.natCast_add]
theorem add31 {a : Nat} (h : a + 1 ≤ 9223372036854775807) : bin Tryd.prog .add 3 (i64n a) (.int .i64 1) = some (i64n (a + 1)) := add3 h
theorem lss3 (a b : Nat) : bin Tryd.prog .lss 3 (i64n a) (i64n b) = some (.bool (decide (a < b))) := by
  rw [bin_lss]
  congr 2
  by_cases e : a < b
  · rw [decide_eq_true e, decide_eq_true (by omega)]
  · rw [decide_eq_false e, decide_eq_false (by omega)]
end Go.Proofs.YtdnahgfgoajmcaaDoor

namespace Go.Proofs.YtdnahgfgoajmcaaDoor
open Go Go.Abs
section
theorem OwnC.empty (h : Heap) {N size b : Nat} (hb : N ≤ b) : OwnC h N size (.slice (some ⟨b, 0, none⟩) 0 0) 0 [] := ⟨by simp, rfl, rfl, .inr ⟨b, none, rfl, hb, .inl ⟨rfl, rfl⟩⟩⟩
theorem OwnC.base {h : Heap} {N size : Nat} {v : Value} {len : Nat} {cells : List Value} (o : OwnC h N size v len cells) {b : Nat} (hb : baseOf v = some b) : N ≤ b := by
  obtain ⟨_, _, _, ⟨rfl, _⟩ | ⟨b', s, rfl, h5, _⟩⟩ := o
  · cases hb
  · cases hb; exact h5
end
section
end
section
end
section
end
end Go.Proofs.YtdnahgfgoajmcaaDoor

namespace Go.Proofs.YtdnahgfgoajmcaaDoor
open Go Go.Abs
attribute [local congr] thenV_congr
end Go.Proofs.YtdnahgfgoajmcaaDoor

namespace Go.Proofs.YtdnahgfgoajmcaaDoor
open Go Go.Abs
attribute [local congr] thenV_congr
theorem byte_rd {a : Option Addr} {n c i : Nat} {h : Heap} {l : List Nat} (e : sliceBytes a n h = some l) (hi : i < n) : ∃ pt, idxS 1 (.slice a n c) (i64n i) = some pt ∧ ∀ h', Old h h' → ld1 pt h' = some (.int .u8 ((l.getD i 0 : Nat) : Int), h') := by
  obtain ⟨b, off, s, k, rfl, hk, _, hc⟩ := (sliceBytes_spec e).2.2 (by omega)
  refine ⟨ptr b (off + i), ?_, fun h' o => ld1_at (Old.get o hk) (hc i hi) rfl⟩
  unfold idxS
  simp only [i64n]
  rw [if_pos (by omega), Int.toNat_natCast, Nat.mul_one]
end Go.Proofs.YtdnahgfgoajmcaaDoor

namespace Go.Proofs.YtdnahgfgoajmcaaDoor
open Go Go.Abs
theorem drop_one {l : List Nat} {i : Nat} (h : i < l.length) : (l.drop i).take 1 = [l.getD i 0] := by
  rw [List.getD_eq_getElem?_getD, List.getElem?_eq_getElem h, List.drop_eq_getElem_cons h]
  rfl
end Go.Proofs.YtdnahgfgoajmcaaDoor

namespace Go.Proofs.YtdnahgfgoajmcaaDoor
open Go Go.Abs
attribute [local congr] thenV_congr
theorem be_one (x : Nat) : be [x] = x := by unfold be; simp
end Go.Proofs.YtdnahgfgoajmcaaDoor

namespace Go.Proofs.YtdnahgfgoajmcaaDoor
open Go Go.Abs
attribute [local congr] thenV_congr
/-- The reference's zero digest, a package variable. -/
def GZ (h : Heap) : Prop := h.get 0 = some (u8s z32)
theorem GZ.old {h h' : Heap} (x : GZ h) (o : Old h h') : GZ h' := Old.get o x
theorem GZ.ld {h : Heap} (x : GZ h) : ldN 32 (ptr 0 0) h = some (.agg (u8s z32).toArray, h) := ldN_all x rfl (u8s_ok _).1
end Go.Proofs.YtdnahgfgoajmcaaDoor

namespace Go.Proofs.YtdnahgfgoajmcaaDoor
open Go Go.Abs
attribute [local congr] thenV_congr
theorem chkI (k : IntKind) (n : Int) (h : Heap) : chkR true (some (.int k n, h)) (.int k n) = true := by simp [chkR, same, veq]
theorem rec_fin {h0 h : Heap} {b : Nat} {k : Blk} {r : RecD} (w : r.Wf) (o : Old h0 h) (hb : h0.next ≤ b) (g : h.get b = some k) (hk : k.length = 39) : ∃ h', stN 39 (ptr b 0) (.agg (recC r).toArray) h = some (undef, h') ∧ ldN 39 (ptr b 0) h' = some (.agg (recC r).toArray, h') ∧ Old h0 h' := by
  have hn : h.n0 ≤ b := by rw [o.n0]; exact Nat.le_trans h0.n0_le_next hb
  have c := rec_cells w
  obtain ⟨h', e1, k1, g1, _, _⟩ := stored_all (n := 39) g hn hk c.1 c.2.2
  exact ⟨h', e1, ldN_all g1 c.1 c.2.1, Old.of_new o k1 hb⟩
/-- What OfBytes' pieces find. -/
structure E82 (h h1 : Heap) (a : Option Addr) (n c : Nat) (l : List Nat) (y : Nat → Value) : Prop where
  hG : 4 ≤ h.n0
  hz : GZ h
  hl : sliceBytes a n h = some l
  hg : 0 < l.length → goodS a n c = true
  o1 : Old h h1
  g1 : h1.get h.next = some Zr
  n1 : h1.next = h.next + 1
  y0 : y 0 = .slice a n c
  y2 : y 2 = ptr h.next 0
section
variable {h h1 : Heap} {a : Option Addr} {n c : Nat} {l : List Nat} {y : Nat → Value}
theorem E82.go (E : E82 h h1 a n c l y) {y' : Nat → Value} (e0 : y' 0 = y 0) (e2 : y' 2 = y 2) : E82 h h1 a n c l y' := ⟨E.hG, E.hz, E.hl, E.hg, E.o1, E.g1, E.n1, e0.trans E.y0, e2.trans E.y2⟩
/-- An early end. -/
theorem E82.zero (E : E82 h h1 a n c l y) : ∃ hz1, stN 39 (ptr h.next 0) (.agg (recC RecD.z).toArray) h1 = some (undef, hz1) ∧ ldN 39 (ptr h.next 0) hz1 = some (.agg (recC RecD.z).toArray, hz1) ∧ Old h hz1 := rec_fin RecD.z_wf E.o1 (Nat.le_refl _) E.g1 rfl
theorem E82.byte (E : E82 h h1 a n c l y) (h53 : l.length = 53) (i : Nat) (hi : i < 53) : ∃ pt, idxS 1 (.slice a n c) (i64n i) = some pt ∧ ld1 pt h1 = some (.int .u8 ((be ((l.drop i).take 1) : Nat) : Int), h1) := by
  have hlen := (sliceBytes_spec E.hl).1
  obtain ⟨pt, i1, i2⟩ := byte_rd (c := c) (i := i) E.hl (by omega)
  refine ⟨pt, i1, ?_⟩
  rw [drop_one (by omega), be_one]
  exact i2 h1 E.o1
end
end Go.Proofs.YtdnahgfgoajmcaaDoor

namespace Go.Proofs.YtdnahgfgoajmcaaDoor
open Go Go.Abs
attribute [local congr] thenV_congr
end Go.Proofs.YtdnahgfgoajmcaaDoor

namespace Go.Proofs.YtdnahgfgoajmcaaDoor
open Go Go.Abs
/-- A word, as a value. -/
def wv (x : BitVec 32) : Value := .int .u32 (x.toNat : Int)
section
variable {P : Program} {t : TypeId}
theorem w_add (x y : BitVec 32) : bin P .add t (wv x) (wv y) = some (wv (x + y)) := by
  unfold wv
  rw [bin_add, wrap_u32_mod, BitVec.toNat_add]
  congr 3
theorem w_xor (x y : BitVec 32) : bin P .xor t (wv x) (wv y) = some (wv (x ^^^ y)) := by
  unfold wv
  rw [bin_xor_nat P t rfl x.isLt y.isLt, BitVec.toNat_xor]
theorem w_and (x y : BitVec 32) : bin P .and t (wv x) (wv y) = some (wv (x &&& y)) := by
  unfold wv
  rw [bin_and_nat P t rfl x.isLt y.isLt, BitVec.toNat_and]
theorem w_or (x y : BitVec 32) : bin P .or t (wv x) (wv y) = some (wv (x ||| y)) := by
  unfold wv
  rw [bin_or_nat P t rfl x.isLt y.isLt, BitVec.toNat_or]
theorem w_shr (x : BitVec 32) {k : Nat} (hk : k ≤ 32) : bin P .shr t (wv x) (.int .u64 (k : Int)) = some (wv (x >>> k)) := by
  unfold wv
  rw [bin_shr_nat P t (by show k ≤ 32; exact hk), BitVec.toNat_ushiftRight, Nat.shiftRight_eq_div_pow]
theorem w_shl (x : BitVec 32) {k : Nat} (hk : k ≤ 32) : bin P .shl t (wv x) (.int .u64 (k : Int)) = some (wv (x <<< k)) := by
  unfold wv
  rw [bin_int]
  unfold binI
  simp only
  have hm : min ((k : Int)).toNat (IntKind.bits .u32) = k := by
    rw [Int.toNat_natCast]
    exact Nat.min_eq_left hk
  rw [if_neg (by omega), hm, wrap_u32_mod, BitVec.toNat_shiftLeft, Nat.shiftLeft_eq]
  congr 2
theorem w_byte (n : Nat) (hn : n < 256) (h : Heap) : cvI .u32 (u8 n) h = some (wv (BitVec.ofNat 32 n), h) := by
  unfold wv
  rw [cvI_int, wrap_u32 (by omega) (by omega), BitVec.toNat_ofNat, Nat.mod_eq_of_lt (by omega)]
end
/-- A word turned to the right. -/
def rotR (x : BitVec 32) (n : Nat) : BitVec 32 := (x <<< (32 - n)) ||| (x >>> n)
end Go.Proofs.YtdnahgfgoajmcaaDoor

namespace Go.Proofs.YtdnahgfgoajmcaaDoor
open Go Go.Abs
attribute [local congr] thenV_congr
theorem is159 : IsFn Tryd.prog 159 Tryd.f159 := ⟨by kernel_rfl, by kernel_rfl, by kernel_rfl, by kernel_rfl⟩
/-- RotateLeft32 by a number below zero. -/
theorem r159 {h : Heap} (hG : 4 ≤ h.n0) (x : BitVec 32) {k : Nat} (hk : k ≤ 32) {z : Int} (e : bin Tryd.prog .and 111 (.int .u64 (IntKind.wrap .u64 z)) (.int .u64 31) = some (.int .u64 ((32 - k : Nat) : Int))) : CW 159 [wv x, .int .i64 z] h = some (wv (rotR x k), h) := by
  refine CW_body is159 hG rfl ((t159_eq _ _ _ _).trans ?_)
  unfold t159
  have e2 : bin Tryd.prog .sub 111 (.int .u64 32) (.int .u64 ((32 - k : Nat) : Int)) = some (.int .u64 ((k : Nat) : Int)) := by
    rw [bin_sub, show (32 : Int) - ((32 - k : Nat) : Int) = (k : Int) by omega, wrap_u64 (by omega) (by omega)]
  simp -implicitDefEqProofs only [cvI_int, e, e2, w_shl x (show 32 - k ≤ 32 by omega), w_shr x hk, w_or, thenV_some, pu_some]
  rfl
/-- The word of four bytes. -/
def w4 (a b c d : Nat) : BitVec 32 := (BitVec.ofNat 32 a <<< 24) ||| (BitVec.ofNat 32 b <<< 16) ||| (BitVec.ofNat 32 c <<< 8) ||| BitVec.ofNat 32 d
def wAt (B : List Nat) (i : Nat) : BitVec 32 := w4 (B.getD (4 * i) 0) (B.getD (4 * i + 1) 0) (B.getD (4 * i + 2) 0) (B.getD (4 * i + 3) 0)
def sch0 (B : List Nat) : List (BitVec 32) := (List.range 16).map (wAt B)
def s0w (x : BitVec 32) : BitVec 32 := rotR x 7 ^^^ rotR x 18 ^^^ (x >>> 3)
def s1w (y : BitVec 32) : BitVec 32 := rotR y 17 ^^^ rotR y 19 ^^^ (y >>> 10)
def nextW (l : List (BitVec 32)) : BitVec 32 := l.getD (l.length - 16) 0 + s0w (l.getD (l.length - 15) 0) + l.getD (l.length - 7) 0 + s1w (l.getD (l.length - 2) 0)
def extW : Nat → List (BitVec 32) → List (BitVec 32)
  | 0, l => l
  | n + 1, l => extW n (l ++ [nextW l])
abbrev wvs (l : List (BitVec 32)) : List Value := l.map wv
/-- Words, and behind them zeros, in 64 cells. -/
def wTab (l : List (BitVec 32)) : List Value := wvs l ++ List.replicate (64 - l.length) (.int .u32 0)
theorem wTab_len {l : List (BitVec 32)} (h : l.length ≤ 64) : (wTab l).length = 64 := by unfold wTab; simp; omega
theorem wTab_set {l : List (BitVec 32)} {i : Nat} (hl : l.length = i) (hi : i < 64) (x : BitVec 32) : (wTab l).set i (wv x) = wTab (l ++ [x]) := by
  subst hl
  unfold wTab
  have e : 64 - l.length = (64 - (l.length + 1)) + 1 := by omega
  rw [e, List.replicate_succ]
  rw [set_app (A := wvs l) (B' := wv x :: List.replicate (64 - (l.length + 1)) (.int .u32 0)) 0 (by simp) rfl]
  simp
theorem wTab_at {l : List (BitVec 32)} {i : Nat} (hi : i < l.length) : (wTab l)[i]? = some (wv (l.getD i 0)) := by
  unfold wTab
  rw [List.getElem?_append_left (by simpa using hi), List.getElem?_map, List.getD_eq_getElem?_getD, List.getElem?_eq_getElem hi]
  rfl
/-- The cells of a Hash. -/
def hashC (S : List (BitVec 32)) (B : List Nat) (n : Nat) : List Value := wvs S ++ (u8s B ++ [i64n n])
theorem hash_byte {S : List (BitVec 32)} {B : List Nat} {n : Nat} (hS : S.length = 8) {j : Nat} (hj : j < B.length) : (hashC S B n)[8 + j]? = some (u8 (B.getD j 0)) := by
  unfold hashC
  rw [List.getElem?_append_right (by simp [hS]), List.length_map, hS, Nat.add_sub_cancel_left, List.getElem?_append_left (by simpa using hj), List.getElem?_map, List.getD_eq_getElem?_getD, List.getElem?_eq_getElem hj]
  rfl
theorem idxN {N b o i : Nat} (hi : i < N) : idxA N 1 (ptr b o) (i64n i) = some (ptr b (o + i)) := by
  unfold idxA
  simp only [i64n]
  rw [if_pos (by omega), Int.toNat_natCast, Nat.mul_one, addP_ptr]
theorem mul4 {i : Nat} (hi : i < 1000) : bin Tryd.prog .mul 3 (.int .i64 4) (i64n i) = some (i64n (4 * i)) := by
  unfold i64n
  rw [bin_mul, show (4 : Int) * (i : Int) = ((4 * i : Nat) : Int) by omega, wrap_i64 (by omega) (by omega)]
theorem addc {i c : Nat} (hi : i + c < 100000) : bin Tryd.prog .add 3 (i64n i) (.int .i64 (c : Int)) = some (i64n (i + c)) := by
  unfold i64n
  rw [bin_add, show (i : Int) + (c : Int) = ((i + c : Nat) : Int) by omega, wrap_i64 (by omega) (by omega)]
theorem subc {i c : Nat} (hi : i < 100000) (hc : c ≤ i) : bin Tryd.prog .sub 3 (i64n i) (.int .i64 (c : Int)) = some (i64n (i - c)) := by
  unfold i64n
  rw [bin_sub, show (i : Int) - (c : Int) = ((i - c : Nat) : Int) by omega, wrap_i64 (by omega) (by omega)]
theorem bys_getD {B : List Nat} (hB : Bys B) {j : Nat} (hj : j < B.length) : B.getD j 0 < 256 := by
  rw [List.getD_eq_getElem?_getD, List.getElem?_eq_getElem hj]
  exact hB _ (List.getElem_mem hj)
/-- The first loop: sixteen words of the block. -/
theorem cmp1 {h : Heap} {p b : Nat} {S : List (BitVec 32)} {B : List Nat} {n : Nat} (hS : S.length = 8) (hBl : B.length = 64) (hB : Bys B) (hp : h.get p = some (hashC S B n)) (hb : h.n0 ≤ b) (hpb : p ≠ b) (hw : h.get b = some (wTab []))
    {x : Nat → Value} (x0 : x 0 = ptr p 0) (x2 : x 2 = ptr b 0) (x24 : x 24 = i64n 0) :
    Fin 241 (fun ex y g => ex = .exit 0 ∧ y 0 = ptr p 0 ∧ y 2 = ptr b 0 ∧ Kept h g (· = b) ∧ g.get b = some (wTab (sch0 B)) ∧ g.next = h.next) (iter (codeA Tryd.prog CW (partOf Tryd.f149 [1, 0, 1, 0, 0])) rounds (mkF 241 x) h) := by
  refine loop_fin (t149l149_1010_eq CW) (Inv := fun k y g => ∃ i, i + k = 16 ∧ y 0 = ptr p 0 ∧ y 2 = ptr b 0 ∧ y 24 = i64n i ∧ Kept h g (· = b) ∧ g.get b = some (wTab ((List.range i).map (wAt B))) ∧ g.next = h.next) ?_ 16 (by have : rounds = 18446744073709551616 := rfl; omega) ⟨0, Nat.zero_add _, x0, x2, x24, Kept.refl _ _, hw, rfl⟩
  rintro k y g ⟨i, hik, y0, y2, y24, K, gw, gn⟩
  unfold t149l149_1010
  have l16 : bin Tryd.prog .lss 3 (i64n i) (.int .i64 16) = some (.bool (decide (i < 16))) := lss3 i 16
  simp -implicitDefEqProofs only [y24, l16, thenV_some, pu_some]
  by_cases hi : i < 16
  · have gp : g.get p = some (hashC S B n) := Kept.getE K hp hpb
    have lb : ∀ j, j < 64 → ld1 (ptr p (8 + j)) g = some (u8 (B.getD j 0), g) := fun j hj => ld1_at gp (hash_byte hS (by omega)) rfl
    have c0 := w_byte _ (bys_getD hB (j := 4 * i) (by omega)) g
    have c1 := w_byte _ (bys_getD hB (j := 4 * i + 1) (by omega)) g
    have c2 := w_byte _ (bys_getD hB (j := 4 * i + 2) (by omega)) g
    have c3 := w_byte _ (bys_getD hB (j := 4 * i + 3) (by omega)) g
    have a1 : bin Tryd.prog .add 3 (i64n (4 * i)) (.int .i64 1) = some (i64n (4 * i + 1)) := addc (c := 1) (by omega)
    have a2 : bin Tryd.prog .add 3 (i64n (4 * i)) (.int .i64 2) = some (i64n (4 * i + 2)) := addc (c := 2) (by omega)
    have a3 : bin Tryd.prog .add 3 (i64n (4 * i)) (.int .i64 3) = some (i64n (4 * i + 3)) := addc (c := 3) (by omega)
    have sh24 : ∀ x : BitVec 32, bin Tryd.prog .shl 174 (wv x) (.int .u64 24) = some (wv (x <<< 24)) := fun x => w_shl x (k := 24) (by decide)
    have sh16 : ∀ x : BitVec 32, bin Tryd.prog .shl 174 (wv x) (.int .u64 16) = some (wv (x <<< 16)) := fun x => w_shl x (k := 16) (by decide)
    have sh8 : ∀ x : BitVec 32, bin Tryd.prog .shl 174 (wv x) (.int .u64 8) = some (wv (x <<< 8)) := fun x => w_shl x (k := 8) (by decide)
    have ll : ((List.range i).map (wAt B)).length = i := by simp
    obtain ⟨g2, e2, k2, s2, _, m2⟩ := stored (o := i) (v := wv (wAt B i)) gw (by rw [K.n0]; exact hb) (by rw [wTab_len (by omega)]; omega) rfl rfl
    have hw4 : wv (BitVec.ofNat 32 (B.getD (4 * i) 0) <<< 24 ||| BitVec.ofNat 32 (B.getD (4 * i + 1) 0) <<< 16 ||| BitVec.ofNat 32 (B.getD (4 * i + 2) 0) <<< 8 ||| BitVec.ofNat 32 (B.getD (4 * i + 3) 0)) = wv (wAt B i) := rfl
    have ix : idxA 64 1 (ptr b 0) (i64n i) = some (ptr b i) := by rw [idxN (by omega), Nat.zero_add]
    simp -implicitDefEqProofs only [decide_eq_true hi, y0, y2, y24, mul4 (show i < 1000 by omega), nilCheck_ptr, addP_ptr, Nat.zero_add, idxN (show 4 * i < 64 by omega), idxN (show 4 * i + 1 < 64 by omega), idxN (show 4 * i + 2 < 64 by omega), idxN (show 4 * i + 3 < 64 by omega), lb (4 * i) (by omega), lb (4 * i + 1) (by omega), lb (4 * i + 2) (by omega), lb (4 * i + 3) (by omega), c0, c1, c2, c3, a1, a2, a3, sh24, sh16, sh8, w_or, hw4, ix, e2, add31 (show i + 1 ≤ 9223372036854775807 by omega), thenV_some, pu_some]
    refine Rnd.next (k - 1) (by omega) ⟨i + 1, by omega, y0, y2, rfl, K.trans k2, ?_, m2.trans gn⟩
    rw [s2, wTab_set ll (by omega), List.range_succ, List.map_append]
    rfl
  · have : i = 16 := by omega
    subst this
    simp -implicitDefEqProofs only [decide_eq_false hi, thenV_some, pu_some]
    exact Rnd.out 0 ⟨rfl, y0, y2, K, gw, gn⟩
end Go.Proofs.YtdnahgfgoajmcaaDoor

namespace Go.Proofs.YtdnahgfgoajmcaaDoor
open Go Go.Abs
attribute [local congr] thenV_congr
theorem and25 : bin Tryd.prog .and 111 (.int .u64 (IntKind.wrap .u64 (-7))) (.int .u64 31) = some (.int .u64 ((32 - 7 : Nat) : Int)) := by kernel_rfl
theorem rots {h : Heap} (hG : 4 ≤ h.n0) (x : BitVec 32) : CW 159 [wv x, .int .i64 (-7)] h = some (wv (rotR x 7), h) ∧ CW 159 [wv x, .int .i64 (-18)] h = some (wv (rotR x 18), h) ∧ CW 159 [wv x, .int .i64 (-17)] h = some (wv (rotR x 17), h) ∧ CW 159 [wv x, .int .i64 (-19)] h = some (wv (rotR x 19), h) ∧
    CW 159 [wv x, .int .i64 (-6)] h = some (wv (rotR x 6), h) ∧ CW 159 [wv x, .int .i64 (-11)] h = some (wv (rotR x 11), h) ∧ CW 159 [wv x, .int .i64 (-25)] h = some (wv (rotR x 25), h) ∧ CW 159 [wv x, .int .i64 (-2)] h = some (wv (rotR x 2), h) ∧ CW 159 [wv x, .int .i64 (-13)] h = some (wv (rotR x 13), h) ∧ CW 159 [wv x, .int .i64 (-22)] h = some (wv (rotR x 22), h) :=
  ⟨r159 hG x (by decide) and25, r159 hG x (k := 18) (by decide) (by kernel_rfl), r159 hG x (k := 17) (by decide) (by kernel_rfl), r159 hG x (k := 19) (by decide) (by kernel_rfl), r159 hG x (k := 6) (by decide) (by kernel_rfl), r159 hG x (k := 11) (by decide) (by kernel_rfl), r159 hG x (k := 25) (by decide) (by kernel_rfl), r159 hG x (k := 2) (by decide) (by kernel_rfl), r159 hG x (k := 13) (by decide) (by kernel_rfl), r159 hG x (k := 22) (by decide) (by kernel_rfl)⟩
theorem extW_len : ∀ (n : Nat) (l : List (BitVec 32)), (extW n l).length = l.length + n
  | 0, l => rfl
  | n + 1, l => by rw [extW, extW_len n, List.length_append]; simp; omega
theorem extW_snoc : ∀ (n : Nat) (l : List (BitVec 32)), extW n l ++ [nextW (extW n l)] = extW (n + 1) l
  | 0, l => rfl
  | n + 1, l => by rw [extW, extW_snoc n]; rfl
/-- The second loop: 48 further words. -/
theorem cmp2 {h : Heap} (hG : 4 ≤ h.n0) {p b : Nat} {l : List (BitVec 32)} (hl : l.length = 16) (hb : h.n0 ≤ b) (hw : h.get b = some (wTab l))
    {x : Nat → Value} (x0 : x 0 = ptr p 0) (x2 : x 2 = ptr b 0) (x4 : x 4 = i64n 16) :
    Fin 241 (fun ex y g => ex = .exit 2 ∧ y 0 = ptr p 0 ∧ y 2 = ptr b 0 ∧ Kept h g (· = b) ∧ g.get b = some (wTab (extW 48 l)) ∧ g.next = h.next) (iter (codeA Tryd.prog CW (partOf Tryd.f149 [1, 1, 0, 1, 0, 0])) rounds (mkF 241 x) h) := by
  refine loop_fin (t149l149_11010_eq CW) (Inv := fun k y g => ∃ i, i + k = 48 ∧ y 0 = ptr p 0 ∧ y 2 = ptr b 0 ∧ y 4 = i64n (16 + i) ∧ Kept h g (· = b) ∧ g.get b = some (wTab (extW i l)) ∧ g.next = h.next) ?_ 48 (by have : rounds = 18446744073709551616 := rfl; omega) ⟨0, Nat.zero_add _, x0, x2, x4, Kept.refl _ _, hw, rfl⟩
  rintro k y g ⟨i, hik, y0, y2, y4, K, gw, gn⟩
  unfold t149l149_11010
  have l64 : bin Tryd.prog .lss 3 (i64n (16 + i)) (.int .i64 64) = some (.bool (decide (16 + i < 64))) := lss3 (16 + i) 64
  simp -implicitDefEqProofs only [y4, l64, thenV_some, pu_some]
  by_cases hi : 16 + i < 64
  · have len : (extW i l).length = 16 + i := by rw [extW_len, hl]
    have hg : 4 ≤ g.n0 := by rw [K.n0]; exact hG
    have s15 : bin Tryd.prog .sub 3 (i64n (16 + i)) (.int .i64 15) = some (i64n (16 + i - 15)) := subc (c := 15) (by omega) (by omega)
    have s2 : bin Tryd.prog .sub 3 (i64n (16 + i)) (.int .i64 2) = some (i64n (16 + i - 2)) := subc (c := 2) (by omega) (by omega)
    have s16 : bin Tryd.prog .sub 3 (i64n (16 + i)) (.int .i64 16) = some (i64n (16 + i - 16)) := subc (c := 16) (by omega) (by omega)
    have s7 : bin Tryd.prog .sub 3 (i64n (16 + i)) (.int .i64 7) = some (i64n (16 + i - 7)) := subc (c := 7) (by omega) (by omega)
    have ix : ∀ j, j < 64 → idxA 64 1 (ptr b 0) (i64n j) = some (ptr b j) := fun j hj => by rw [idxN hj, Nat.zero_add]
    have lw : ∀ j, j < 16 + i → ld1 (ptr b j) g = some (wv ((extW i l).getD j 0), g) := fun j hj => ld1_at gw (wTab_at (by omega)) rfl
    generalize hX : (extW i l).getD (16 + i - 15) 0 = X at *
    generalize hY : (extW i l).getD (16 + i - 2) 0 = Y at *
    have lX := lw (16 + i - 15) (by omega)
    have lY := lw (16 + i - 2) (by omega)
    rw [hX] at lX
    rw [hY] at lY
    obtain ⟨rx7, rx18, _⟩ := rots hg X
    obtain ⟨_, _, ry17, ry19, _⟩ := rots hg Y
    have sh3 : ∀ x : BitVec 32, bin Tryd.prog .shr 174 (wv x) (.int .u64 3) = some (wv (x >>> 3)) := fun x => w_shr x (k := 3) (by decide)
    have sh10 : ∀ x : BitVec 32, bin Tryd.prog .shr 174 (wv x) (.int .u64 10) = some (wv (x >>> 10)) := fun x => w_shr x (k := 10) (by decide)
    have hN : wv ((extW i l).getD (16 + i - 16) 0 + (rotR X 7 ^^^ rotR X 18 ^^^ X >>> 3) + (extW i l).getD (16 + i - 7) 0 + (rotR Y 17 ^^^ rotR Y 19 ^^^ Y >>> 10)) = wv (nextW (extW i l)) := by
      unfold nextW s0w s1w
      rw [len, hX, hY]
    obtain ⟨g2, e2, k2, t2, _, m2⟩ := stored (o := 16 + i) (v := wv (nextW (extW i l))) gw (by rw [K.n0]; exact hb) (by rw [wTab_len (by omega)]; omega) rfl rfl
    simp -implicitDefEqProofs only [decide_eq_true hi, y2, y4, s15, s2, s16, s7, ix (16 + i - 15) (by omega), ix (16 + i - 2) (by omega), ix (16 + i - 16) (by omega), ix (16 + i - 7) (by omega), ix (16 + i) (by omega), lX, lY, lw (16 + i - 16) (by omega), lw (16 + i - 7) (by omega), rx7, rx18, ry17, ry19, w_xor, sh3, sh10, w_add, hN, e2, add31 (show 16 + i + 1 ≤ 9223372036854775807 by omega), thenV_some, pu_some]
    refine Rnd.next (k - 1) (by omega) ⟨i + 1, by omega, y0, y2, rfl, K.trans k2, ?_, m2.trans gn⟩
    rw [t2, wTab_set len (by omega), extW_snoc]
  · have : i = 48 := by omega
    subst this
    simp -implicitDefEqProofs only [decide_eq_false hi, thenV_some, pu_some]
    exact Rnd.out 2 ⟨rfl, y0, y2, K, gw, gn⟩
end Go.Proofs.YtdnahgfgoajmcaaDoor

namespace Go.Proofs.YtdnahgfgoajmcaaDoor
open Go Go.Abs
attribute [local congr] thenV_congr
/-- The digest's table as words. -/
def rkW : List (BitVec 32) := roundsL.map fun v => match v with | .int _ n => BitVec.ofInt 32 n | _ => 0
theorem rkW_eq : wvs rkW = roundsL := by kernel_rfl
theorem rkW_len : rkW.length = 64 := by unfold rkW; rw [List.length_map]; kernel_rfl
structure St where
  a : BitVec 32
  b : BitVec 32
  c : BitVec 32
  d : BitVec 32
  e : BitVec 32
  f : BitVec 32
  g : BitVec 32
  i : BitVec 32
def St.l (s : St) : List (BitVec 32) := [s.a, s.b, s.c, s.d, s.e, s.f, s.g, s.i]
def t1S (s : St) (k w : BitVec 32) : BitVec 32 := s.i + (rotR s.e 6 ^^^ rotR s.e 11 ^^^ rotR s.e 25) + (s.g ^^^ (s.e &&& (s.f ^^^ s.g))) + k + w
def t2S (s : St) : BitVec 32 := (rotR s.a 2 ^^^ rotR s.a 13 ^^^ rotR s.a 22) + ((s.a &&& s.b) ||| (s.c &&& (s.a ||| s.b)))
def stepS (s : St) (k w : BitVec 32) : St := ⟨t1S s k w + t2S s, s.a, s.b, s.c, s.d + t1S s k w, s.e, s.f, s.g⟩
def runS (W : List (BitVec 32)) : Nat → St → St
  | 0, s => s
  | n + 1, s => stepS (runS W n s) (rkW.getD n 0) (W.getD n 0)
structure StE (s : St) (y : Nat → Value) : Prop where
  a : y 9 = wv s.a
  b : y 10 = wv s.b
  c : y 11 = wv s.c
  d : y 12 = wv s.d
  e : y 13 = wv s.e
  f : y 14 = wv s.f
  g : y 15 = wv s.g
  i : y 16 = wv s.i
set_option maxRecDepth 100000 in
/-- The third loop: 64 rounds. -/
theorem cmp3 {h : Heap} (hG : 4 ≤ h.n0) (hz : h.get 3 = some roundsL) {p b : Nat} {W : List (BitVec 32)} (hl : W.length = 64) (hw : h.get b = some (wTab W)) {s : St}
    {x : Nat → Value} (x0 : x 0 = ptr p 0) (x2 : x 2 = ptr b 0) (x154 : x 154 = i64n 0) (xs : StE s x) :
    Fin 241 (fun ex y g => ex = .exit 4 ∧ y 0 = ptr p 0 ∧ StE (runS W 64 s) y ∧ g = h) (iter (codeA Tryd.prog CW (partOf Tryd.f149 [1, 1, 1, 1, 1, 0, 1, 0, 0])) rounds (mkF 241 x) h) := by
  refine loop_fin (t149l149_11111010_eq CW) (Inv := fun k y g => ∃ i, i + k = 64 ∧ y 0 = ptr p 0 ∧ y 2 = ptr b 0 ∧ y 154 = i64n i ∧ StE (runS W i s) y ∧ g = h) ?_ 64 (by have : rounds = 18446744073709551616 := rfl; omega) ⟨0, Nat.zero_add _, x0, x2, x154, xs, rfl⟩
  rintro k y g ⟨i, hik, y0, y2, y154, Y, rfl⟩
  unfold t149l149_11111010
  have l64 : bin Tryd.prog .lss 3 (i64n i) (.int .i64 64) = some (.bool (decide (i < 64))) := lss3 i 64
  simp -implicitDefEqProofs only [y154, l64, thenV_some, pu_some]
  by_cases hi : i < 64
  · have ix : idxA 64 1 (ptr b 0) (i64n i) = some (ptr b i) := by rw [idxN hi, Nat.zero_add]
    have ix3 : idxA 64 1 (ptr 3 0) (i64n i) = some (ptr 3 i) := by rw [idxN hi, Nat.zero_add]
    have lw : ld1 (ptr b i) g = some (wv (W.getD i 0), g) := ld1_at hw (wTab_at (by omega)) rfl
    have lk : ld1 (ptr 3 i) g = some (wv (rkW.getD i 0), g) := ld1_at hz (by
      rw [← rkW_eq, List.getElem?_map, List.getD_eq_getElem?_getD, List.getElem?_eq_getElem (by rw [rkW_len]; exact hi)]
      rfl) rfl
    generalize hs : runS W i s = q at *
    obtain ⟨_, _, _, _, re6, re11, re25, _⟩ := rots hG q.e
    obtain ⟨_, _, _, _, _, _, _, ra2, ra13, ra22⟩ := rots hG q.a
    simp -implicitDefEqProofs only [decide_eq_true hi, y2, y154, Y.a, Y.b, Y.c, Y.d, Y.e, Y.f, Y.g, Y.i, ix, ix3, lw, lk, re6, re11, re25, ra2, ra13, ra22, w_xor, w_and, w_or, w_add, add31 (show i + 1 ≤ 9223372036854775807 by omega), thenV_some, pu_some]
    refine Rnd.next (k - 1) (by omega) ⟨i + 1, by omega, y0, y2, rfl, ?_, rfl⟩
    rw [runS, hs]
    exact ⟨rfl, rfl, rfl, rfl, rfl, rfl, rfl, rfl⟩
  · have : i = 64 := by omega
    subst this
    simp -implicitDefEqProofs only [decide_eq_false hi, thenV_some, pu_some]
    exact Rnd.out 4 ⟨rfl, y0, ⟨Y.a, Y.b, Y.c, Y.d, Y.e, Y.f, Y.g, Y.i⟩, rfl⟩
/-- Sums of two lists of words. -/
def addS (l m : List (BitVec 32)) : List (BitVec 32) := List.zipWith (· + ·) l m
/-- The state after a block. -/
def compS (S : List (BitVec 32)) (B : List Nat) : List (BitVec 32) := addS S (runS (extW 48 (sch0 B)) 64 ⟨S.getD 0 0, S.getD 1 0, S.getD 2 0, S.getD 3 0, S.getD 4 0, S.getD 5 0, S.getD 6 0, S.getD 7 0⟩).l
theorem compS_len {S : List (BitVec 32)} {B : List Nat} (h : S.length = 8) : (compS S B).length = 8 := by unfold compS addS; rw [List.length_zipWith, h]; rfl
end Go.Proofs.YtdnahgfgoajmcaaDoor

namespace Go.Proofs.YtdnahgfgoajmcaaDoor
open Go Go.Abs
attribute [local congr] thenV_congr
theorem eight {S : List (BitVec 32)} (h : S.length = 8) : ∃ a b c d e f g i, S = [a, b, c, d, e, f, g, i] := by
  match S, h with
  | [a, b, c, d, e, f, g, i], _ => exact ⟨a, b, c, d, e, f, g, i, rfl⟩
def mixS (S L : List (BitVec 32)) (i : Nat) : List (BitVec 32) := (addS S L).take i ++ S.drop i
theorem mix_step {S L : List (BitVec 32)} (hS : S.length = 8) (hL : L.length = 8) {i : Nat} (hi : i < 8) : (mixS S L i).getD i 0 = S.getD i 0 ∧ (mixS S L i).set i (S.getD i 0 + L.getD i 0) = mixS S L (i + 1) ∧ (mixS S L i).length = 8 := by
  obtain ⟨a, b, c, d, e, f, g, j, rfl⟩ := eight hS
  obtain ⟨a', b', c', d', e', f', g', j', rfl⟩ := eight hL
  match i, hi with
  | 0, _ => exact ⟨rfl, rfl, rfl⟩
  | 1, _ => exact ⟨rfl, rfl, rfl⟩
  | 2, _ => exact ⟨rfl, rfl, rfl⟩
  | 3, _ => exact ⟨rfl, rfl, rfl⟩
  | 4, _ => exact ⟨rfl, rfl, rfl⟩
  | 5, _ => exact ⟨rfl, rfl, rfl⟩
  | 6, _ => exact ⟨rfl, rfl, rfl⟩
  | 7, _ => exact ⟨rfl, rfl, rfl⟩
theorem hash_word {S : List (BitVec 32)} {B : List Nat} {n j : Nat} (hj : j < S.length) : (hashC S B n)[j]? = some (wv (S.getD j 0)) := by
  unfold hashC
  rw [List.getElem?_append_left (by simpa using hj), List.getElem?_map, List.getD_eq_getElem?_getD, List.getElem?_eq_getElem hj]
  rfl
theorem hash_set {S : List (BitVec 32)} {B : List Nat} {n j : Nat} (hj : j < S.length) (x : BitVec 32) : (hashC S B n).set j (wv x) = hashC (S.set j x) B n := by
  unfold hashC
  rw [List.set_append_left _ _ (by simpa using hj)]
  show (S.map wv).set j (wv x) ++ _ = (S.set j x).map wv ++ _
  rw [List.map_set]
theorem hash_len {S : List (BitVec 32)} {B : List Nat} {n : Nat} : (hashC S B n).length = S.length + B.length + 1 := by
  unfold hashC
  simp
  omega
/-- The last loop: the state grows. -/
theorem cmp4 {h : Heap} {p : Nat} {S L : List (BitVec 32)} {B : List Nat} {n : Nat} (hS : S.length = 8) (hL : L.length = 8) (hp : h.get p = some (hashC S B n)) (hp0 : h.n0 ≤ p)
    {x : Nat → Value} (x0 : x 0 = ptr p 0) (x224 : x 224 = .agg (wvs L).toArray) (x225 : x 225 = i64n 0) :
    Fin 241 (fun ex _ g => ex = .exit 6 ∧ Kept h g (· = p) ∧ g.get p = some (hashC (addS S L) B n) ∧ g.next = h.next) (iter (codeA Tryd.prog CW (partOf Tryd.f149 [1, 1, 1, 1, 1, 1, 1, 0, 0])) rounds (mkF 241 x) h) := by
  have hm0 : mixS S L 0 = S := rfl
  have hm8 : mixS S L 8 = addS S L := by
    obtain ⟨a, b, c, d, e, f, g, j, rfl⟩ := eight hS
    obtain ⟨a', b', c', d', e', f', g', j', rfl⟩ := eight hL
    rfl
  refine loop_fin (t149l149_11111110_eq CW) (Inv := fun k y g => ∃ i, i + k = 8 ∧ y 0 = ptr p 0 ∧ y 224 = .agg (wvs L).toArray ∧ y 225 = i64n i ∧ Kept h g (· = p) ∧ g.get p = some (hashC (mixS S L i) B n) ∧ g.next = h.next) ?_ 8 (by have : rounds = 18446744073709551616 := rfl; omega) ⟨0, Nat.zero_add _, x0, x224, x225, Kept.refl _ _, by rw [hm0]; exact hp, rfl⟩
  rintro k y g ⟨i, hik, y0, y224, y225, K, gp, gn⟩
  unfold t149l149_11111110
  have l8 : bin Tryd.prog .lss 3 (i64n i) (.int .i64 8) = some (.bool (decide (i < 8))) := lss3 i 8
  simp -implicitDefEqProofs only [y225, l8, thenV_some, pu_some]
  by_cases hi : i < 8
  · obtain ⟨m1, m2, m3⟩ := mix_step hS hL hi
    have ix : idxA 8 1 (ptr p 0) (i64n i) = some (ptr p i) := by rw [idxN hi, Nat.zero_add]
    have ia : ixA1 8 1 (.agg (wvs L).toArray) (i64n i) = some (wv (L.getD i 0)) := by
      unfold ixA1
      simp only [i64n]
      rw [if_pos (by omega), Int.toNat_natCast, Nat.mul_one, List.getElem?_toArray, List.getElem?_map, List.getD_eq_getElem?_getD, List.getElem?_eq_getElem (by omega)]
      rfl
    have lp : ld1 (ptr p i) g = some (wv (S.getD i 0), g) := by
      rw [← m1]
      exact ld1_at gp (hash_word (by omega)) rfl
    obtain ⟨g2, e2, k2, t2, _, n2⟩ := stored (o := i) (v := wv (S.getD i 0 + L.getD i 0)) gp (by rw [K.n0]; exact hp0) (by rw [hash_len, m3]; omega) rfl rfl
    simp -implicitDefEqProofs only [decide_eq_true hi, y0, y224, y225, ia, nilCheck_ptr, addP_ptr, Nat.zero_add, ix, lp, w_add, e2, add31 (show i + 1 ≤ 9223372036854775807 by omega), thenV_some, pu_some]
    refine Rnd.next (k - 1) (by omega) ⟨i + 1, by omega, y0, y224, rfl, K.trans k2, ?_, n2.trans gn⟩
    rw [t2, hash_set (by omega), m2]
  · have : i = 8 := by omega
    subst this
    simp -implicitDefEqProofs only [decide_eq_false hi, thenV_some, pu_some]
    rw [hm8] at gp
    exact Rnd.out 6 ⟨rfl, K, gp, gn⟩
theorem is149 : IsFn Tryd.prog 149 Tryd.f149 := ⟨by kernel_rfl, by kernel_rfl, by kernel_rfl, by kernel_rfl⟩
theorem results149 : Tryd.f149.results.toList = [] := by kernel_rfl
theorem bld8v (a b c d e f g i : Int) : bldR (List.replicate 8 (.int .u32 0)) [(0, 1, .int .u32 a), (1, 1, .int .u32 b), (2, 1, .int .u32 c), (3, 1, .int .u32 d), (4, 1, .int .u32 e), (5, 1, .int .u32 f), (6, 1, .int .u32 g), (7, 1, .int .u32 i)] = some (.agg ([Value.int .u32 a, .int .u32 b, .int .u32 c, .int .u32 d, .int .u32 e, .int .u32 f, .int .u32 g, .int .u32 i]).toArray) := by kernel_rfl
theorem bld8 (a b c d e f g i : BitVec 32) : bldR (List.replicate 8 (.int .u32 0)) [(0, 1, wv a), (1, 1, wv b), (2, 1, wv c), (3, 1, wv d), (4, 1, wv e), (5, 1, wv f), (6, 1, wv g), (7, 1, wv i)] = some (.agg (wvs [a, b, c, d, e, f, g, i]).toArray) := bld8v _ _ _ _ _ _ _ _
set_option maxRecDepth 100000 in
/-- compress -/
theorem r149 {h : Heap} (hG : 4 ≤ h.n0) (hz : h.get 3 = some roundsL) {p : Nat} {S : List (BitVec 32)} {B : List Nat} {n : Nat} (hS : S.length = 8) (hBl : B.length = 64) (hB : Bys B) (hp : h.get p = some (hashC S B n)) (hp0 : h.n0 ≤ p) :
    ∃ h', CW 149 [ptr p 0] h = some (.tuple #[], h') ∧ Kept h h' (· = p) ∧ h'.get p = some (hashC (compS S B) B n) := by
  have hlt := h.lt_of_get hp
  obtain ⟨h1, z1, o1, g1, n1⟩ := fresh (List.replicate 64 (.int .u32 0)) h
  have hb1 : h1.n0 ≤ h.next := by rw [o1.n0]; exact h.n0_le_next
  have hne : p ≠ h.next := by omega
  have key : ∃ o : Out, t149 CW (ptr p 0) h = o ∧ ∃ h', o = some (.tuple #[], h') ∧ Kept h h' (· = p) ∧ h'.get p = some (hashC (compS S B) B n) := by
    refine ⟨_, rfl, ?_⟩
    unfold t149
    simp -implicitDefEqProofs only [z1, thenV_some, pu_some]
    refine endL_fin (Q := fun o : Out => ∃ h', o = some (.tuple #[], h') ∧ Kept h h' (· = p) ∧ h'.get p = some (hashC (compS S B) B n)) (cmp1 (p := p) (b := h.next) hS hBl hB (Old.get o1 hp) hb1 hne g1 rfl rfl rfl) ?_
    rintro _ y g ⟨rfl, y0, y2, K2, G2, N2⟩
    simp -implicitDefEqProofs only [endL_exit, b149_3, if_true, t149k149_1_eq]
    unfold t149k149_1
    simp -implicitDefEqProofs only [thenV_some]
    have hg2 : 4 ≤ g.n0 := by rw [K2.n0, o1.n0]; exact hG
    refine endL_fin (Q := fun o : Out => ∃ h', o = some (.tuple #[], h') ∧ Kept h h' (· = p) ∧ h'.get p = some (hashC (compS S B) B n)) (cmp2 (p := p) (b := h.next) hg2 (l := sch0 B) (by simp [sch0]) (by rw [K2.n0]; exact hb1) G2 y0 y2 rfl) ?_
    rintro _ y' g3 ⟨rfl, y0', y2', K3, G3, N3⟩
    simp -implicitDefEqProofs only [endL_exit, b149_6, if_true, t149k149_4_eq]
    unfold t149k149_4
    have O3 : Old h g3 := (Old.of_new o1 K2 (Nat.le_refl _)).also K3 (fun d hd e => by omega)
    have hp3 := Old.get O3 hp
    have lp : ∀ j, j < 8 → ld1 (ptr p j) g3 = some (wv (S.getD j 0), g3) := fun j hj => ld1_at hp3 (hash_word (by omega)) rfl
    have ix : ∀ j, j < 8 → idxA 8 1 (ptr p 0) (i64n j) = some (ptr p j) := fun j hj => by rw [idxN hj, Nat.zero_add]
    have i0 : idxA 8 1 (ptr p 0) (.int .i64 0) = some (ptr p 0) := ix 0 (by decide)
    have i1 : idxA 8 1 (ptr p 0) (.int .i64 1) = some (ptr p 1) := ix 1 (by decide)
    have i2 : idxA 8 1 (ptr p 0) (.int .i64 2) = some (ptr p 2) := ix 2 (by decide)
    have i3 : idxA 8 1 (ptr p 0) (.int .i64 3) = some (ptr p 3) := ix 3 (by decide)
    have i4 : idxA 8 1 (ptr p 0) (.int .i64 4) = some (ptr p 4) := ix 4 (by decide)
    have i5 : idxA 8 1 (ptr p 0) (.int .i64 5) = some (ptr p 5) := ix 5 (by decide)
    have i6 : idxA 8 1 (ptr p 0) (.int .i64 6) = some (ptr p 6) := ix 6 (by decide)
    have i7 : idxA 8 1 (ptr p 0) (.int .i64 7) = some (ptr p 7) := ix 7 (by decide)
    simp -implicitDefEqProofs only [y0', nilCheck_ptr, addP_ptr, Nat.zero_add, i0, i1, i2, i3, i4, i5, i6, i7, lp 0 (by decide), lp 1 (by decide), lp 2 (by decide), lp 3 (by decide), lp 4 (by decide), lp 5 (by decide), lp 6 (by decide), lp 7 (by decide), thenV_some, pu_some]
    have hg3 : 4 ≤ g3.n0 := by rw [O3.n0]; exact hG
    refine endL_fin (Q := fun o : Out => ∃ h', o = some (.tuple #[], h') ∧ Kept h h' (· = p) ∧ h'.get p = some (hashC (compS S B) B n)) (cmp3 (p := p) (b := h.next) hg3 (Old.get O3 hz) (W := extW 48 (sch0 B)) (by rw [extW_len]; simp [sch0]) G3 (s := ⟨S.getD 0 0, S.getD 1 0, S.getD 2 0, S.getD 3 0, S.getD 4 0, S.getD 5 0, S.getD 6 0, S.getD 7 0⟩) y0' y2' rfl ⟨rfl, rfl, rfl, rfl, rfl, rfl, rfl, rfl⟩) ?_
    rintro _ y4 g4 ⟨rfl, y40, Y, rfl⟩
    simp -implicitDefEqProofs only [endL_exit, b149_16, if_true, t149k149_14_eq]
    unfold t149k149_14
    simp -implicitDefEqProofs only [Y.a, Y.b, Y.c, Y.d, Y.e, Y.f, Y.g, Y.i, bld8, thenV_some, pu_some]
    refine endL_fin (Q := fun o : Out => ∃ h', o = some (.tuple #[], h') ∧ Kept h h' (· = p) ∧ h'.get p = some (hashC (compS S B) B n)) (cmp4 (p := p) (S := S) (L := (runS (extW 48 (sch0 B)) 64 ⟨S.getD 0 0, S.getD 1 0, S.getD 2 0, S.getD 3 0, S.getD 4 0, S.getD 5 0, S.getD 6 0, S.getD 7 0⟩).l) hS rfl hp3 (by rw [O3.n0]; exact hp0) y40 rfl rfl) ?_
    rintro _ y5 g5 ⟨rfl, K5, G5, N5⟩
    simp -implicitDefEqProofs only [endL_exit, b149_25, if_true]
    refine ⟨g5, ?_, (O3.mono (fun _ _ h => h.elim)).trans K5, G5⟩
    rw [results149]
    rfl
  obtain ⟨o, e, h', e', k, g⟩ := key
  exact ⟨h', CW_body is149 hG rfl ((t149_eq _ _ _).trans (e.trans e')), k, g⟩
end Go.Proofs.YtdnahgfgoajmcaaDoor

namespace Go.Proofs.YtdnahgfgoajmcaaDoor
open Go Go.Abs
attribute [local congr] thenV_congr
/-- A Hash: its state, its block, the size of what it has read. -/
structure HD where
  S : List (BitVec 32)
  B : List Nat
  n : Nat
structure HD.Ok (s : HD) : Prop where
  S : s.S.length = 8
  B : s.B.length = 64
  by_ : Bys s.B
abbrev HD.cells (s : HD) : List Value := hashC s.S s.B s.n
/-- Some bytes are put into the block. -/
def HD.put (s : HD) (l : List Nat) : HD :=
  let at_ := s.n % 64
  let k := min l.length (64 - at_)
  let B := s.B.take at_ ++ (l.take k ++ s.B.drop (at_ + k))
  ⟨if at_ + k = 64 then compS s.S B else s.S, B, s.n + k⟩
def HD.wrN : Nat → HD → List Nat → HD
  | 0, s, _ => s
  | f + 1, s, l => if l = [] then s else HD.wrN f (s.put l) (l.drop (min l.length (64 - s.n % 64)))
def HD.wr (s : HD) (l : List Nat) : HD := HD.wrN l.length s l
theorem HD.wrN_le : ∀ (f g : Nat) (s : HD) (l : List Nat), l.length ≤ f → l.length ≤ g → HD.wrN f s l = HD.wrN g s l
  | 0, 0, _, _, _, _ => rfl
  | 0, g + 1, s, l, h, _ => by
    have : l = [] := List.length_eq_zero_iff.1 (by omega)
    rw [HD.wrN, HD.wrN, if_pos this]
  | f + 1, 0, s, l, _, h => by
    have : l = [] := List.length_eq_zero_iff.1 (by omega)
    rw [HD.wrN, HD.wrN, if_pos this]
  | f + 1, g + 1, s, l, h1, h2 => by
    rw [HD.wrN, HD.wrN]
    by_cases e : l = []
    · rw [if_pos e, if_pos e]
    · rw [if_neg e, if_neg e]
      have hp : 0 < l.length := List.length_pos_iff.2 e
      have hm : s.n % 64 < 64 := Nat.mod_lt _ (by decide)
      exact HD.wrN_le f g _ _ (by rw [List.length_drop]; omega) (by rw [List.length_drop]; omega)
theorem HD.wr_nil (s : HD) : s.wr [] = s := rfl
theorem HD.wr_put (s : HD) {l : List Nat} (h : l ≠ []) : s.wr l = (s.put l).wr (l.drop (min l.length (64 - s.n % 64))) := by
  unfold HD.wr
  have hp : 0 < l.length := List.length_pos_iff.2 h
  obtain ⟨f, hf⟩ : ∃ f, l.length = f + 1 := ⟨l.length - 1, by omega⟩
  rw [hf, HD.wrN, if_neg h, hf]
  have hm : s.n % 64 < 64 := Nat.mod_lt _ (by decide)
  exact HD.wrN_le _ _ _ _ (by rw [List.length_drop]; omega) (Nat.le_refl _)
theorem HD.put_ok {s : HD} (o : s.Ok) {l : List Nat} (hl : Bys l) : (s.put l).Ok := by
  have hm : s.n % 64 < 64 := Nat.mod_lt _ (by decide)
  unfold HD.put
  refine ⟨?_, ?_, ?_⟩
  · simp only
    split
    · exact compS_len o.S
    · exact o.S
  · simp only [List.length_append, List.length_take, List.length_drop, o.B]
    omega
  · intro x hx
    simp only [List.mem_append] at hx
    rcases hx with hx | hx | hx
    · exact o.by_ x (List.mem_of_mem_take hx)
    · exact hl x (List.mem_of_mem_take hx)
    · exact o.by_ x (List.mem_of_mem_drop hx)
theorem arr64 {p i : Nat} (h : i < 64) : sliceArr 64 1 (ptr p 8) (some (i64n i)) none none = some (.slice (some ⟨p, 8 + i, none⟩) (64 - i) (64 - i)) := by
  have b1 : boundA 64 64 (none : Option Value) = some 64 := rfl
  have b2 : boundA 0 64 (some (i64n i)) = some i := by
    unfold boundA i64n
    simp only
    rw [if_pos (by omega), Int.toNat_natCast]
  unfold sliceArr
  simp only [boundsA, b1, b2]
  show some (Value.slice (some ⟨p, if 64 = i then 8 else 8 + i * 1, none⟩) (64 - i) (64 - i)) = _
  rw [if_neg (by omega), Nat.mul_one]
/-- copy, of as much as there is room for. -/
theorem copy_min {h : Heap} {b off dn dc c n k : Nat} {s : Option Nat} {a : Option Addr} {A B C : List Value} {l : List Nat} (g : h.get b = some (A ++ (B ++ C))) (h0 : h.n0 ≤ b) (hA : A.length = off) (hB : B.length = k) (hs : sliceBytes a n h = some l) (hk : k = min n dn) (hk0 : 0 < k) :
    ∃ g', copyA 1 (.slice (some ⟨b, off, s⟩) dn dc) (.slice a n c) h = some (i64n k, g') ∧ Kept h g' (· = b) ∧ g'.get b = some (A ++ (u8s (l.take k) ++ C)) ∧ g'.next = h.next := by
  obtain ⟨hl, hb, _⟩ := sliceBytes_spec hs
  have hf := firstA_of hs (show k ≤ n by omega) (c := c)
  have hlk : (l.take k).length = k := by rw [List.length_take]; omega
  have hsp : splice (A ++ (B ++ C)) off (u8s (l.take k)) = A ++ (u8s (l.take k) ++ C) := splice_app hA hB (by rw [List.length_map]; exact hlk)
  refine ⟨h.set b (A ++ (u8s (l.take k) ++ C)), ?_, Kept.set h0 g (.inr rfl), Heap.get_set_same h0 g _, rfl⟩
  unfold copyA
  simp only [lenA]
  rw [← hk, hf]
  simp only
  rw [if_neg (by omega)]
  unfold stL
  simp only [g]
  rw [if_pos (by
    have h1 : off + (u8s (l.take k)).length ≤ (A ++ (B ++ C)).length := by rw [List.length_append, List.length_append, List.length_map, hA, hB]; omega
    simp only [decide_eq_true h0, decide_eq_true h1, (u8s_ok (l.take k)).2, Bool.and_self]), hsp]
  rfl
theorem is122 : IsFn Tryd.prog 122 Tryd.f122 := ⟨by kernel_rfl, by kernel_rfl, by kernel_rfl, by kernel_rfl⟩
theorem results122 : Tryd.f122.results.toList = [] := by kernel_rfl
theorem eql158 (b o : Nat) : bin Tryd.prog .eql 158 (ptr b o) (.pointer none) = some (.bool false) := by kernel_rfl
end Go.Proofs.YtdnahgfgoajmcaaDoor

namespace Go.Proofs.YtdnahgfgoajmcaaDoor
open Go Go.Abs
attribute [local congr] thenV_congr
theorem u8s_split {B : List Nat} {i k : Nat} : u8s B = u8s (B.take i) ++ (u8s ((B.drop i).take k) ++ u8s (B.drop (i + k))) := by
  show B.map u8 = (B.take i).map u8 ++ (((B.drop i).take k).map u8 ++ (B.drop (i + k)).map u8)
  rw [← List.map_append, ← List.map_append, ← List.drop_drop, List.take_append_drop, List.take_append_drop]
set_option maxRecDepth 100000 in
/-- Write -/
theorem r122 {h : Heap} (hG : 4 ≤ h.n0) (hz : h.get 3 = some roundsL) {p : Nat} {s : HD} (o : s.Ok) (hp : h.get p = some s.cells) (hp0 : h.n0 ≤ p) {a : Option Addr} {n c : Nat} {l : List Nat} (hl : sliceBytes a n h = some l) (hg : 0 < n → goodS a n c = true) (ha : ∀ y, a = some y → 0 < n → ¬ y.block = p) (hfit : s.n + n ≤ 1000000) :
    ∃ h', CW 122 [ptr p 0, .slice a n c] h = some (.tuple #[], h') ∧ Kept h h' (· = p) ∧ h'.get p = some (s.wr l).cells ∧ (s.wr l).Ok ∧ (s.wr l).n = s.n + n := by
  have hlen0 : l.length = n := (sliceBytes_spec hl).1
  have h3p : ¬ 3 = p := by
    have := h.lt_of_get hp
    intro e
    omega
  have key : ∃ o : Out, t122 CW (ptr p 0) (.slice a n c) h = o ∧ ∃ h', o = some (.tuple #[], h') ∧ Kept h h' (· = p) ∧ h'.get p = some (s.wr l).cells ∧ (s.wr l).Ok ∧ (s.wr l).n = s.n + n := by
    refine ⟨_, rfl, ?_⟩
    unfold t122
    simp -implicitDefEqProofs only [eql158, thenV_some, pu_some]
    refine endL_fin (n := 40) (fin := fun ex _ g => ex = .exit 0 ∧ Kept h g (· = p) ∧ g.get p = some (s.wr l).cells ∧ (s.wr l).Ok ∧ (s.wr l).n = s.n + n) (Q := fun o : Out => ∃ h', o = some (.tuple #[], h') ∧ Kept h h' (· = p) ∧ h'.get p = some (s.wr l).cells ∧ (s.wr l).Ok ∧ (s.wr l).n = s.n + n)
      (loop_fin (t122l122_10_eq CW) (Inv := fun k y g => ∃ (s' : HD) (a' : Option Addr) (n' c' : Nat) (l' : List Nat), n' = k ∧ y 0 = ptr p 0 ∧ y 1 = .slice a' n' c' ∧ sliceBytes a' n' g = some l' ∧ (0 < n' → goodS a' n' c' = true) ∧ (∀ y, a' = some y → 0 < n' → ¬ y.block = p) ∧ s'.Ok ∧ g.get p = some s'.cells ∧ Kept h g (· = p) ∧ s'.wr l' = s.wr l ∧ s'.n + n' = s.n + n) ?_ n (by have : rounds = 18446744073709551616 := rfl; omega) ⟨s, a, n, c, l, rfl, rfl, rfl, hl, hg, ha, o, hp, Kept.refl _ _, rfl, rfl⟩) ?_
    · rintro k y g ⟨s', a', n', c', l', rfl, y0, y1, sl', hg', ha', o', gp, K, hw, hn⟩
      unfold t122l122_10
      have hll : lenL (.slice a' n' c') = some (i64n n') := rfl
      have hgt : bin Tryd.prog .gtr 3 (i64n n') (.int .i64 0) = some (.bool (decide (0 < n'))) := by
        unfold i64n
        rw [bin_gtr]
        congr 2
        rw [decide_eq_decide]
        omega
      have hlen : l'.length = n' := (sliceBytes_spec sl').1
      have hby : Bys l' := (sliceBytes_spec sl').2.1
      simp -implicitDefEqProofs only [y1, hll, hgt, thenV_some, pu_some]
      by_cases hpos : 0 < n'
      · have hm : s'.n % 64 < 64 := Nat.mod_lt _ (by decide)
        generalize hat : s'.n % 64 = at_ at *
        generalize hk : min n' (64 - at_) = k
        have hkp : 0 < k := by omega
        have hp0g : g.n0 ≤ p := by rw [K.n0]; exact hp0
        have l72 : ld1 (ptr p 72) g = some (i64n s'.n, g) := ld1_at gp (by
          unfold HD.cells hashC
          rw [List.getElem?_append_right (by simp [o'.S]), List.getElem?_append_right (by simp [o'.S, o'.B])]
          simp [o'.S, o'.B]) rfl
        have hrem : bin Tryd.prog .rem 3 (i64n s'.n) (.int .i64 64) = some (i64n at_) := by
          unfold i64n
          rw [bin_rem Tryd.prog 3 .i64 _ 64 (by decide), ← hat]
          rfl
        have gp1 : g.get p = some ((wvs s'.S ++ u8s (s'.B.take at_)) ++ (u8s ((s'.B.drop at_).take k) ++ (u8s (s'.B.drop (at_ + k)) ++ [i64n s'.n]))) := by
          rw [gp]
          unfold HD.cells hashC
          rw [u8s_split (B := s'.B) (i := at_) (k := k)]
          simp only [List.append_assoc]
        obtain ⟨g2, e2, k2, G2, n2⟩ := copy_min (s := none) (dn := 64 - at_) (dc := 64 - at_) (c := c') (k := k) (off := 8 + at_) gp1 hp0g (by simp [o'.S, o'.B]; omega) (by simp [o'.B]; omega) sl' hk.symm hkp
        have ll72 : ld1 (ptr p 72) g2 = some (i64n s'.n, g2) := ld1_at G2 (by
          rw [List.getElem?_append_right (by simp [o'.S, o'.B]; omega), List.getElem?_append_right (by simp [o'.S, o'.B]; omega), List.getElem?_append_right (by simp [o'.S, o'.B]; omega)]
          have : 72 - (wvs s'.S ++ u8s (List.take at_ s'.B)).length - (u8s (List.take k l')).length - (u8s (List.drop (at_ + k) s'.B)).length = 0 := by simp [o'.S, o'.B]; omega
          rw [this]
          rfl) rfl
        have hadd : bin Tryd.prog .add 3 (i64n s'.n) (i64n k) = some (i64n (s'.n + k)) := by
          unfold i64n
          rw [bin_add, show (s'.n : Int) + (k : Int) = ((s'.n + k : Nat) : Int) by omega, wrap_i64 (by omega) (by omega)]
        have hadd2 : bin Tryd.prog .add 3 (i64n at_) (i64n k) = some (i64n (at_ + k)) := by
          unfold i64n
          rw [bin_add, show (at_ : Int) + (k : Int) = ((at_ + k : Nat) : Int) by omega, wrap_i64 (by omega) (by omega)]
        have hp2 : g2.n0 ≤ p := by rw [k2.n0]; exact hp0g
        obtain ⟨g3, e3, k3, G3, _, n3⟩ := stored (o := 72) (v := i64n (s'.n + k)) G2 hp2 (by simp [o'.S, o'.B]; omega) rfl rfl
        have hBn : ((s'.put l').B) = s'.B.take at_ ++ (l'.take k ++ s'.B.drop (at_ + k)) := by
          unfold HD.put
          simp only [hat, hlen, hk]
        have hnn : (s'.put l').n = s'.n + k := by
          unfold HD.put
          simp only [hat, hlen, hk]
        have G3' : g3.get p = some (hashC s'.S (s'.put l').B (s'.put l').n) := by
          rw [G3, hBn, hnn]
          unfold hashC
          have e1 : ((wvs s'.S ++ u8s (s'.B.take at_)) ++ (u8s (l'.take k) ++ (u8s (s'.B.drop (at_ + k)) ++ [i64n s'.n]))) = ((wvs s'.S ++ u8s (s'.B.take at_)) ++ (u8s (l'.take k) ++ u8s (s'.B.drop (at_ + k)))) ++ [i64n s'.n] := by simp only [List.append_assoc]
          rw [e1, set_app (A := (wvs s'.S ++ u8s (s'.B.take at_)) ++ (u8s (l'.take k) ++ u8s (s'.B.drop (at_ + k)))) (B' := [i64n (s'.n + k)]) 0 (by simp [o'.S, o'.B]; omega) rfl]
          simp only [List.map_append, List.append_assoc]
        have sl3 : sliceBytes a' n' g3 = some l' := (k2.trans k3).bytes sl' ha'
        obtain ⟨a2, c2, es, ss, gs, bs⟩ := slR_bytes (vl := some (i64n k)) (vh := none) (lo := k) (hi := n') (hg' hpos) sl3 (by omega) (Nat.le_refl _) rfl (by
          unfold boundA i64n
          simp only
          rw [if_pos (by omega), Int.toNat_natCast])
        have hss : ((l'.drop k).take (n' - k)) = l'.drop k := List.take_of_length_le (by rw [List.length_drop]; omega)
        rw [hss] at ss
        have hwr : (s'.put l').wr (l'.drop k) = s.wr l := by
          rw [← hw, HD.wr_put s' (l := l') (fun e => by rw [e] at hlen; simp at hlen; omega), hat, hlen, hk]
        have ok2 := HD.put_ok o' hby
        have ha2 : ∀ y, a2 = some y → 0 < n' - k → ¬ y.block = p := fun y hy _ e => by
          obtain ⟨y0, h1, h2⟩ := bs y hy
          exact ha' y0 h1 hpos (h2.trans e)
        have K3 : Kept h g3 (· = p) := (K.trans k2).trans k3
        by_cases hc : at_ + k = 64
        · have hceq : bin Tryd.prog .eql 3 (i64n (at_ + k)) (.int .i64 64) = some (.bool true) := by
            unfold i64n
            rw [bin_eql, hc]
            rfl
          have hg3 : 4 ≤ g3.n0 := by rw [K3.n0]; exact hG
          obtain ⟨g4, e4, k4, G4⟩ := r149 hg3 (Kept.getE K3 hz h3p) (p := p) o'.S ok2.B ok2.by_ G3' (by rw [K3.n0]; exact hp0)
          have hS : (s'.put l').S = compS s'.S (s'.put l').B := by
            unfold HD.put
            simp only [hat, hlen, hk]
            rw [if_pos hc]
          rw [← hS] at G4
          simp -implicitDefEqProofs only [decide_eq_true hpos, y0, nilCheck_ptr, addP_ptr, Nat.zero_add, l72, hrem, arr64 hm, e2, ll72, hadd, e3, es, hadd2, hceq, e4, thenV_some, pu_some]
          exact Rnd.next (n' - k) (by omega) ⟨s'.put l', a2, n' - k, c2, l'.drop k, rfl, y0, rfl, k4.bytes ss ha2, fun _ => gs, ha2, ok2, G4, K3.trans k4, hwr, by rw [hnn]; omega⟩
        · have hceq : bin Tryd.prog .eql 3 (i64n (at_ + k)) (.int .i64 64) = some (.bool false) := by
            unfold i64n
            rw [bin_eql]
            congr 2
            simp only [beq_eq_false_iff_ne, ne_eq]
            omega
          have hS : (s'.put l').S = s'.S := by
            unfold HD.put
            simp only [hat, hlen, hk]
            rw [if_neg hc]
          rw [← hS] at G3'
          simp -implicitDefEqProofs only [decide_eq_true hpos, y0, nilCheck_ptr, addP_ptr, Nat.zero_add, l72, hrem, arr64 hm, e2, ll72, hadd, e3, es, hadd2, hceq, thenV_some, pu_some]
          exact Rnd.next (n' - k) (by omega) ⟨s'.put l', a2, n' - k, c2, l'.drop k, rfl, y0, rfl, ss, fun _ => gs, ha2, ok2, G3', K3, hwr, by rw [hnn]; omega⟩
      · have h0 : n' = 0 := by omega
        subst h0
        have : l' = [] := List.length_eq_zero_iff.1 hlen
        subst this
        simp -implicitDefEqProofs only [decide_eq_false hpos, thenV_some, pu_some]
        rw [HD.wr_nil] at hw
        refine Rnd.out 0 ⟨rfl, K, by rw [← hw]; exact gp, by rw [← hw]; exact o', by rw [← hw]; omega⟩
    · rintro _ y g ⟨rfl, K, G, O, N⟩
      simp -implicitDefEqProofs only [endL_exit, b122_2, if_true]
      rw [results122]
      exact ⟨g, rfl, K, G, O, N⟩
  obtain ⟨o1, e, h', e', r⟩ := key
  exact ⟨h', CW_body is122 hG rfl ((t122_eq _ _ _ _).trans (e.trans e')), r⟩
end Go.Proofs.YtdnahgfgoajmcaaDoor

namespace Go.Proofs.YtdnahgfgoajmcaaDoor
open Go Go.Abs
attribute [local congr] thenV_congr
/-- The table of the padding, with some of the length's bytes. -/
def padT (N v : Nat) : Nat → List Nat
  | 0 => 128 :: List.replicate 71 0
  | j + 1 => (padT N v j).set (N + j) (v / 2 ^ (56 - 8 * j) % 256)
/-- What is written behind a message of n bytes. -/
def padOf (n : Nat) : List Nat := (padT (64 - (n + 8) % 64) (n * 8) 8).take (64 - (n + 8) % 64 + 8)
/-- Some bytes of a state. -/
def digT (S : List (BitVec 32)) : Nat → List Nat
  | 0 => List.replicate 32 0
  | j + 1 => (digT S j).set j ((S.getD (j / 4) 0).toNat / 2 ^ (24 - 8 * (j % 4)) % 256)
def HD.sum (s : HD) : List Nat := digT (s.wr (padOf s.n)).S 32
theorem padT_len (N v : Nat) : ∀ j, (padT N v j).length = 72
  | 0 => rfl
  | j + 1 => by rw [padT, List.length_set, padT_len N v j]
theorem digT_len (S : List (BitVec 32)) : ∀ j, (digT S j).length = 32
  | 0 => rfl
  | j + 1 => by rw [digT, List.length_set, digT_len S j]
theorem bys_set {l : List Nat} (h : Bys l) (i : Nat) {x : Nat} (hx : x < 256) : Bys (l.set i x) := fun y hy => by
  rcases List.mem_or_eq_of_mem_set hy with h1 | h1
  · exact h y h1
  · omega
theorem padT_bys (N v : Nat) : ∀ j, Bys (padT N v j)
  | 0 => fun x hx => by
    have hx : x ∈ 128 :: List.replicate 71 0 := hx
    rcases List.mem_cons.1 hx with h | h
    · omega
    · have := List.eq_of_mem_replicate h; omega
  | j + 1 => bys_set (padT_bys N v j) _ (Nat.mod_lt _ (by decide))
theorem digT_bys (S : List (BitVec 32)) : ∀ j, Bys (digT S j)
  | 0 => fun x hx => by have := List.eq_of_mem_replicate (show x ∈ List.replicate 32 0 from hx); omega
  | j + 1 => bys_set (digT_bys S j) _ (Nat.mod_lt _ (by decide))
theorem sum_d32 (s : HD) : D32 s.sum := ⟨digT_len _ 32, digT_bys _ 32⟩
theorem words_ok (l : List (BitVec 32)) : Abs.noHoles (wvs l) = true ∧ oneCells (wvs l) = true := by
  induction l with
  | nil => exact ⟨rfl, rfl⟩
  | cons x l ih => exact ⟨ih.1, ih.2⟩
theorem hash_ok (s : HD) : Abs.noHoles s.cells = true ∧ oneCells s.cells = true := by
  have a := words_ok s.S
  unfold HD.cells hashC
  exact ⟨noHoles_append _ _ a.1 (noHoles_append _ _ (noHoles_u8 _) rfl), oneCells_append _ _ a.2 (oneCells_append _ _ (one_u8 _) rfl)⟩
/-- The first loop of Sum. -/
theorem sum1 {h : Heap} {b N v : Nat} (hN : N ≤ 64) (hv : v < 18446744073709551616) (hb : h.n0 ≤ b) (hw : h.get b = some (u8s (padT N v 0))) {p2 p3 : Value}
    {x : Nat → Value} (x2 : x 2 = p2) (x3 : x 3 = p3) (x4 : x 4 = ptr b 0) (x5 : x 5 = i64n N) (x6 : x 6 = .int .u64 (v : Int)) (x30 : x 30 = i64n 0) :
    Fin 66 (fun ex y g => ex = .exit 0 ∧ y 2 = p2 ∧ y 3 = p3 ∧ y 4 = ptr b 0 ∧ y 5 = i64n N ∧ Kept h g (· = b) ∧ g.get b = some (u8s (padT N v 8)) ∧ g.next = h.next) (iter (codeA Tryd.prog CW (partOf Tryd.f123 [1, 1, 1, 1, 1, 1, 1, 0, 1, 0, 0])) rounds (mkF 66 x) h) := by
  refine loop_fin (t123l123_1111111010_eq CW) (Inv := fun k y g => ∃ j, j + k = 8 ∧ y 2 = p2 ∧ y 3 = p3 ∧ y 4 = ptr b 0 ∧ y 5 = i64n N ∧ y 6 = .int .u64 (v : Int) ∧ y 30 = i64n j ∧ Kept h g (· = b) ∧ g.get b = some (u8s (padT N v j)) ∧ g.next = h.next) ?_ 8 (by have : rounds = 18446744073709551616 := rfl; omega) ⟨0, Nat.zero_add _, x2, x3, x4, x5, x6, x30, Kept.refl _ _, hw, rfl⟩
  rintro k y g ⟨j, hjk, y2, y3, y4, y5, y6, y30, K, gw, gn⟩
  unfold t123l123_1111111010
  have l8 : bin Tryd.prog .lss 3 (i64n j) (.int .i64 8) = some (.bool (decide (j < 8))) := lss3 j 8
  simp -implicitDefEqProofs only [y30, l8, thenV_some, pu_some]
  by_cases hj : j < 8
  · have a1 : bin Tryd.prog .add 3 (i64n N) (i64n j) = some (i64n (N + j)) := addc (c := j) (by omega)
    have m1 : bin Tryd.prog .mul 3 (.int .i64 8) (i64n j) = some (i64n (8 * j)) := by
      unfold i64n
      rw [bin_mul, show (8 : Int) * (j : Int) = ((8 * j : Nat) : Int) by omega, wrap_i64 (by omega) (by omega)]
    have s1 : bin Tryd.prog .sub 3 (.int .i64 56) (i64n (8 * j)) = some (i64n (56 - 8 * j)) := by
      unfold i64n
      rw [bin_sub, show (56 : Int) - ((8 * j : Nat) : Int) = ((56 - 8 * j : Nat) : Int) by omega, wrap_i64 (by omega) (by omega)]
    have r1 : bin Tryd.prog .shr 32 (.int .u64 (v : Int)) (i64n (56 - 8 * j)) = some (.int .u64 ((v / 2 ^ (56 - 8 * j) : Nat) : Int)) := bin_shr_nat Tryd.prog 32 (by show 56 - 8 * j ≤ 64; omega)
    have c1 : cvI .u8 (.int .u64 ((v / 2 ^ (56 - 8 * j) : Nat) : Int)) g = some (u8 (v / 2 ^ (56 - 8 * j) % 256), g) := by
      rw [cvI_int, wrap_u8_mod]
      rfl
    have ix : idxA 72 1 (ptr b 0) (i64n (N + j)) = some (ptr b (N + j)) := by rw [idxN (by omega), Nat.zero_add]
    obtain ⟨g2, e2, k2, t2, _, n2⟩ := stored (o := N + j) (v := u8 (v / 2 ^ (56 - 8 * j) % 256)) gw (by rw [K.n0]; exact hb) (by rw [List.length_map, padT_len]; omega) rfl rfl
    simp -implicitDefEqProofs only [decide_eq_true hj, y4, y5, y6, y30, a1, m1, s1, r1, c1, ix, e2, add31 (show j + 1 ≤ 9223372036854775807 by omega), thenV_some, pu_some]
    refine Rnd.next (k - 1) (by omega) ⟨j + 1, by omega, y2, y3, y4, y5, y6, rfl, K.trans k2, ?_, n2.trans gn⟩
    rw [t2, padT]
    show some ((List.map u8 (padT N v j)).set (N + j) (u8 (v / 2 ^ (56 - 8 * j) % 256))) = some (List.map u8 ((padT N v j).set (N + j) (v / 2 ^ (56 - 8 * j) % 256)))
    rw [List.map_set]
  · have : j = 8 := by omega
    subst this
    simp -implicitDefEqProofs only [decide_eq_false hj, thenV_some, pu_some]
    exact Rnd.out 0 ⟨rfl, y2, y3, y4, y5, K, gw, gn⟩
/-- The second loop of Sum. -/
theorem sum2 {h : Heap} {b p : Nat} {S : List (BitVec 32)} {B : List Nat} {n : Nat} (hS : S.length = 8) (hp : h.get p = some (hashC S B n)) (hpb : p ≠ b) (hb : h.n0 ≤ b) (hw : h.get b = some (u8s (digT S 0))) {p2 : Value}
    {x : Nat → Value} (x2 : x 2 = p2) (x3 : x 3 = ptr p 0) (x8 : x 8 = ptr b 0) (x48 : x 48 = i64n 0) :
    Fin 66 (fun ex y g => ex = .exit 2 ∧ y 2 = p2 ∧ y 8 = ptr b 0 ∧ Kept h g (· = b) ∧ g.get b = some (u8s (digT S 32)) ∧ g.next = h.next) (iter (codeA Tryd.prog CW (partOf Tryd.f123 [1, 1, 1, 1, 1, 1, 1, 1, 1, 1, 0, 1, 0, 0])) rounds (mkF 66 x) h) := by
  refine loop_fin (t123l123_1111111111010_eq CW) (Inv := fun k y g => ∃ j, j + k = 32 ∧ y 2 = p2 ∧ y 3 = ptr p 0 ∧ y 8 = ptr b 0 ∧ y 48 = i64n j ∧ Kept h g (· = b) ∧ g.get b = some (u8s (digT S j)) ∧ g.next = h.next) ?_ 32 (by have : rounds = 18446744073709551616 := rfl; omega) ⟨0, Nat.zero_add _, x2, x3, x8, x48, Kept.refl _ _, hw, rfl⟩
  rintro k y g ⟨j, hjk, y2, y3, y8, y48, K, gw, gn⟩
  unfold t123l123_1111111111010
  have l32 : bin Tryd.prog .lss 3 (i64n j) (.int .i64 32) = some (.bool (decide (j < 32))) := lss3 j 32
  simp -implicitDefEqProofs only [y48, l32, thenV_some, pu_some]
  by_cases hj : j < 32
  · have q1 : bin Tryd.prog .quo 3 (i64n j) (.int .i64 4) = some (i64n (j / 4)) := by
      unfold i64n
      rw [bin_quo Tryd.prog 3 .i64 _ 4 (by decide), show Int.tdiv (j : Int) 4 = ((j / 4 : Nat) : Int) from rfl, wrap_i64 (by omega) (by omega)]
    have r1 : bin Tryd.prog .rem 3 (i64n j) (.int .i64 4) = some (i64n (j % 4)) := by
      unfold i64n
      rw [bin_rem Tryd.prog 3 .i64 _ 4 (by decide)]
      rfl
    have m1 : bin Tryd.prog .mul 3 (.int .i64 8) (i64n (j % 4)) = some (i64n (8 * (j % 4))) := by
      unfold i64n
      rw [bin_mul, show (8 : Int) * ((j % 4 : Nat) : Int) = ((8 * (j % 4) : Nat) : Int) by omega, wrap_i64 (by omega) (by omega)]
    have s1 : bin Tryd.prog .sub 3 (.int .i64 24) (i64n (8 * (j % 4))) = some (i64n (24 - 8 * (j % 4))) := by
      unfold i64n
      rw [bin_sub, show (24 : Int) - ((8 * (j % 4) : Nat) : Int) = ((24 - 8 * (j % 4) : Nat) : Int) by omega, wrap_i64 (by omega) (by omega)]
    have gp : g.get p = some (hashC S B n) := Kept.getE K hp hpb
    have lp : ld1 (ptr p (j / 4)) g = some (wv (S.getD (j / 4) 0), g) := ld1_at gp (hash_word (by omega)) rfl
    have ixp : idxA 8 1 (ptr p 0) (i64n (j / 4)) = some (ptr p (j / 4)) := by rw [idxN (by omega), Nat.zero_add]
    have ixb : idxA 32 1 (ptr b 0) (i64n j) = some (ptr b j) := by rw [idxN hj, Nat.zero_add]
    have sh : bin Tryd.prog .shr 174 (wv (S.getD (j / 4) 0)) (i64n (24 - 8 * (j % 4))) = some (.int .u32 (((S.getD (j / 4) 0).toNat / 2 ^ (24 - 8 * (j % 4)) : Nat) : Int)) := bin_shr_nat Tryd.prog 174 (by show 24 - 8 * (j % 4) ≤ 32; omega)
    have c1 : cvI .u8 (.int .u32 (((S.getD (j / 4) 0).toNat / 2 ^ (24 - 8 * (j % 4)) : Nat) : Int)) g = some (u8 ((S.getD (j / 4) 0).toNat / 2 ^ (24 - 8 * (j % 4)) % 256), g) := by
      rw [cvI_int, wrap_u8_mod]
      rfl
    obtain ⟨g2, e2, k2, t2, _, n2⟩ := stored (o := j) (v := u8 ((S.getD (j / 4) 0).toNat / 2 ^ (24 - 8 * (j % 4)) % 256)) gw (by rw [K.n0]; exact hb) (by rw [List.length_map, digT_len]; omega) rfl rfl
    simp -implicitDefEqProofs only [decide_eq_true hj, y3, y8, y48, q1, r1, m1, s1, addP_ptr, Nat.zero_add, ixp, lp, sh, c1, ixb, e2, add31 (show j + 1 ≤ 9223372036854775807 by omega), thenV_some, pu_some]
    refine Rnd.next (k - 1) (by omega) ⟨j + 1, by omega, y2, y3, y8, rfl, K.trans k2, ?_, n2.trans gn⟩
    rw [t2, digT]
    show some ((List.map u8 (digT S j)).set j (u8 ((S.getD (j / 4) 0).toNat / 2 ^ (24 - 8 * (j % 4)) % 256))) = some (List.map u8 ((digT S j).set j ((S.getD (j / 4) 0).toNat / 2 ^ (24 - 8 * (j % 4)) % 256)))
    rw [List.map_set]
  · have : j = 32 := by omega
    subst this
    simp -implicitDefEqProofs only [decide_eq_false hj, thenV_some, pu_some]
    exact Rnd.out 2 ⟨rfl, y2, y8, K, gw, gn⟩
abbrev zHash : List Value := [(.int .u32 0), (.int .u32 0), (.int .u32 0), (.int .u32 0), (.int .u32 0), (.int .u32 0), (.int .u32 0), (.int .u32 0), (.int .u8 0), (.int .u8 0), (.int .u8 0), (.int .u8 0), (.int .u8 0), (.int .u8 0), (.int .u8 0), (.int .u8 0), (.int .u8 0), (.int .u8 0), (.int .u8 0), (.int .u8 0), (.int .u8 0), (.int .u8 0), (.int .u8 0), (.int .u8 0), (.int .u8 0), (.int .u8 0), (.int .u8 0), (.int .u8 0), (.int .u8 0), (.int .u8 0), (.int .u8 0), (.int .u8 0), (.int .u8 0), (.int .u8 0), (.int .u8 0), (.int .u8 0), (.int .u8 0), (.int .u8 0), (.int .u8 0), (.int .u8 0), (.int .u8 0), (.int .u8 0), (.int .u8 0), (.int .u8 0), (.int .u8 0), (.int .u8 0), (.int .u8 0), (.int .u8 0), (.int .u8 0), (.int .u8 0), (.int .u8 0), (.int .u8 0), (.int .u8 0), (.int .u8 0), (.int .u8 0), (.int .u8 0), (.int .u8 0), (.int .u8 0), (.int .u8 0), (.int .u8 0), (.int .u8 0), (.int .u8 0), (.int .u8 0), (.int .u8 0), (.int .u8 0), (.int .u8 0), (.int .u8 0), (.int .u8 0), (.int .u8 0), (.int .u8 0), (.int .u8 0), (.int .u8 0), (.int .i64 0)]
end Go.Proofs.YtdnahgfgoajmcaaDoor

namespace Go.Proofs.YtdnahgfgoajmcaaDoor
open Go Go.Abs
attribute [local congr] thenV_congr
end Go.Proofs.YtdnahgfgoajmcaaDoor

namespace Go.Proofs.YtdnahgfgoajmcaaDoor
open Go Go.Abs
attribute [local congr] thenV_congr
end Go.Proofs.YtdnahgfgoajmcaaDoor

namespace Go.Proofs.YtdnahgfgoajmcaaDoor
open Go Go.Abs
attribute [local congr] thenV_congr
theorem veqL_self : ∀ {l : List Value}, (∀ v ∈ l, ∃ k : Kd, k.has v) → veqL l l = true
  | [], _ => rfl
  | v :: l, h => by
    simp only [veqL, Bool.and_eq_true]
    refine ⟨?_, veqL_self fun w hw => h w (List.mem_cons_of_mem _ hw)⟩
    obtain ⟨k, hk⟩ := h v List.mem_cons_self
    cases k with
    | u8 => obtain ⟨n, rfl, _⟩ := hk; simp [veq]
    | i k => obtain ⟨n, rfl, _⟩ := hk; simp [veq]
    | b => obtain ⟨t, rfl⟩ := hk; simp [veq]
theorem Typed.kinds {ks : List Kd} {cs : List Value} (h : Typed ks cs) : ∀ v ∈ cs, ∃ k : Kd, k.has v := by
  intro v hv
  obtain ⟨j, hj⟩ := List.mem_iff_getElem?.1 hv
  have hlt := (List.getElem?_eq_some_iff.1 hj).1
  rw [h.1] at hlt
  obtain ⟨w, hw, hk⟩ := h.2 j _ (List.getElem?_eq_getElem hlt)
  rw [hj] at hw
  cases hw
  exact ⟨_, hk⟩
theorem chk_agg (l : List Value) (g : Heap) (h : ∀ v ∈ l, ∃ k : Kd, k.has v) : chkR true (some (.agg l.toArray, g)) (.agg l.toArray) = true := by
  show (!true || veq (.agg ⟨l⟩) (.agg ⟨l⟩)) = true
  simp only [Bool.not_true, Bool.false_or, veq]
  exact veqL_self h
theorem res_cell {rs : List ResultVar} {n k t z : Nat} (hr : rs = [.cell k t]) (h1 : aggT Tryd.prog t = some true) (h2 : sizeT Tryd.prog t = some z) (hk : k < n) (x : Nat → Value) {h : Heap} {v : Value} (e : ldN z (x k) h = some (v, h)) : resultsA Tryd.prog rs (mkF n x) h = some (v, h) := by
  subst hr
  simp only [resultsA, resultA, getD_mkF hk, ld_agg h1 h2, e]
  rfl
end Go.Proofs.YtdnahgfgoajmcaaDoor

namespace Go.Proofs.YtdnahgfgoajmcaaDoor
open Go Go.Abs
attribute [local congr] thenV_congr
theorem is123 : IsFn Tryd.prog 123 Tryd.f123 := ⟨by kernel_rfl, by kernel_rfl, by kernel_rfl, by kernel_rfl⟩
theorem is121 : IsFn Tryd.prog 121 Tryd.f121 := ⟨by kernel_rfl, by kernel_rfl, by kernel_rfl, by kernel_rfl⟩
theorem results123 : Tryd.f123.results.toList = [.cell 2 35] := by kernel_rfl
theorem agg35 : aggT Tryd.prog 35 = some true := by kernel_rfl
theorem dig_cells {l : List Nat} (h : D32 l) : (u8s l).length = 32 ∧ Abs.noHoles (u8s l) = true ∧ oneCells (u8s l) = true := by
  have t := dig_typed h
  exact ⟨t.1, t.all.1, t.all.2.1⟩
set_option maxRecDepth 100000 in
/-- Sum -/
theorem r123 {h : Heap} (hG : 4 ≤ h.n0) (hz : h.get 3 = some roundsL) {p : Nat} {s : HD} (o : s.Ok) (hp : h.get p = some s.cells) (hn : s.n ≤ 100000) :
    ∃ h', CW 123 [ptr p 0] h = some (.agg (u8s s.sum).toArray, h') ∧ Old h h' := by
  have hplt := h.lt_of_get hp
  have clen : s.cells.length = 73 := by
    show (hashC s.S s.B s.n).length = 73
    rw [hash_len, o.S, o.B]
  have hok := hash_ok s
  obtain ⟨h1, z1, o1, g1, n1⟩ := fresh (List.replicate 32 (.int .u8 0)) h
  have L1 := ldN_all (n := 73) (Old.get o1 hp) clen hok.1
  obtain ⟨h2, z2, o2, g2, n2⟩ := fresh zHash h1
  obtain ⟨h3, e3, k3, g3, _, n3⟩ := stored_all (n := 73) (k' := s.cells) g2 (by rw [o2.n0]; exact h1.n0_le_next) rfl clen hok.2
  have o3 : Old h1 h3 := Old.of_new o2 k3 (Nat.le_refl _)
  obtain ⟨h4, z4, o4, g4, n4⟩ := fresh (List.replicate 72 (.int .u8 0)) h3
  have hp4 : h4.n0 ≤ h3.next := by rw [o4.n0]; exact h3.n0_le_next
  have ix0 : idxA 72 1 (ptr h3.next 0) (.int .i64 0) = some (ptr h3.next 0) := by
    have := idxN (N := 72) (b := h3.next) (o := 0) (i := 0) (by decide)
    exact this
  obtain ⟨h5, e5, k5, g5, _, n5⟩ := stored (o := 0) (v := .int .u8 128) g4 hp4 (by decide) rfl rfl
  have o5 : Old h3 h5 := Old.of_new o4 k5 (Nat.le_refl _)
  have O5 : Old h h5 := (o1.trans o3).trans o5
  have l72 : ld1 (ptr p 72) h5 = some (i64n s.n, h5) := ld1_at (Old.get O5 hp) (by
    show (hashC s.S s.B s.n)[72]? = _
    unfold hashC
    rw [List.getElem?_append_right (by simp [o.S]), List.getElem?_append_right (by simp [o.S, o.B])]
    simp [o.S, o.B]) rfl
  have a8 : bin Tryd.prog .add 3 (i64n s.n) (.int .i64 8) = some (i64n (s.n + 8)) := by
    unfold i64n
    rw [bin_add, show (s.n : Int) + 8 = ((s.n + 8 : Nat) : Int) by omega, wrap_i64 (by omega) (by omega)]
  have rm : bin Tryd.prog .rem 3 (i64n (s.n + 8)) (.int .i64 64) = some (i64n ((s.n + 8) % 64)) := by
    unfold i64n
    rw [bin_rem Tryd.prog 3 .i64 _ 64 (by decide)]
    rfl
  have hm : (s.n + 8) % 64 < 64 := Nat.mod_lt _ (by decide)
  have sb : bin Tryd.prog .sub 3 (.int .i64 64) (i64n ((s.n + 8) % 64)) = some (i64n (64 - (s.n + 8) % 64)) := by
    unfold i64n
    rw [bin_sub, show (64 : Int) - (((s.n + 8) % 64 : Nat) : Int) = ((64 - (s.n + 8) % 64 : Nat) : Int) by omega, wrap_i64 (by omega) (by omega)]
  have cu : cvI .u64 (i64n s.n) h5 = some (.int .u64 (s.n : Int), h5) := by
    unfold i64n
    rw [cvI_int, wrap_u64 (by omega) (by omega)]
  have ml : bin Tryd.prog .mul 32 (.int .u64 (s.n : Int)) (.int .u64 8) = some (.int .u64 ((s.n * 8 : Nat) : Int)) := by
    rw [bin_mul, show (s.n : Int) * 8 = ((s.n * 8 : Nat) : Int) by omega, wrap_u64 (by omega) (by omega)]
  have hpad : padOf s.n = (padT (64 - (s.n + 8) % 64) (s.n * 8) 8).take (64 - (s.n + 8) % 64 + 8) := rfl
  have hplen : (padOf s.n).length = 64 - (s.n + 8) % 64 + 8 := by rw [hpad, List.length_take, padT_len]; omega
  have hsum : s.sum = digT (s.wr (padOf s.n)).S 32 := rfl
  generalize hNN : 64 - (s.n + 8) % 64 = N at *
  have hN : N ≤ 64 := by omega
  have hp5 : h5.n0 ≤ h3.next := by rw [k5.n0]; exact hp4
  have key : ∃ o : Out, t123 CW (ptr p 0) h = o ∧ ∃ h', o = some (.agg (u8s s.sum).toArray, h') ∧ Old h h' := by
    refine ⟨_, rfl, ?_⟩
    unfold t123
    simp -implicitDefEqProofs only [z1, eql158, nilCheck_ptr, L1, z2, e3, z4, ix0, e5, addP_ptr, Nat.zero_add, l72, a8, rm, sb, cu, ml, thenV_some, pu_some]
    refine endL_fin (Q := fun o : Out => ∃ h', o = some (.agg (u8s s.sum).toArray, h') ∧ Old h h') (sum1 (N := N) (v := s.n * 8) hN (by omega) hp5 g5 (p2 := ptr h.next 0) (p3 := ptr h1.next 0) rfl rfl rfl rfl rfl rfl) ?_
    rintro _ y g6 ⟨rfl, y2, y3, y4, y5, K6, G6, N6⟩
    simp -implicitDefEqProofs only [endL_exit, b123_11, if_true, t123k123_9_eq]
    unfold t123k123_9
    have O6 : Old h3 g6 := o5.also K6 (fun d hd e => by omega)
    have OO6 : Old h g6 := (o1.trans o3).trans O6
    have b8 : bin Tryd.prog .add 3 (i64n N) (.int .i64 8) = some (i64n (N + 8)) := addc (c := 8) (by omega)
    have sa : sliceArr 72 1 (ptr h3.next 0) none (some (i64n (N + 8))) none = some (.slice (some ⟨h3.next, 0, none⟩) (N + 8) 72) := by
      have b1 : boundA 72 72 (some (i64n (N + 8))) = some (N + 8) := by
        unfold boundA i64n
        simp only
        rw [if_pos (by omega), Int.toNat_natCast]
      unfold sliceArr
      have b2 : boundA 72 72 (none : Option Value) = some 72 := rfl
      have b3 : boundA 0 (N + 8) (none : Option Value) = some 0 := rfl
      simp only [boundsA, b1, b2, b3]
      show some (Value.slice (some ⟨h3.next, if 72 = 0 then 0 else 0 + 0 * 1, none⟩) (N + 8 - 0) (72 - 0)) = _
      rw [if_neg (by decide)]
      rfl
    have sl := sliceBytes_at (off := 0) (n := N + 8) (s := none) G6 (by rw [padT_len]; omega) (padT_bys _ _ _)
    rw [List.drop_zero, ← hpad] at sl
    have hg6 : 4 ≤ g6.n0 := by rw [OO6.n0]; exact hG
    have G3 : g6.get h1.next = some s.cells := Old.get O6 g3
    obtain ⟨h7, e7, k7, g7, w7, m7⟩ := r122 (h := g6) hg6 (Old.get OO6 hz) (p := h1.next) (s := s) o G3 (by rw [OO6.n0]; have := h.n0_le_next; omega) (c := 72) sl (fun _ => by
      unfold goodS
      rw [Nat.ble_eq_true_of_le (show N + 8 ≤ 72 by omega)]
      rfl) (fun y hy _ e => by cases hy; have : h3.next = h1.next := e; omega) (by omega)
    obtain ⟨h8, z8, o8, g8, n8⟩ := fresh (List.replicate 32 (.int .u8 0)) h7
    have m6 := O6.next
    have q7 := k7.next
    simp -implicitDefEqProofs only [y5, b8, y4, sa, y3, e7, z8, thenV_some, pu_some]
    refine endL_fin (Q := fun o : Out => ∃ h', o = some (.agg (u8s s.sum).toArray, h') ∧ Old h h') (sum2 (p := h1.next) (b := h7.next) w7.S (Old.get o8 g7) (by have := h7.lt_of_get g7; omega) (by rw [o8.n0]; exact h7.n0_le_next) g8 (p2 := ptr h.next 0) y2 y3 rfl rfl) ?_
    rintro _ y' g9 ⟨rfl, y2', y8', K9, G9, N9⟩
    simp -implicitDefEqProofs only [endL_exit, b123_16, if_true, t123k123_14_eq]
    unfold t123k123_14
    have dc := dig_cells (sum_d32 s)
    rw [← hsum] at G9
    have L9 := ldN_all G9 dc.1 dc.2.1
    have O7 : Old h h7 := Old.of_new OO6 k7 (by omega)
    have O9 : Old h g9 := (O7.trans o8).also K9 (fun d hd e => by have := O7.next; omega)
    have g1' : g9.get h.next = some (List.replicate 32 (.int .u8 0)) := by
      have e1 : h3.get h.next = some (List.replicate 32 (.int .u8 0)) := Old.get o3 g1
      have e6 : g6.get h.next = some (List.replicate 32 (.int .u8 0)) := Old.get O6 e1
      have e7' : h7.get h.next = some (List.replicate 32 (.int .u8 0)) := Kept.getE k7 e6 (by omega)
      exact Kept.getE K9 (Old.get o8 e7') (by omega)
    obtain ⟨h10, e10, k10, g10, _, _⟩ := stored_all (n := 32) (k' := u8s s.sum) g1' (by rw [O9.n0]; exact h.n0_le_next) rfl dc.1 dc.2.2
    have L10 := ldN_all g10 dc.1 dc.2.1
    simp -implicitDefEqProofs only [y8', L9, y2', e10, thenV_some]
    refine ⟨h10, ?_, Old.of_new O9 k10 (Nat.le_refl _)⟩
    exact res_cell results123 agg35 size32 (show 2 < 66 by decide) _ (by
      show ldN 32 (y' 2) h10 = _
      rw [y2']
      exact L10)
  obtain ⟨o1, e, h', e', r⟩ := key
  exact ⟨h', CW_body is123 hG rfl ((t123_eq _ _ _).trans (e.trans e')), r⟩
end Go.Proofs.YtdnahgfgoajmcaaDoor

namespace Go.Proofs.YtdnahgfgoajmcaaDoor
open Go Go.Abs
attribute [local congr] thenV_congr
def H0 : List (BitVec 32) := [1779033703, 3144134277, 1013904242, 2773480762, 1359893119, 2600822924, 528734635, 1541459225].map (BitVec.ofNat 32)
def HD0 : HD := ⟨H0, List.replicate 64 0, 0⟩
theorem HD0_ok : HD0.Ok := ⟨rfl, rfl, fun x hx => by have := List.eq_of_mem_replicate (show x ∈ List.replicate 64 0 from hx); omega⟩
theorem bldH : bldR (List.replicate 8 (.int .u32 0)) [(0, 1, (.int .u32 1779033703)), (1, 1, (.int .u32 3144134277)), (2, 1, (.int .u32 1013904242)), (3, 1, (.int .u32 2773480762)), (4, 1, (.int .u32 1359893119)), (5, 1, (.int .u32 2600822924)), (6, 1, (.int .u32 528734635)), (7, 1, (.int .u32 1541459225))] = some (.agg (wvs H0).toArray) := by kernel_rfl
theorem bldH2 : bldR zHash [(0, 8, .agg (wvs H0).toArray)] = some (.agg HD0.cells.toArray) := by kernel_rfl
theorem r121 {h : Heap} (hG : 4 ≤ h.n0) : ∃ h', CW 121 [] h = some (ptr h.next 0, h') ∧ Old h h' ∧ h'.get h.next = some HD0.cells ∧ h'.next = h.next + 1 := by
  have b := box_at h HD0.cells (hash_ok HD0).2
  refine ⟨h.alloc HD0.cells, CW_body is121 hG rfl ((t121_eq _ _).trans ?_), Kept.alloc _ _ _, by rw [Heap.get_alloc, if_pos rfl], Heap.next_alloc ..⟩
  unfold t121
  simp -implicitDefEqProofs only [bldH, bldH2, b, thenV_some, pu_some]
theorem is69 : IsFn Tryd.prog 69 Tryd.f69 := ⟨by kernel_rfl, by kernel_rfl, by kernel_rfl, by kernel_rfl⟩
theorem is70 : IsFn Tryd.prog 70 Tryd.f70 := ⟨by kernel_rfl, by kernel_rfl, by kernel_rfl, by kernel_rfl⟩
theorem results69 : Tryd.f69.results.toList = [.cell 2 35] := by kernel_rfl
theorem results70 : Tryd.f70.results.toList = [.cell 4 35] := by kernel_rfl
/-- The hash of a record's bytes; the hash of two hashes. -/
def leafD (r : RecD) : List Nat := ((HD0.wr [0]).wr (encRec r)).sum
def nodeD (a b : List Nat) : List Nat := (((HD0.wr [1]).wr a).wr b).sum
theorem leafD_ok (r : RecD) : D32 (leafD r) := sum_d32 _
theorem nodeD_ok (a b : List Nat) : D32 (nodeD a b) := sum_d32 _
set_option maxRecDepth 100000 in
/-- leaf -/
theorem r69 {h : Heap} (hG : 4 ≤ h.n0) (hz : h.get 3 = some roundsL) {r : RecD} (w : r.Wf) (v : recB r = true) : ∃ h', CW 69 [.agg (recC r).toArray] h = some (.agg (u8s (leafD r)).toArray, h') ∧ Old h h' := by
  obtain ⟨h1, b1, o1, g1, n1⟩ := rec_box2 h w
  obtain ⟨h2, z2, o2, g2, n2⟩ := fresh (List.replicate 32 (.int .u8 0)) h1
  have L2 := ldN_all (o2.get g1) (rec_cells w).1 (rec_cells w).2.1
  have O2 := o1.trans o2
  obtain ⟨a, c, h3, e3, s3, o3, ha, gd⟩ := r43 (h := h2) (by rw [O2.n0]; exact hG) w v
  have O3 := O2.trans o3
  obtain ⟨h4, e4, o4, g4, n4⟩ := r121 (h := h3) (by rw [O3.n0]; exact hG)
  have O4 := O3.trans o4
  have b5 : bslR 1 (.int .u8 0) 1 [(0, .int .u8 0)] h4 = some (.slice (some ⟨h4.next, 0, none⟩) 1 1, h4.alloc [u8 0]) := bsl1 h4 0
  have o5 : Old h4 (h4.alloc [u8 0]) := Kept.alloc _ _ _
  have s5 := bytes1 h4 (x := 0) (by decide)
  have O5 := O4.trans o5
  obtain ⟨h6, e6, k6, g6, w6, m6⟩ := r122 (h := h4.alloc [u8 0]) (by rw [O5.n0]; exact hG) (Old.get O5 hz) (p := h3.next) HD0_ok (Old.get o5 g4) (by rw [O5.n0]; have := h.n0_le_next; have := O3.next; omega) (c := 1) s5 (fun _ => rfl) (fun y hy _ e => by cases hy; have : h4.next = h3.next := e; omega) (by show 0 + 1 ≤ 1000000; omega)
  have O6 : Old h h6 := Old.of_new O5 k6 (by have := O3.next; omega)
  have s6 : sliceBytes a 53 h6 = some (encRec r) := k6.bytes (Old.bytes (o4.trans o5) s3) (fun y hy _ e => by
    have q := ha y hy
    have : y.block < h3.next := by
      obtain ⟨b', off', s', k', hx, hk', _⟩ := (sliceBytes_spec s3).2.2 (by decide)
      rw [hy] at hx
      cases hx
      exact h3.lt_of_get hk'
    omega)
  obtain ⟨h7, e7, k7, g7, w7, m7⟩ := r122 (h := h6) (by rw [O6.n0]; exact hG) (Old.get O6 hz) (p := h3.next) w6 g6 (by rw [O6.n0]; have := h.n0_le_next; have := O3.next; omega) (c := c) s6 (fun _ => gd) (fun y hy _ e => by
    have q := ha y hy
    have : y.block < h3.next := by
      obtain ⟨b', off', s', k', hx, hk', _⟩ := (sliceBytes_spec s3).2.2 (by decide)
      rw [hy] at hx
      cases hx
      exact h3.lt_of_get hk'
    omega) (by rw [m6]; show 0 + 1 + 53 ≤ 1000000; omega)
  have O7 : Old h h7 := Old.of_new O6 k7 (by have := O3.next; omega)
  obtain ⟨h8, e8, o8⟩ := r123 (h := h7) (by rw [O7.n0]; exact hG) (Old.get O7 hz) (p := h3.next) w7 g7 (by rw [m7, m6]; show 0 + 1 + 53 ≤ 100000; omega)
  have O8 := O7.trans o8
  have e8 : CW 123 [ptr h3.next 0] h7 = some (.agg (u8s (leafD r)).toArray, h8) := e8
  have dc := dig_cells (leafD_ok r)
  have hne : ¬ h1.next = h3.next := by have := o3.next; omega
  have q2 : h8.get h1.next = some (List.replicate 32 (.int .u8 0)) := Old.get o8 (Kept.getE k7 (Kept.getE k6 (Old.get (o4.trans o5) (o3.get g2)) hne) hne)
  obtain ⟨h9, e9, k9, g9, _, _⟩ := stored_all (n := 32) (k' := u8s (leafD r)) q2 (by rw [O8.n0]; have := h.n0_le_next; have := o1.next; omega) rfl dc.1 dc.2.2
  have L9 := ldN_all g9 dc.1 dc.2.1
  refine ⟨h9, CW_body is69 hG rfl ((t69_eq _ _ _).trans ?_), Old.of_new O8 k9 (by have := o1.next; omega)⟩
  unfold t69
  simp -implicitDefEqProofs only [b1, z2, L2, e3, ext0, ext1, e4, b5, e6, e7, e8, e9, thenV_some, pu_some]
  exact res_cell results69 agg35 size32 (show 2 < 20 by decide) _ L9
set_option maxRecDepth 100000 in
/-- node -/
theorem r70 {h : Heap} (hG : 4 ≤ h.n0) (hz : h.get 3 = some roundsL) {a b : List Nat} (wa : D32 a) (wb : D32 b) : ∃ h', CW 70 [.agg (u8s a).toArray, .agg (u8s b).toArray] h = some (.agg (u8s (nodeD a b)).toArray, h') ∧ Old h h' := by
  have ca := dig_cells wa
  have cb := dig_cells wb
  have b1 := box_at h _ ca.2.2
  have o1 : Old h (h.alloc (u8s a)) := Kept.alloc _ _ _
  have g1 : (h.alloc (u8s a)).get h.next = some (u8s a) := by rw [Heap.get_alloc, if_pos rfl]
  have n1 : (h.alloc (u8s a)).next = h.next + 1 := Heap.next_alloc ..
  generalize h.alloc (u8s a) = h1 at *
  have b2 := box_at h1 _ cb.2.2
  have o2 : Old h1 (h1.alloc (u8s b)) := Kept.alloc _ _ _
  have g2 : (h1.alloc (u8s b)).get h1.next = some (u8s b) := by rw [Heap.get_alloc, if_pos rfl]
  have n2 : (h1.alloc (u8s b)).next = h1.next + 1 := Heap.next_alloc ..
  generalize h1.alloc (u8s b) = h2 at *
  obtain ⟨h3, z3, o3, g3, n3⟩ := fresh (List.replicate 32 (.int .u8 0)) h2
  have O3 := (o1.trans o2).trans o3
  obtain ⟨h4, e4, o4, g4, n4⟩ := r121 (h := h3) (by rw [O3.n0]; exact hG)
  have O4 := O3.trans o4
  have b5 : bslR 1 (.int .u8 0) 1 [(0, .int .u8 1)] h4 = some (.slice (some ⟨h4.next, 0, none⟩) 1 1, h4.alloc [u8 1]) := bsl1 h4 1
  have o5 : Old h4 (h4.alloc [u8 1]) := Kept.alloc _ _ _
  have s5 := bytes1 h4 (x := 1) (by decide)
  have O5 := O4.trans o5
  have hpl : h.n0 ≤ h3.next := by have := h.n0_le_next; have := O3.next; omega
  obtain ⟨h6, e6, k6, g6, w6, m6⟩ := r122 (h := h4.alloc [u8 1]) (by rw [O5.n0]; exact hG) (Old.get O5 hz) (p := h3.next) HD0_ok (Old.get o5 g4) (by rw [O5.n0]; exact hpl) (c := 1) s5 (fun _ => rfl) (fun y hy _ e => by cases hy; have : h4.next = h3.next := e; omega) (by show 0 + 1 ≤ 1000000; omega)
  have O6 : Old h h6 := Old.of_new O5 k6 (by have := O3.next; omega)
  have q1 : h6.get h.next = some (u8s a) := Kept.getE k6 (Old.get (((o2.trans o3).trans o4).trans o5) g1) (by omega)
  have q2 : h6.get h1.next = some (u8s b) := Kept.getE k6 (Old.get ((o3.trans o4).trans o5) g2) (by omega)
  have t1 := sliceBytes_at (off := 0) (n := 32) (s := none) q1 (by rw [wa.1]; decide) wa.2
  rw [List.drop_zero, List.take_of_length_le (by rw [wa.1]; decide)] at t1
  obtain ⟨h7, e7, k7, g7, w7, m7⟩ := r122 (h := h6) (by rw [O6.n0]; exact hG) (Old.get O6 hz) (p := h3.next) w6 g6 (by rw [O6.n0]; exact hpl) (c := 32) t1 (fun _ => rfl) (fun y hy _ e => by cases hy; have : h.next = h3.next := e; omega) (by rw [m6]; show 0 + 1 + 32 ≤ 1000000; omega)
  have O7 : Old h h7 := Old.of_new O6 k7 (by have := O3.next; omega)
  have t2 := sliceBytes_at (off := 0) (n := 32) (s := none) (Kept.getE k7 q2 (by omega)) (by rw [wb.1]; decide) wb.2
  rw [List.drop_zero, List.take_of_length_le (by rw [wb.1]; decide)] at t2
  obtain ⟨h8, e8, k8, g8, w8, m8⟩ := r122 (h := h7) (by rw [O7.n0]; exact hG) (Old.get O7 hz) (p := h3.next) w7 g7 (by rw [O7.n0]; exact hpl) (c := 32) t2 (fun _ => rfl) (fun y hy _ e => by cases hy; have : h1.next = h3.next := e; omega) (by rw [m7, m6]; show 0 + 1 + 32 + 32 ≤ 1000000; omega)
  have O8 : Old h h8 := Old.of_new O7 k8 (by have := O3.next; omega)
  obtain ⟨h9, e9, o9⟩ := r123 (h := h8) (by rw [O8.n0]; exact hG) (Old.get O8 hz) (p := h3.next) w8 g8 (by rw [m8, m7, m6]; show 0 + 1 + 32 + 32 ≤ 100000; omega)
  have O9 := O8.trans o9
  have e9 : CW 123 [ptr h3.next 0] h8 = some (.agg (u8s (nodeD a b)).toArray, h9) := e9
  have dc := dig_cells (nodeD_ok a b)
  have hne : ¬ h2.next = h3.next := by omega
  have q3 : h9.get h2.next = some (List.replicate 32 (.int .u8 0)) := Old.get o9 (Kept.getE k8 (Kept.getE k7 (Kept.getE k6 (Old.get (o4.trans o5) g3) hne) hne) hne)
  obtain ⟨h10, e10, k10, g10, _, _⟩ := stored_all (n := 32) (k' := u8s (nodeD a b)) q3 (by rw [O9.n0]; have := h.n0_le_next; omega) rfl dc.1 dc.2.2
  have L10 := ldN_all g10 dc.1 dc.2.1
  refine ⟨h10, CW_body is70 hG rfl ((t70_eq _ _ _ _).trans ?_), Old.of_new O9 k10 (by omega)⟩
  unfold t70
  simp -implicitDefEqProofs only [b1, b2, z3, e4, b5, e6, arr32, e7, e8, e9, e10, thenV_some, pu_some]
  exact res_cell results70 agg35 size32 (show 4 < 18 by decide) _ L10
end Go.Proofs.YtdnahgfgoajmcaaDoor

namespace Go.Proofs.YtdnahgfgoajmcaaDoor
open Go Go.Abs
attribute [local congr] thenV_congr
end Go.Proofs.YtdnahgfgoajmcaaDoor

namespace Go.Proofs.YtdnahgfgoajmcaaDoor
open Go Go.Abs
attribute [local congr] thenV_congr
end Go.Proofs.YtdnahgfgoajmcaaDoor

namespace Go.Proofs.YtdnahgfgoajmcaaDoor
open Go Go.Abs
attribute [local congr] thenV_congr
end Go.Proofs.YtdnahgfgoajmcaaDoor

namespace Go.Proofs.YtdnahgfgoajmcaaDoor
open Go Go.Abs
attribute [local congr] thenV_congr
end Go.Proofs.YtdnahgfgoajmcaaDoor

namespace Go.Proofs.YtdnahgfgoajmcaaDoor
open Go Go.Abs
attribute [local congr] thenV_congr
/-- The state after some blocks. -/
def foldB : Nat → List Nat → List (BitVec 32) → List (BitVec 32)
  | 0, _, S => S
  | t + 1, m, S => foldB t (m.drop 64) (compS S (m.take 64))
end Go.Proofs.YtdnahgfgoajmcaaDoor

namespace Go.Proofs.YtdnahgfgoajmcaaDoor
open Go Go.Abs
attribute [local congr] thenV_congr
/-- How many zeros stand behind a message of n bytes and the byte 128. -/
def zerosN (n : Nat) : Nat := (119 - n % 64) % 64
/-- A message with its padding. -/
def padM (l : List Nat) : List Nat := ((l ++ [128]) ++ List.replicate (zerosN l.length) 0) ++ beB 8 (l.length * 8)
def blocksN (l : List Nat) : Nat := (l.length + zerosN l.length + 9) / 64
/-- What the document's Sum is of a state and bytes. -/
def sumR (S : List (BitVec 32)) (l : List Nat) : List Nat := digT (foldB (blocksN l) (padM l) S) 32
end Go.Proofs.YtdnahgfgoajmcaaDoor

namespace Go.Proofs.YtdnahgfgoajmcaaDoor
open Go Go.Abs
attribute [local congr] thenV_congr
/-- The document's table of the digest. -/
def GR (h : Heap) : Prop := h.get 1 = some (wvs rkW)
theorem GR.old {h h' : Heap} (x : GR h) (o : Old h h') : GR h' := Old.get o x
/-- The document's hash of a record's bytes, and of two hashes. -/
def leafR (r : RecD) : List Nat := sumR H0 ([0] ++ encRec r)
def nodeR (a b : List Nat) : List Nat := sumR H0 (([1] ++ a) ++ b)
end Go.Proofs.YtdnahgfgoajmcaaDoor

namespace Go.Proofs.YtdnahgfgoajmcaaDoor
open Go Go.Abs
attribute [local congr] thenV_congr
end Go.Proofs.YtdnahgfgoajmcaaDoor

namespace Go.Proofs.YtdnahgfgoajmcaaDoor
open Go Go.Abs
theorem wr_fold : ∀ (f : Nat) (s : HD) (l : List Nat), s.B.length = 64 → l.length ≤ f →
    (HD.wrN f s l).S = foldB ((s.n % 64 + l.length) / 64) (s.B.take (s.n % 64) ++ l) s.S ∧ (HD.wrN f s l).B.take ((s.n + l.length) % 64) = (s.B.take (s.n % 64) ++ l).drop (64 * ((s.n % 64 + l.length) / 64)) ∧ (HD.wrN f s l).n = s.n + l.length ∧ (HD.wrN f s l).B.length = 64 := by
  have base : ∀ (s : HD), s.B.length = 64 → s.S = foldB ((s.n % 64 + ([] : List Nat).length) / 64) (s.B.take (s.n % 64) ++ []) s.S ∧ s.B.take ((s.n + ([] : List Nat).length) % 64) = (s.B.take (s.n % 64) ++ []).drop (64 * ((s.n % 64 + ([] : List Nat).length) / 64)) ∧ s.n = s.n + ([] : List Nat).length ∧ s.B.length = 64 := by
    intro s hB
    have h0 : (s.n % 64 + ([] : List Nat).length) / 64 = 0 := by simp only [List.length_nil]; omega
    rw [h0]
    refine ⟨rfl, ?_, rfl, hB⟩
    rw [List.append_nil, Nat.mul_zero, List.drop_zero]
    rfl
  intro f
  induction f with
  | zero =>
    intro s l hB hl
    have : l = [] := List.length_eq_zero_iff.1 (by omega)
    subst this
    exact base s hB
  | succ f ih =>
    intro s l hB hl
    rw [HD.wrN]
    by_cases e : l = []
    · subst e
      rw [if_pos rfl]
      exact base s hB
    · rw [if_neg e]
      have hp : 0 < l.length := List.length_pos_iff.2 e
      have hm : s.n % 64 < 64 := Nat.mod_lt _ (by decide)
      generalize hat : s.n % 64 = a at *
      generalize hk : min l.length (64 - a) = k at *
      have hPB : (s.put l).B = s.B.take a ++ (l.take k ++ s.B.drop (a + k)) := by unfold HD.put; simp only [hat, hk]
      have hPn : (s.put l).n = s.n + k := by unfold HD.put; simp only [hat, hk]
      have hPS : (s.put l).S = if a + k = 64 then compS s.S (s.B.take a ++ (l.take k ++ s.B.drop (a + k))) else s.S := by unfold HD.put; simp only [hat, hk]
      have hPl : (s.put l).B.length = 64 := by
        rw [hPB]
        simp only [List.length_append, List.length_take, List.length_drop, hB]
        omega
      obtain ⟨i1, i2, i3, i4⟩ := ih (s.put l) (l.drop k) hPl (by rw [List.length_drop]; omega)
      have hdl : (l.drop k).length = l.length - k := List.length_drop
      rw [hPn, hdl] at i1 i2 i3
      by_cases hc : a + k = 64
      · have a0 : (s.n + k) % 64 = 0 := by omega
        have t1 : (a + l.length) / 64 = (l.length - k) / 64 + 1 := by omega
        have hB2 : s.B.take a ++ (l.take k ++ s.B.drop (a + k)) = (s.B.take a ++ l).take 64 := by
          rw [hc, List.drop_eq_nil_of_le (by omega), List.append_nil, List.take_append, List.length_take, hB, Nat.min_eq_left (by omega), List.take_take, Nat.min_eq_right (by omega), show 64 - a = k by omega]
        have hD2 : l.drop k = (s.B.take a ++ l).drop 64 := by
          have q : (s.B.take a).drop 64 = [] := List.drop_eq_nil_of_le (by rw [List.length_take]; omega)
          rw [List.drop_append, List.length_take, hB, Nat.min_eq_left (by omega), q, List.nil_append, show 64 - a = k by omega]
        rw [a0, List.take_zero, List.nil_append, Nat.zero_add] at i1 i2
        rw [hPS, if_pos hc, hB2] at i1
        refine ⟨?_, ?_, by rw [i3]; omega, i4⟩
        · rw [i1, t1, foldB, ← hD2]
        · rw [show (s.n + l.length) % 64 = (s.n + k + (l.length - k)) % 64 by congr 1; omega, i2, t1, hD2, List.drop_drop]
          congr 1
          omega
      · have hkl : k = l.length := by omega
        have d0 : l.drop k = [] := List.drop_eq_nil_of_le (by omega)
        have a1 : (s.n + k) % 64 = a + l.length := by omega
        have t0 : (a + l.length) / 64 = 0 := by omega
        have z0 : ((s.n + k) % 64 + (l.length - k)) / 64 = 0 := by omega
        rw [z0] at i1 i2
        rw [d0] at i1 i2 i3 i4 ⊢
        rw [hPS, if_neg hc] at i1
        refine ⟨?_, ?_, by rw [i3]; omega, i4⟩
        · rw [i1, t0]
          rfl
        · rw [show (s.n + l.length) % 64 = (s.n + k + (l.length - k)) % 64 by congr 1; omega, i2, t0, a1, hPB]
          rw [Nat.mul_zero, List.drop_zero, List.drop_zero, List.append_nil, ← List.append_assoc, List.take_append_of_le_length (by simp [hB]; omega), List.take_of_length_le (by simp [hB]; omega), hkl, List.take_length]
end Go.Proofs.YtdnahgfgoajmcaaDoor

namespace Go.Proofs.YtdnahgfgoajmcaaDoor
open Go Go.Abs
theorem foldB_add : ∀ (t u : Nat) (m : List Nat) (S : List (BitVec 32)), foldB (t + u) m S = foldB u (m.drop (64 * t)) (foldB t m S)
  | 0, u, m, S => by rw [Nat.zero_add, Nat.mul_zero, List.drop_zero, foldB]
  | t + 1, u, m, S => by
    rw [show t + 1 + u = (t + u) + 1 by omega, foldB, foldB_add t u, foldB, List.drop_drop, show 64 + 64 * t = 64 * (t + 1) by omega]
theorem foldB_app : ∀ (t : Nat) (m x : List Nat) (S : List (BitVec 32)), 64 * t ≤ m.length → foldB t (m ++ x) S = foldB t m S
  | 0, _, _, _, _ => rfl
  | t + 1, m, x, S, h => by
    rw [foldB, foldB, List.take_append_of_le_length (by omega), List.drop_append_of_le_length (by omega), foldB_app t _ x _ (by rw [List.length_drop]; omega)]
theorem beB8_at (v : Nat) {j : Nat} (hj : j < 8) : (beB 8 v)[j]? = some (v / 2 ^ (56 - 8 * j) % 256) := by
  match j, hj with
  | 0, _ => rfl
  | 1, _ => rfl
  | 2, _ => rfl
  | 3, _ => rfl
  | 4, _ => rfl
  | 5, _ => rfl
  | 6, _ => rfl
  | 7, _ => rfl
theorem padT_form {N : Nat} (h1 : 1 ≤ N) (h2 : N ≤ 64) (v : Nat) : ∀ j, j ≤ 8 → padT N v j = (128 :: List.replicate (N - 1) 0) ++ ((beB 8 v).take j ++ List.replicate (72 - N - j) 0)
  | 0, _ => by
    rw [padT, List.take_zero, List.nil_append, List.cons_append, List.replicate_append_replicate]
    congr 2
    omega
  | j + 1, h => by
    rw [padT, padT_form h1 h2 v j (by omega)]
    have hT : (beB 8 v).take (j + 1) = (beB 8 v).take j ++ [v / 2 ^ (56 - 8 * j) % 256] := by
      rw [List.take_add_one, beB8_at v (by omega)]
      rfl
    have hR : List.replicate (72 - N - j) 0 = 0 :: List.replicate (72 - N - (j + 1)) 0 := by
      rw [show 72 - N - j = (72 - N - (j + 1)) + 1 by omega, List.replicate_succ]
    rw [hT, hR, ← List.append_assoc, set_nat (A := (128 :: List.replicate (N - 1) 0) ++ (beB 8 v).take j) (B' := (v / 2 ^ (56 - 8 * j) % 256) :: List.replicate (72 - N - (j + 1)) 0) 0 (by simp [beB_length]; omega) rfl]
    simp only [List.append_assoc, List.cons_append, List.nil_append]
theorem padOf_eq (n : Nat) : padOf n = ([128] ++ List.replicate (zerosN n) 0) ++ beB 8 (n * 8) := by
  have hz : 64 - (n + 8) % 64 - 1 = zerosN n := by unfold zerosN; omega
  have hm : (n + 8) % 64 < 64 := Nat.mod_lt _ (by decide)
  unfold padOf
  rw [padT_form (by omega) (by omega) _ 8 (Nat.le_refl _), hz, List.take_of_length_le (l := beB 8 (n * 8)) (by rw [beB_length]; decide)]
  have e : (128 :: List.replicate (zerosN n) 0) ++ (beB 8 (n * 8) ++ List.replicate (72 - (64 - (n + 8) % 64) - 8) 0) = (([128] ++ List.replicate (zerosN n) 0) ++ beB 8 (n * 8)) ++ List.replicate (72 - (64 - (n + 8) % 64) - 8) 0 := by simp only [List.append_assoc, List.cons_append, List.nil_append]
  rw [e, List.take_append_of_le_length (by simp [beB_length]; omega), List.take_of_length_le (by simp [beB_length]; omega)]
theorem HD.sum_def (s : HD) : s.sum = digT (s.wr (padOf s.n)).S 32 := rfl
theorem HD.wr_def (s : HD) (l : List Nat) : s.wr l = HD.wrN l.length s l := rfl
theorem sum_same (l : List Nat) : (HD0.wr l).sum = sumR H0 l := by
  obtain ⟨a1, a2, a3, a4⟩ := wr_fold l.length HD0 l rfl (Nat.le_refl _)
  have n0 : HD0.n = 0 := rfl
  rw [n0] at a1 a2 a3
  have e0 : (0 : Nat) % 64 = 0 := rfl
  rw [e0, List.take_zero, List.nil_append, Nat.zero_add] at a1 a2
  rw [Nat.zero_add] at a3
  obtain ⟨b1, _, _, _⟩ := wr_fold (padOf l.length).length (HD0.wr l) (padOf l.length) a4 (Nat.le_refl _)
  have a3 : (HD0.wr l).n = l.length := a3
  have a2 : (HD0.wr l).B.take (l.length % 64) = l.drop (64 * (l.length / 64)) := a2
  have a1 : (HD0.wr l).S = foldB (l.length / 64) l H0 := a1
  rw [a3, a2, a1] at b1
  have hp : padM l = l ++ padOf l.length := by
    rw [padOf_eq]
    unfold padM
    simp only [List.append_assoc]
  have hpl : (padOf l.length).length = zerosN l.length + 9 := by
    rw [padOf_eq]
    simp [beB_length]
  have hb : blocksN l = l.length / 64 + (l.length % 64 + (padOf l.length).length) / 64 := by
    unfold blocksN
    rw [hpl]
    omega
  have q : (HD0.wr l).sum = digT ((HD0.wr l).wr (padOf (HD0.wr l).n)).S 32 := HD.sum_def _
  rw [q, a3, HD.wr_def (HD0.wr l) (padOf l.length), b1]
  unfold sumR
  rw [hb, hp, foldB_add, foldB_app (l.length / 64) l (padOf l.length) H0 (by omega), List.drop_append_of_le_length (by omega)]
end Go.Proofs.YtdnahgfgoajmcaaDoor

namespace Go.Proofs.YtdnahgfgoajmcaaDoor
open Go Go.Abs
/-- A sum hangs on the state, the size, and the bytes that wait. -/
theorem sum_congr {s u : HD} (hs : s.B.length = 64) (hu : u.B.length = 64) (hS : s.S = u.S) (hn : s.n = u.n) (hB : s.B.take (s.n % 64) = u.B.take (u.n % 64)) : s.sum = u.sum := by
  obtain ⟨a1, _⟩ := wr_fold (padOf s.n).length s (padOf s.n) hs (Nat.le_refl _)
  obtain ⟨b1, _⟩ := wr_fold (padOf u.n).length u (padOf u.n) hu (Nat.le_refl _)
  rw [HD.sum_def, HD.sum_def, HD.wr_def s (padOf s.n), HD.wr_def u (padOf u.n), a1, b1, hS, hB, hn]
theorem wr_two {s : HD} (hs : s.B.length = 64) (a b : List Nat) : ((s.wr a).wr b).sum = (s.wr (a ++ b)).sum := by
  obtain ⟨a1, a2, a3, a4⟩ := wr_fold a.length s a hs (Nat.le_refl _)
  rw [← HD.wr_def s a] at a1 a2 a3 a4
  obtain ⟨b1, b2, b3, b4⟩ := wr_fold b.length (s.wr a) b a4 (Nat.le_refl _)
  rw [← HD.wr_def (s.wr a) b] at b1 b2 b3 b4
  obtain ⟨c1, c2, c3, c4⟩ := wr_fold (a ++ b).length s (a ++ b) hs (Nat.le_refl _)
  rw [← HD.wr_def s (a ++ b)] at c1 c2 c3 c4
  rw [a3] at b1 b2 b3
  rw [a2] at b1 b2
  rw [List.length_append] at c1 c2 c3
  have hP : (s.B.take (s.n % 64)).length = s.n % 64 := by
    have : s.n % 64 < 64 := Nat.mod_lt _ (by decide)
    rw [List.length_take, hs, Nat.min_eq_left (by omega)]
  have ht : (s.n % 64 + (a.length + b.length)) / 64 = (s.n % 64 + a.length) / 64 + ((s.n + a.length) % 64 + b.length) / 64 := by omega
  have hle : 64 * ((s.n % 64 + a.length) / 64) ≤ (s.B.take (s.n % 64) ++ a).length := by
    rw [List.length_append, hP]
    omega
  have hd : (s.B.take (s.n % 64) ++ (a ++ b)).drop (64 * ((s.n % 64 + a.length) / 64)) = (s.B.take (s.n % 64) ++ a).drop (64 * ((s.n % 64 + a.length) / 64)) ++ b := by
    rw [← List.append_assoc, List.drop_append_of_le_length hle]
  refine sum_congr b4 c4 ?_ (by rw [b3, c3]; omega) ?_
  · rw [b1, c1, a1, ht, foldB_add, hd, ← List.append_assoc, foldB_app _ _ b _ hle]
  · rw [b3, b2, c3, show s.n + (a.length + b.length) = s.n + a.length + b.length by omega, show (s.n + a.length + b.length) % 64 = (s.n + (a.length + b.length)) % 64 by congr 1; omega, c2, ht, Nat.mul_add, ← List.drop_drop, hd]
theorem leaf_same (r : RecD) : leafD r = leafR r := by
  unfold leafD leafR
  rw [wr_two rfl, sum_same]
theorem node_same (a b : List Nat) : nodeD a b = nodeR a b := by
  have h1 : (HD0.wr [1]).B.length = 64 := (wr_fold 1 HD0 [1] rfl (Nat.le_refl _)).2.2.2
  unfold nodeD nodeR
  rw [wr_two h1, wr_two rfl, sum_same, List.append_assoc]
end Go.Proofs.YtdnahgfgoajmcaaDoor

namespace Go.Proofs.YtdnahgfgoajmcaaDoor
open Go Go.Abs
attribute [local congr] thenV_congr
/-- The greatest power of two below n, from m on. -/
def halfG : Nat → Nat → Nat → Nat
  | 0, m, _ => m
  | f + 1, m, n => if 2 * m < n then halfG f (2 * m) n else m
def halfN (n : Nat) : Nat := halfG 30 1 n
end Go.Proofs.YtdnahgfgoajmcaaDoor

