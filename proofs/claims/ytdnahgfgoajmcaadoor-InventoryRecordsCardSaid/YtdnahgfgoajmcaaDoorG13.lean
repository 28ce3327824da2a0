/-
  The wire: messages as arguments.
  Conditions: the argument can be read as data.
  The wire: messages as plain data.
  Conditions: as each theorem states.
  The wire: manifests and bodies, written.
  Conditions: as each theorem states.
  The inventory: records and bytes as arguments; the digest's table as it is laid.
  Conditions: the argument can be read as data.
  The wire's known run; the calls' evaluator; lists of typed cells, and their equality.
  Conditions: as each theorem states.
  The wire: slices of typed cells, and their comparison, element by element.
  Conditions: as each theorem states.
  Taken over from the disk's texts: numbers of functions and types are mapped.
  Conditions: as each theorem states.
  The wire: Decode.
  Conditions: as each theorem states.
  The wire: Decode.
  Conditions: as each theorem states.
  The wire's plain law: bytes that are decoded are the frame of their message.
  Conditions: as each theorem states.
  The reference's reader: digest, head.
  Conditions: as each theorem states.
  The reference: validity of a message's parts.
  Conditions: as each theorem states.
  The reference: the record of bytes.
  Conditions: as each theorem states.
  The reference: text, a record's and a manifest's bytes.
  Conditions: as each theorem states.
  InventoryRecords: the keys of records, on both sides; the bytes of records that are not valid.
  Conditions: as each theorem states.
  InventoryRecords: keys as bytes, on both sides; the bytes of records that are not valid.
  Conditions: as each theorem states.
  InventoryRecords: which of two records is newer, on the inventory's side.
  Conditions: as each theorem states.
-/
import Derived.Test.YtdnahgfgoajmcaaDoorG12
import Derived.OpenShut
namespace Go.Proofs.YtdnahgfgoajmcaaDoor
open Go Go.Abs
open Go.ChangeShapes Go.WideShapes Go.ChangeAt Go.RowKit
/-- Some cells out of many are of these kinds. -/
def Pc (ks : List Kd) (o : Nat) (cs : List Value) : Prop := Typed ks ((cs.drop o).take ks.length)
theorem Pc.app {ks ls : List Kd} {o : Nat} {cs : List Value} (x : Pc ks o cs) (y : Pc ls (o + ks.length) cs) : Pc (ks ++ ls) o cs := by
  unfold Pc at *
  rw [List.length_append, List.take_add, List.drop_drop]
  exact x.app y
theorem Pc.whole {ks : List Kd} {cs : List Value} (x : Pc ks 0 cs) (h : cs.length = ks.length) : Typed ks cs := by
  unfold Pc at x
  rw [List.drop_zero, ← h, List.take_length] at x
  exact x
theorem clean_nice {n : Nat} {v : Value} (h : nice n v = true) : clean n v = v := by unfold clean; rw [if_pos h]
theorem Kd.has.clean {k : Kd} {v : Value} (h : k.has v) (n : Nat) : clean n v = v := by
  cases k with
  | u8 => obtain ⟨m, rfl, _⟩ := h; rfl
  | i k => obtain ⟨m, rfl, _⟩ := h; rfl
  | b => obtain ⟨t, rfl⟩ := h; rfl
theorem Typed.clean {ks : List Kd} {cs : List Value} (h : Typed ks cs) (n : Nat) : cs.map (clean n) = cs := by
  refine List.ext_getElem? fun j => ?_
  rw [List.getElem?_map]
  by_cases hj : j < ks.length
  · obtain ⟨v, h1, h2⟩ := h.2 j _ (List.getElem?_eq_getElem hj)
    rw [h1, Option.map_some, h2.clean]
  · rw [List.getElem?_eq_none (by rw [h.1]; omega)]; rfl
theorem u8_lit {n : Int} (h : (Lit.int .u8 n).wf = true) : ∃ m : Nat, n = m ∧ m < 256 := by
  simp [Lit.wf, IntKind.min, IntKind.max, IntKind.signed, IntKind.bits] at h
  exact ⟨n.toNat, by omega, by omega⟩
theorem clean_slice {W : World} {a : Addr} {len cap : Nat} (hlc : len ≤ cap) (hc : 0 < cap → a.spot = none ∧ a.block < W.heap.size) :
    isHole (clean W.heap.size (.slice (some a) len cap)) = false ∧ ∃ a' , clean W.heap.size (.slice (some a) len cap) = .slice (some a') len cap ∧ (0 < cap → a' = a) := by
  obtain ⟨b, off, s⟩ := a
  by_cases h0 : 0 < cap
  · obtain ⟨h1, h2⟩ := hc h0
    have h1' : s = none := h1
    have h2' : b < W.heap.size := h2
    subst h1'
    have hn : nice W.heap.size (.slice (some ⟨b, off, none⟩) len cap) = true := by simpa [nice] using h2'
    rw [clean_nice hn]
    exact ⟨rfl, _, rfl, fun _ => rfl⟩
  · obtain rfl : cap = 0 := by omega
    obtain rfl : len = 0 := by omega
    by_cases hn : nice W.heap.size (.slice (some ⟨b, off, s⟩) 0 0) = true
    · rw [clean_nice hn]
      exact ⟨rfl, _, rfl, fun h => absurd h h0⟩
    · have : clean W.heap.size (.slice (some ⟨b, off, s⟩) 0 0) = .slice (some ⟨0, 0, some 0⟩) 0 0 := by unfold clean; rw [if_neg hn]; rfl
      rw [this]
      exact ⟨rfl, _, rfl, fun h => absurd h h0⟩
theorem add_block (a : Addr) (n : Nat) : (a.add n).block = a.block := by unfold Addr.add; split <;> rfl
theorem add_off (a : Addr) (n : Nat) : (a.add n).off = a.off + n := by
  unfold Addr.add
  split
  · rename_i h; rw [h]; rfl
  · rfl
section
variable {H : Type} {enc : TypeId × Value → H} {W : World} {base : Nat} {held : Bool}
/-- What can be read as data of this type has cells of these kinds. -/
def Reads (enc : TypeId × Value → H) (W : World) (base : Nat) (held : Bool) (t : TypeId) (ks : List Kd) : Prop :=
  ∀ fuel cs x, DataW.trod enc Tryd.prog W base (fun _ => true) held fuel t cs = some x → Typed ks cs
theorem reads_u8 {t : TypeId} (ht : Tryd.prog.underlying t = some (.int .u8)) : Reads enc W base held t [.u8] := fun fuel cs x h => by
  obtain ⟨n, rfl, _, w⟩ := DataW.trod_int ht h
  obtain ⟨m, rfl, hm⟩ := u8_lit w
  exact .one ⟨m, rfl, hm⟩
theorem reads_i {t : TypeId} {k : IntKind} (ht : Tryd.prog.underlying t = some (.int k)) : Reads enc W base held t [.i k] := fun fuel cs x h => by
  obtain ⟨n, rfl, _, w⟩ := DataW.trod_int ht h
  exact .one ⟨n, rfl, w⟩
theorem reads_b {t : TypeId} (ht : Tryd.prog.underlying t = some .bool) : Reads enc W base held t [.b] := fun fuel cs x h => by
  obtain ⟨n, rfl, _⟩ := DataW.trod_bool ht h
  exact .one ⟨n, rfl⟩
theorem reads_arr {t e : TypeId} {n : Nat} {k : Kd} (ht : Tryd.prog.underlying t = some (.array n e)) (h1 : Tryd.prog.cellsOf e = 1) (hn : Tryd.prog.cellsOf t = n) (R : Reads enc W base held e [k]) : Reads enc W base held t (List.replicate n k) := fun fuel cs x h => by
  obtain ⟨xs, m, rfl, _, hl, hx, hf⟩ := DataW.trod_array ht h
  rw [hn] at hl
  refine ⟨by rw [hl, List.length_replicate], fun j t' hj => ?_⟩
  have hj' : j < n := by
    have := (List.getElem?_eq_some_iff.1 hj).1
    rwa [List.length_replicate] at this
  rw [List.getElem?_replicate, if_pos hj'] at hj
  cases hj
  have := hf j hj'
  rw [List.getElem?_eq_getElem (by omega), h1, Nat.mul_one] at this
  obtain ⟨v, g1, g2⟩ := (R _ _ _ this).2 0 k rfl
  rw [List.getElem?_take, if_pos (by omega), List.getElem?_drop, Nat.add_zero] at g1
  exact ⟨v, g1, g2⟩
theorem fld {fuel : Nat} {t : TypeId} {cs : List Value} {x : DataW H × List MemPlace} {fs : Array Field} (ht : Tryd.prog.underlying t = some (.struct fs)) (h : DataW.trod enc Tryd.prog W base (fun _ => true) held fuel t cs = some x) {i z : Nat} {f : Field} (hf : fs[i]? = some f) (hz : Tryd.prog.cellsOf f.type = z) :
    ∃ m y, DataW.trod enc Tryd.prog W base (fun _ => true) held m f.type ((cs.drop f.offset).take z) = some y := by
  obtain ⟨xs, n, rfl, _, _, hl, h2⟩ := DataW.trod_struct ht h
  have := h2 i f hf
  rw [List.getElem?_eq_getElem (by rw [hl]; exact (Array.getElem?_eq_some_iff.1 hf).1), hz] at this
  exact ⟨_, _, this⟩
theorem piece {fuel : Nat} {t : TypeId} {cs : List Value} {x : DataW H × List MemPlace} {fs : Array Field} (ht : Tryd.prog.underlying t = some (.struct fs)) (h : DataW.trod enc Tryd.prog W base (fun _ => true) held fuel t cs = some x) {i : Nat} {f : Field} {ks : List Kd} (hf : fs[i]? = some f) (hz : Tryd.prog.cellsOf f.type = ks.length)
    (R : Reads enc W base held f.type ks) : Pc ks f.offset cs := by
  obtain ⟨m, y, e⟩ := fld ht h hf hz
  exact R _ _ _ e
theorem sl_of {t e : TypeId} {ks : List Kd} (ht : Tryd.prog.underlying t = some (.slice e)) (he : Tryd.prog.cellsOf e = ks.length) (hz : 0 < ks.length) (R : Reads enc W base held e ks) {fuel : Nat} {v : Value} {x : DataW H × List MemPlace}
    (h : DataW.trod enc Tryd.prog W base (fun _ => true) held fuel t [v] = some x) : isHole (clean W.heap.size v) = false ∧ ∃ n cs, SlN (topHeap W (view W)) ks (clean W.heap.size v) n cs := by
  have nilT : TypedN ks 0 [] := ⟨by simp, fun i hi => absurd hi (Nat.not_lt_zero i)⟩
  rcases DataW.trod_slice ht h with ⟨h1, _⟩ | ⟨a, len, cap, elems, rest, n, _, h1, _, _, hlc, hcm, hl, hel, hsp, _⟩
  · cases h1
    exact ⟨rfl, 0, [], none, 0, rfl, fun _ => rfl, nilT, fun h => absurd h (Nat.lt_irrefl 0)⟩
  · cases h1
    rw [he] at hel hsp
    have hpos : 0 < cap → a.spot = none ∧ a.block < W.heap.size := by
      intro h0
      have key : ∃ cs, W.cells? base (a.add (0 * ks.length)) ks.length = some cs := by
        by_cases hlen : 0 < len
        · have := hel 0 hlen
          rw [List.getElem?_eq_getElem (by omega), Option.bind_eq_some_iff] at this
          obtain ⟨cs, hc, _⟩ := this
          exact ⟨cs, hc⟩
        · have := (hsp rfl).2 0 (by omega)
          rw [List.getElem?_eq_getElem (by rw [(hsp rfl).1]; omega), Option.bind_eq_some_iff] at this
          obtain ⟨cs, hc, _⟩ := this
          obtain rfl : len = 0 := by omega
          exact ⟨cs, hc⟩
      obtain ⟨cs, hc⟩ := key
      obtain ⟨_, hlen, hcell⟩ := World.cells?_some hc
      have g := hcell 0 hz
      obtain ⟨c0, hc0⟩ : ∃ c0, cs[0]? = some c0 := ⟨cs[0], List.getElem?_eq_getElem (by omega)⟩
      rw [hc0, Nat.zero_mul] at g
      have g : W.cell? a = some c0 := g
      obtain ⟨e1, e2, _⟩ := view_cell g
      exact ⟨e1, e2⟩
    obtain ⟨g1, a', g2, g3⟩ := clean_slice (W := W) hlc hpos
    refine ⟨g1, len, ?_⟩
    by_cases h0 : len = 0
    · subst h0
      exact ⟨[], _, _, g2, fun _ => rfl, nilT, fun h => absurd h (Nat.lt_irrefl 0)⟩
    have ha := g3 (by omega)
    subst ha
    have each : ∀ i, i < len → ∃ k es, view W a'.block = some k ∧ Typed ks es ∧ ∀ j, j < ks.length → k[a'.off + i * ks.length + j]? = es[j]? := by
      intro i hi
      have h2 := hel i hi
      rw [List.getElem?_eq_getElem (by omega), Option.bind_eq_some_iff] at h2
      obtain ⟨es, hc, ht⟩ := h2
      have ty := R _ _ _ ht
      obtain ⟨_, hlen, hcell⟩ := World.cells?_some hc
      have vc : ∀ j, j < ks.length → ∃ k, view W a'.block = some k ∧ k[a'.off + i * ks.length + j]? = es[j]? := by
        intro j hj
        obtain ⟨u, h3, h4⟩ := ty.2 j _ (List.getElem?_eq_getElem hj)
        have g := hcell j hj
        rw [h3] at g
        obtain ⟨_, _, k, hk, hc2⟩ := view_cell g
        rw [add_block, add_block] at hk
        rw [add_off, add_off, h4.clean] at hc2
        exact ⟨k, hk, by rw [hc2, h3]⟩
      obtain ⟨k, hk, _⟩ := vc 0 hz
      refine ⟨k, es, hk, ty, fun j hj => ?_⟩
      obtain ⟨k', hk', e⟩ := vc j hj
      rw [hk] at hk'
      cases hk'
      exact e
    obtain ⟨k, _, hk, _⟩ := each 0 (by omega)
    have each : ∀ i, i < len → ∃ es, Typed ks es ∧ ∀ j, j < ks.length → k[a'.off + i * ks.length + j]? = es[j]? := fun i hi => by
      obtain ⟨k', es, hk', h1, h2⟩ := each i hi
      rw [hk] at hk'
      cases hk'
      exact ⟨es, h1, h2⟩
    have hlen : a'.off + len * ks.length ≤ k.length := by
      obtain ⟨es, ty, e⟩ := each (len - 1) (by omega)
      have := e (ks.length - 1) (by omega)
      obtain ⟨u, hu, _⟩ := ty.2 (ks.length - 1) _ (List.getElem?_eq_getElem (by omega))
      rw [hu] at this
      have := (List.getElem?_eq_some_iff.1 this).1
      have h9 : len * ks.length = (len - 1) * ks.length + ks.length := by
        conv => lhs; rw [show len = (len - 1) + 1 by omega, Nat.add_mul, Nat.one_mul]
      omega
    refine ⟨(k.drop a'.off).take (len * ks.length), _, _, g2, fun h => (by cases h), ⟨by rw [List.length_take, List.length_drop]; omega, fun i hi => ?_⟩, fun _ => ⟨a'.block, a'.off, a'.spot, k, rfl, by rw [view_get]; exact hk, hlen, rfl⟩⟩
    obtain ⟨es, ty, e⟩ := each i hi
    have hm := mul_le (z := ks.length) hi
    have : (((k.drop a'.off).take (len * ks.length)).drop (i * ks.length)).take ks.length = es := by
      refine List.ext_getElem? fun j => ?_
      rw [List.getElem?_take]
      by_cases hj : j < ks.length
      · rw [if_pos hj, List.getElem?_drop, List.getElem?_take, if_pos (by omega), List.getElem?_drop, ← e j hj, Nat.add_assoc]
      · rw [if_neg hj, List.getElem?_eq_none (by rw [ty.1]; omega)]
    rw [this]
    exact ty
end
end Go.Proofs.YtdnahgfgoajmcaaDoor

namespace Go.Proofs.YtdnahgfgoajmcaaDoor
open Go Go.Abs
theorem wf_u64 {n : Int} (h : (Lit.int .u64 n).wf = true) : ∃ m : Nat, n = m ∧ m < 18446744073709551616 := by
  simp [Lit.wf, IntKind.min, IntKind.max, IntKind.signed, IntKind.bits] at h
  exact ⟨n.toNat, by omega, by omega⟩
theorem dig_of {xs : List Value} (h : Typed digK xs) : ∃ l, xs = u8s l ∧ D32 l := by
  have hl : xs.length = 32 := h.1
  have key : ∀ n, n ≤ 32 → ∃ l : List Nat, xs.take n = u8s l ∧ l.length = n ∧ Bys l := by
    intro n
    induction n with
    | zero => exact fun _ => ⟨[], rfl, rfl, fun x hx => by cases hx⟩
    | succ n ih =>
      intro hn
      obtain ⟨l, h1, h2, h3⟩ := ih (by omega)
      obtain ⟨m, h4, h5⟩ := dig_get h (i := n) (by omega)
      refine ⟨l ++ [m], ?_, by simp [h2], fun x hx => ?_⟩
      · rw [List.take_add_one, h1, h4]
        simp [u8s]
      · rcases List.mem_append.1 hx with hx | hx
        · exact h3 x hx
        · simp only [List.mem_cons, List.not_mem_nil, or_false] at hx
          subst hx; exact h5
  obtain ⟨l, h1, h2, h3⟩ := key 32 (Nat.le_refl _)
  rw [List.take_of_length_le (by omega)] at h1
  exact ⟨l, h1, h2, h3⟩
theorem rec_of {xs : List Value} (h : Typed recK xs) : ∃ r, xs = recC r ∧ r.Wf := by
  obtain ⟨a, o, b, c, d, e, f, g, rfl, ho, ha, wb, wc, wd, wf, wg⟩ := rec_form h
  obtain ⟨l, rfl, hl⟩ := dig_of ho
  obtain ⟨c, rfl, hc⟩ := wf_u64 wc
  obtain ⟨d, rfl, hd⟩ := wf_u64 wd
  exact ⟨⟨a, l, b, c, d, e, f, g⟩, rfl, ha, hl, wf_i64.1 wb, hc, hd, wf_i64.1 wf, wf_i64.1 wg⟩
theorem list_of {ks : List Kd} {α : Type} {f : α → List Value} {P : α → Prop} (hf : ∀ xs, Typed ks xs → ∃ a, xs = f a ∧ P a) : ∀ (n : Nat) (cs : List Value), TypedN ks n cs → ∃ l : List α, l.length = n ∧ cs = l.flatMap f ∧ ∀ a ∈ l, P a
  | 0, cs, h => ⟨[], rfl, by
      have : cs.length = 0 := by rw [h.1, Nat.zero_mul]
      exact List.length_eq_zero_iff.1 this, fun a ha => by cases ha⟩
  | n + 1, cs, h => by
    have hl : cs.length = (n + 1) * ks.length := h.1
    have h0 := h.2 0 (by omega)
    rw [Nat.zero_mul, List.drop_zero] at h0
    obtain ⟨a, ha, pa⟩ := hf _ h0
    have hl2 : (cs.drop ks.length).length = n * ks.length := by rw [List.length_drop, hl, Nat.add_mul]; omega
    obtain ⟨l, q1, q2, q3⟩ := list_of hf n (cs.drop ks.length) ⟨hl2, fun i hi => by
      have := h.2 (i + 1) (by omega)
      rw [List.drop_drop, show ks.length + i * ks.length = (i + 1) * ks.length by rw [Nat.add_mul]; omega]
      exact this⟩
    refine ⟨a :: l, by simp [q1], ?_, fun b hb => ?_⟩
    · rw [List.flatMap_cons, ← ha, ← q2, List.take_append_drop]
    · rcases List.mem_cons.1 hb with rfl | hb
      · exact pa
      · exact q3 b hb
theorem byte_of {xs : List Value} (h : Typed [.u8] xs) : ∃ b : Nat, xs = [u8 b] ∧ b < 256 := by
  have hl : xs.length = 1 := h.1
  match xs, hl with
  | [v], _ =>
    obtain ⟨_, h1, a, rfl, ha⟩ := h.2 0 .u8 rfl
    cases h1
    exact ⟨a, rfl, ha⟩
theorem flat_one (l : List Nat) : l.flatMap (fun b => [u8 b]) = u8s l := by
  induction l with
  | nil => rfl
  | cons x l ih => rw [List.flatMap_cons, ih]; rfl
theorem bytes_of_typed {n : Nat} {cs : List Value} (h : TypedN [.u8] n cs) : ∃ l : List Nat, l.length = n ∧ cs = u8s l ∧ Bys l := by
  obtain ⟨l, h1, h2, h3⟩ := list_of (f := fun b => [u8 b]) (P := fun b => b < 256) (fun xs hx => byte_of hx) n cs h
  exact ⟨l, h1, by rw [h2, flat_one], h3⟩
end Go.Proofs.YtdnahgfgoajmcaaDoor

namespace Go.Proofs.YtdnahgfgoajmcaaDoor
open Go Go.Abs
attribute [local congr] thenV_congr
theorem SlN.bytes {h : Heap} {v : Value} {l : List Nat} (x : SlN h [.u8] v l.length (u8s l)) (hb : Bys l) : ∃ a c, v = .slice a l.length c ∧ sliceBytes a l.length h = some l ∧ (∀ y, a = some y → 0 < l.length → slB v = some y.block) := by
  obtain ⟨a, c, rfl, h1, h2, h3⟩ := x
  refine ⟨a, c, rfl, ?_, fun y hy hn => ?_⟩
  · by_cases h0 : l.length = 0
    · have : l = [] := List.length_eq_zero_iff.1 h0
      subst this
      cases a with
      | none => rfl
      | some y => unfold sliceBytes firstA; simp; rfl
    · obtain ⟨b, off, s, k, rfl, g, h4, h5⟩ := h3 (by omega)
      have h5 : (k.drop off).take (l.length * 1) = u8s l := h5
      have h4 : off + l.length * 1 ≤ k.length := h4
      rw [Nat.mul_one] at h4 h5
      have e : k = k.take off ++ (u8s l ++ k.drop (off + l.length)) := by rw [← h5, ← List.drop_drop, List.take_append_drop, List.take_append_drop]
      exact sliceBytes_mid g e (by rw [List.length_take]; omega) hb
  · subst hy
    obtain ⟨m, hm⟩ : ∃ m, l.length = m + 1 := ⟨l.length - 1, by omega⟩
    rw [hm]
    rfl
end Go.Proofs.YtdnahgfgoajmcaaDoor

namespace Go.Proofs.YtdnahgfgoajmcaaDoor
open Go Go.Abs
open Go.ChangeShapes Go.WideShapes Go.ChangeAt Go.RowKit
theorem SlN.typed {h : Heap} {ks : List Kd} {v : Value} {n : Nat} {cs : List Value} (x : SlN h ks v n cs) : TypedN ks n cs := by
  obtain ⟨a, c, rfl, _, h2, _⟩ := x
  exact h2
section
variable {H : Type} {enc : TypeId × Value → H} {W : World} {base : Nat} {held : Bool}
theorem rd5 : Reads enc W base held 5 [.u8] := reads_u8 Tryd.underlying5
theorem rd35 : Reads enc W base held 35 digK := reads_arr Tryd.underlying35 (by kernel_rfl) (by kernel_rfl) rd5
theorem rd58 : Reads enc W base held 58 recK := fun fuel cs x h => by
  have p0 : Pc [.u8] 0 cs := piece Tryd.underlying58 h (i := 0) rfl (by kernel_rfl) (reads_u8 Tryd.underlying56)
  have p1 : Pc digK 1 cs := piece Tryd.underlying58 h (i := 1) rfl (by kernel_rfl) rd35
  have p2 : Pc [.i .i64] 33 cs := piece Tryd.underlying58 h (i := 2) rfl (by kernel_rfl) (reads_i Tryd.underlying3)
  have p3 : Pc [.i .u64] 34 cs := piece Tryd.underlying58 h (i := 3) rfl (by kernel_rfl) (reads_i Tryd.underlying32)
  have p4 : Pc [.i .u64] 35 cs := piece Tryd.underlying58 h (i := 4) rfl (by kernel_rfl) (reads_i Tryd.underlying32)
  have p5 : Pc [.b] 36 cs := piece Tryd.underlying58 h (i := 5) rfl (by kernel_rfl) (reads_b Tryd.underlying4)
  have p6 : Pc [.i .i64] 37 cs := piece Tryd.underlying58 h (i := 6) rfl (by kernel_rfl) (reads_i Tryd.underlying3)
  have p7 : Pc [.i .i64] 38 cs := piece Tryd.underlying58 h (i := 7) rfl (by kernel_rfl) (reads_i Tryd.underlying3)
  obtain ⟨_, _, _, _, hl, _⟩ := DataW.trod_struct Tryd.underlying58 h
  exact (((((((p0.app p1).app p2).app p3).app p4).app p5).app p6).app p7).whole (hl.trans (by kernel_rfl))
theorem sl23 {fuel : Nat} {v : Value} {x : DataW H × List MemPlace} (h : DataW.trod enc Tryd.prog W base (fun _ => true) held fuel 23 [v] = some x) : isHole (clean W.heap.size v) = false ∧ ∃ n cs, SlN (topHeap W (view W)) [.u8] (clean W.heap.size v) n cs := sl_of Tryd.underlying23 (ks := [.u8]) (by kernel_rfl) (by decide) rd5 h
end
def litOf {H : Type} : Value → DataW H
  | .int k n => .lit (.int k n)
  | _ => .agg []
theorem litOf_inj {H : Type} {v : Value} {k : IntKind} {n : Int} (h : (litOf v : DataW H) = .lit (.int k n)) : v = .int k n := by
  cases v with
  | int k' n' =>
    have h : (DataW.lit (Lit.int k' n') : DataW H) = .lit (.int k n) := h
    have q := Lit.int.inj (DataW.lit.inj h)
    rw [q.1, q.2]
  | _ => cases h
theorem len_rounds : roundsL.length = 64 := by kernel_rfl
theorem rounds_ints : (roundsL.all fun v => match v with | .int _ _ => true | _ => false) = true := by kernel_rfl
theorem nice_rounds (n : Nat) : ∀ v ∈ roundsL, clean n v = v := by
  intro v hv
  have h := rounds_ints
  rw [List.all_eq_true] at h
  have h := h v hv
  cases v with
  | int k m => exact clean_nice rfl
  | _ => cases h
theorem rounds_clean (n : Nat) : roundsL.map (clean n) = roundsL := by
  rw [List.map_congr_left (nice_rounds n), List.map_id']
/-- What a table of 64 words that reads as the digest's words holds. -/
theorem rounds_cells {W : World} {fuel : Nat} {cs : List Value} {p : List MemPlace} {d : DataW Unit} (hd : d = .agg (roundsL.map litOf)) (h : DataW.trod (fun _ => ()) Tryd.prog W 0 (fun _ => true) false fuel 175 cs = some (d, p)) : cs = roundsL := by
  subst hd
  obtain ⟨xs, m, rfl, hx, hl, hxl, hf⟩ := DataW.trod_array Tryd.underlying175 h
  have h175 : Tryd.prog.cellsOf 175 = 64 := by kernel_rfl
  have h174 : Tryd.prog.cellsOf 174 = 1 := by kernel_rfl
  rw [h175] at hl
  have hx := congrArg Prod.fst hx
  have hx : (DataW.agg (roundsL.map litOf) : DataW Unit) = .agg (xs.map (·.1)) := hx
  have hx := DataW.agg.inj hx
  refine List.ext_getElem? fun j => ?_
  by_cases hj : j < 64
  · have e := hf j hj
    rw [List.getElem?_eq_getElem (by omega), h174, Nat.mul_one] at e
    obtain ⟨n, e1, e2, _⟩ := DataW.trod_int Tryd.underlying174 e
    have q : (roundsL.map (litOf (H := Unit)))[j]? = (xs.map (·.1))[j]? := by rw [hx]
    rw [List.getElem?_map, List.getElem?_map, List.getElem?_eq_getElem (by rw [len_rounds]; exact hj), List.getElem?_eq_getElem (by omega), e2] at q
    have q := litOf_inj (Option.some.inj q)
    have e3 : ((cs.drop j).take 1)[0]? = some (.int .u32 n) := by rw [e1]; rfl
    rw [List.getElem?_take, if_pos (by decide), List.getElem?_drop, Nat.add_zero] at e3
    rw [e3, List.getElem?_eq_getElem (by rw [len_rounds]; exact hj), q]
  · rw [List.getElem?_eq_none (by omega), List.getElem?_eq_none (by rw [len_rounds]; omega)]
end Go.Proofs.YtdnahgfgoajmcaaDoor

namespace Go.Proofs.YtdnahgfgoajmcaaDoor
open Go Go.Abs
theorem eq35 : EqT 35 digK := by
  intro xs ys hx hy
  obtain ⟨r, h1, h2⟩ := dig_run (d := 9998) hx hy
  exact ⟨r, h1, bin_agg (by kernel_rfl) (ground_agg hx.all.2.2) (ground_agg hy.all.2.2) h2⟩
end Go.Proofs.YtdnahgfgoajmcaaDoor

namespace Go.Proofs.YtdnahgfgoajmcaaDoor
open Go Go.Abs
theorem add3 {a b : Nat} (h : a + b ≤ 9223372036854775807) : bin Tryd.prog .add 3 (i64n a) (.int .i64 (b : Int)) = some (i64n (a + b)) := by
  unfold i64n; rw [bin_add, wrap_i64 (by omega) (by omega), Int.natCast_add]
theorem add31 {a : Nat} (h : a + 1 ≤ 9223372036854775807) : bin Tryd.prog .add 3 (i64n a) (.int .i64 1) = some (i64n (a + 1)) := add3 h
theorem lss3 (a b : Nat) : bin Tryd.prog .lss 3 (i64n a) (i64n b) = some (.bool (decide (a < b))) := by
  rw [bin_lss]
  congr 2
  by_cases e : a < b
  · rw [decide_eq_true e, decide_eq_true (by omega)]
  · rw [decide_eq_false e, decide_eq_false (by omega)]
end Go.Proofs.YtdnahgfgoajmcaaDoor

namespace Go.Proofs.YtdnahgfgoajmcaaDoor
open Go Go.Abs
section
theorem OwnC.empty (h : Heap) {N size b : Nat} (hb : N ≤ b) : OwnC h N size (.slice (some ⟨b, 0, none⟩) 0 0) 0 [] := ⟨by simp, rfl, rfl, .inr ⟨b, none, rfl, hb, .inl ⟨rfl, rfl⟩⟩⟩
theorem OwnC.base {h : Heap} {N size : Nat} {v : Value} {len : Nat} {cells : List Value} (o : OwnC h N size v len cells) {b : Nat} (hb : baseOf v = some b) : N ≤ b := by
  obtain ⟨_, _, _, ⟨rfl, _⟩ | ⟨b', s, rfl, h5, _⟩⟩ := o
  · cases hb
  · cases hb; exact h5
end
section
theorem byte_at {h : Heap} {a : Option Addr} {n c i : Nat} {l : List Nat} (e : sliceBytes a n h = some l) (hi : i < n) : ∃ b p, a.map (·.block) = some b ∧ idxS 1 (.slice a n c) (i64n i) = some (ptr b p) ∧ ld1 (ptr b p) h = some (u8 (l.getD i 0), h) := by
  obtain ⟨h1, h2, h3⟩ := sliceBytes_spec e
  obtain ⟨b, off, s, k, rfl, hk, hlen, hc⟩ := h3 (by omega)
  refine ⟨b, off + i, rfl, ?_, ld1_at hk (hc i hi) rfl⟩
  unfold idxS
  simp only []
  rw [if_pos (by omega), Int.toNat_natCast, Nat.mul_one]
end
section
theorem is98 : IsFn Tryd.prog 98 Tryd.f98 := ⟨by kernel_rfl, by kernel_rfl, by kernel_rfl, by kernel_rfl⟩
theorem take_snocN {l : List Nat} {i : Nat} (h : i < l.length) : l.take (i + 1) = l.take i ++ [l.getD i 0] := by
  rw [List.take_add_one, List.getElem?_eq_getElem h, List.getD_eq_getElem?_getD, List.getElem?_eq_getElem h]; rfl
/-- Value. -/
theorem r98 {h : Heap} (hG : 4 ≤ h.n0) {a : Option Addr} {n c : Nat} {l : List Nat} (e : sliceBytes a n h = some l) (hn : n ≤ 8) : CW 98 [.slice a n c] h = some (.int .u64 ((be l : Nat) : Int), h) := by
  obtain ⟨hl, hb, _⟩ := sliceBytes_spec e
  have hll : lenL (.slice a n c) = some (i64n n) := rfl
  refine CW_body is98 hG rfl ((t98_eq _ _ _).trans ?_)
  unfold t98
  simp -implicitDefEqProofs only [thenV_some]
  refine endL_fin (n := 20) (fin := fun ex y g => ex = .exit 0 ∧ g = h ∧ y 3 = .int .u64 ((be l : Nat) : Int)) (Q := fun o : Out => o = some (Value.int .u64 ((be l : Nat) : Int), h))
    (loop_fin (t98l98_11010_eq CW) (Inv := fun k y g => ∃ i, i + k = n ∧ y 0 = .slice a n c ∧ y 4 = i64n i ∧ g = h ∧ y 3 = .int .u64 ((be (l.take i) : Nat) : Int)) ?_ n (by have : rounds = 18446744073709551616 := rfl; omega) ⟨0, Nat.zero_add _, rfl, rfl, rfl, rfl⟩) ?_
  · rintro k y g ⟨i, hik, y0, y4, rfl, y3⟩
    unfold t98l98_11010
    simp -implicitDefEqProofs only [y4, y0, thenV_some, hll, pu_some, lss3]
    by_cases hi : i < n
    · obtain ⟨b, p, _, i1, i2⟩ := byte_at (c := c) e hi
      have hv : l.getD i 0 < 256 := by
        rw [List.getD_eq_getElem?_getD, List.getElem?_eq_getElem (by omega)]
        exact hb _ (List.getElem_mem _)
      have hbe := be_lt i (l.take i) (by simp; omega) (fun x hx => hb x (List.mem_of_mem_take hx))
      have hbe2 : be (l.take i) < 72057594037927936 := Nat.lt_of_lt_of_le hbe (Nat.le_trans (Nat.pow_le_pow_right (by decide) (show i ≤ 7 by omega)) (by decide))
      obtain ⟨b1, b2⟩ := shl_or hbe2 hv
      have hw : IntKind.wrap .u64 ((l.getD i 0 : Nat) : Int) = ((l.getD i 0 : Nat) : Int) := wrap_u64 (by omega) (by omega)
      simp -implicitDefEqProofs only [decide_eq_true hi, thenV_some, y3, b1, pu_some, i1, i2, u8, cvI_int, hw, b2, add31 (show i + 1 ≤ 9223372036854775807 by omega)]
      refine Rnd.next (k - 1) (by omega) ⟨i + 1, by omega, y0, rfl, rfl, ?_⟩
      rw [take_snocN (by omega), be_snoc]; rfl
    · have : i = n := by omega
      subst this
      simp -implicitDefEqProofs only [decide_eq_false hi]
      exact Rnd.out 0 ⟨rfl, rfl, by rw [List.take_of_length_le (by omega)] at y3; exact y3⟩
  · rintro ex z g ⟨rfl, rfl, z3⟩
    simp -implicitDefEqProofs only [endL_exit, b98_4, if_true, t98k98_2_eq]
    unfold t98k98_2
    rw [z3]
    rfl
end
section
theorem is96 : IsFn Tryd.prog 96 Tryd.f96 := ⟨by kernel_rfl, by kernel_rfl, by kernel_rfl, by kernel_rfl⟩
theorem b96_exit (C : CallF) (e : Env) (h : Heap) : b96_4 C 0 e h = k96_2 C e h := rfl
/-- A byte is appended. -/
theorem app_lit {g : Heap} {N x : Nat} {v : Value} {l : List Nat} (o : OwnB g N v l) (h0 : g.n0 ≤ N) (hN : N ≤ g.next) (hx : x < 256) (hl : l.length ≤ 1000000) :
    ∃ v' g', appendA 1 1 v (.slice (some ⟨g.next, 0, none⟩) 1 1) (g.alloc [u8 x]) = some (v', g') ∧ OwnB g' N v' (l ++ [x]) ∧ Kept g g' (fun c => baseOf v = some c) := by
  have ka : Old g (g.alloc [u8 x]) := Kept.alloc _ _ _
  obtain ⟨v', g', e1, e2, e3, _⟩ := append_ownB (c := 1) (o.keep ka (fun _ _ h => h)) (by rw [ka.n0]; exact h0) (Nat.le_trans hN ka.next) (bytes1 g hx) (by omega)
  exact ⟨v', g', e1, e2, (ka.mono (fun _ _ h => h.elim)).also e3 (fun _ _ h => h)⟩
/-- Number. -/
theorem r96 (h : Heap) (hG : 4 ≤ h.n0) {n k : Nat} (h1 : 1 ≤ k) (hk : k ≤ 8) (_hn : n < 18446744073709551616) : ∃ v h', CW 96 [.int .u64 (n : Int), i64n k] h = some (v, h') ∧ OwnB h' h.next v (beB k n) ∧ Old h h' := by
  have oA : Old h (h.alloc []) := Kept.alloc _ _ _
  have nA : (h.alloc []).next = h.next + 1 := Heap.next_alloc ..
  have own0 : OwnB (h.alloc []) h.next (.slice (some ⟨h.next, 0, none⟩) 0 0) [] := ⟨OwnC.empty _ (Nat.le_refl _), by simp⟩
  have hn0 := h.n0_le_next
  have hsub : bin Tryd.prog .sub 3 (i64n k) (.int .i64 1) = some (.int .i64 ((k : Int) - 1)) := by
    unfold i64n
    rw [bin_sub, wrap_i64 (by omega) (by omega)]
  have key : ∀ o, t96 CW (.int .u64 (n : Int)) (i64n k) h = o → ∃ v h', o = some (v, h') ∧ OwnB h' h.next v (beB k n) ∧ Old h h' := by
    intro o ho
    subst ho
    unfold t96
    simp -implicitDefEqProofs only [thenV_some, bsl_bytes, hsub, pu_some]
    refine endL_fin (n := 24) (fin := fun ex y g => ex = .exit 0 ∧ OwnB g h.next (y 5) (beB k n) ∧ Old h g) (Q := fun o : Out => ∃ v h', o = some (v, h') ∧ OwnB h' h.next v (beB k n) ∧ Old h h')
      (loop_fin (t96l96_11010_eq CW) (Inv := fun m y g => m ≤ k ∧ y 0 = .int .u64 (n : Int) ∧ y 6 = .int .i64 ((m : Int) - 1) ∧ Old h g ∧ ∃ cur, OwnB g h.next (y 5) cur ∧ cur ++ beB m n = beB k n) ?_ k (by have : rounds = 18446744073709551616 := rfl; omega)
        ⟨Nat.le_refl _, rfl, rfl, oA, [], own0, rfl⟩) ?_
    · rintro m y g ⟨hm, y0, y6, old, cur, own, hcur⟩
      have hclen : cur.length + m = k := by
        have := congrArg List.length hcur
        simpa [beB_length] using this
      unfold t96l96_11010
      simp -implicitDefEqProofs only [y6, thenV_some, bin_geq, pu_some]
      by_cases hz : m = 0
      · subst hz
        have hd : decide ((((0 : Nat) : Int) - 1) ≥ 0) = false := by decide
        simp -implicitDefEqProofs only [hd]
        have : cur = beB k n := by simpa [beB] using hcur
        exact Rnd.out 0 ⟨rfl, this ▸ own, old⟩
      · obtain ⟨q, rfl⟩ : ∃ q, m = q + 1 := ⟨m - 1, by omega⟩
        have hd : decide ((((q + 1 : Nat) : Int) - 1) ≥ 0) = true := decide_eq_true (by omega)
        have hcu : IntKind.wrap .u64 (((q + 1 : Nat) : Int) - 1) = ((q : Nat) : Int) := by
          rw [wrap_u64 (by omega) (by omega)]; omega
        have hm8 : bin Tryd.prog .mul 111 (.int .u64 8) (.int .u64 ((q : Nat) : Int)) = some (.int .u64 ((8 * q : Nat) : Int)) := by
          rw [bin_mul, wrap_u64 (by omega) (by omega)]
          exact congrArg (fun z => some (Value.int .u64 z)) (by omega)
        have hsh : bin Tryd.prog .shr 32 (.int .u64 (n : Int)) (.int .u64 ((8 * q : Nat) : Int)) = some (.int .u64 ((n / 256 ^ q : Nat) : Int)) := by
          rw [bin_shr_nat Tryd.prog 32 (k := .u64) (k' := .u64) (b := 8 * q) (by show 8 * q ≤ 64; omega)]
          rw [show (2 : Nat) ^ (8 * q) = 256 ^ q by rw [Nat.pow_mul]]
        have hcv : IntKind.wrap .u8 ((n / 256 ^ q : Nat) : Int) = ((n / 256 ^ q % 256 : Nat) : Int) := by
          rw [wrap_u8_mod]; omega
        have hlt8 : n / 256 ^ q % 256 < 256 := Nat.mod_lt _ (by decide)
        generalize hx : n / 256 ^ q % 256 = x at *
        obtain ⟨v', g', e1, e2, e3⟩ := app_lit own (by rw [old.n0]; exact hn0) old.next hlt8 (by omega)
        have hsub2 : bin Tryd.prog .sub 3 (.int .i64 (((q + 1 : Nat) : Int) - 1)) (.int .i64 1) = some (.int .i64 ((q : Int) - 1)) := by
          rw [bin_sub, wrap_i64 (by omega) (by omega)]
          exact congrArg (fun z => some (Value.int .i64 z)) (by omega)
        simp -implicitDefEqProofs only [hd, y0, thenV_some, pu_some, cvI_int, hcu, hm8, hsh, hcv]
        rw [show (Value.int .u8 (x : Int)) = u8 x from rfl, bsl1]
        simp -implicitDefEqProofs only [thenV_some, e1, hsub2, pu_some]
        refine Rnd.next q (by omega) ⟨by omega, y0, rfl, old.also e3 (fun c hc hb => by have := own.own.base hb; omega), cur ++ [x], e2, ?_⟩
        rw [← hcur, beB, hx, List.append_assoc]; rfl
    · rintro ex z g ⟨rfl, own, old⟩
      simp -implicitDefEqProofs only [endL_exit, b96_exit, t96k96_2_eq]
      unfold t96k96_2
      exact ⟨_, g, rfl, own, old⟩
  obtain ⟨v, h', e, o⟩ := key _ rfl
  exact ⟨v, h', CW_body is96 hG rfl ((t96_eq _ _ _ _).trans e), o⟩
end
end Go.Proofs.YtdnahgfgoajmcaaDoor

namespace Go.Proofs.YtdnahgfgoajmcaaDoor
open Go Go.Abs
attribute [local congr] thenV_congr
theorem slR_mid {a : Option Addr} {n c lo hi : Nat} {h : Heap} {l : List Nat} (g : goodS a n c = true) (e : sliceBytes a n h = some l) (h1 : lo ≤ hi) (h2 : hi ≤ n) :
    ∃ a' c', slR 1 (.slice a n c) (some (i64n lo)) (some (i64n hi)) none = some (.slice a' (hi - lo) c') ∧ sliceBytes a' (hi - lo) h = some ((l.drop lo).take (hi - lo)) ∧ goodS a' (hi - lo) c' = true := by
  obtain ⟨a', c', e1, e2, e3, _⟩ := slR_bytes (vl := some (i64n lo)) (vh := some (i64n hi)) (lo := lo) (hi := hi) g e h1 h2 (by simp only [boundA]; rw [if_pos (by have := goodS_le g; omega)]; rfl) (by simp only [boundA]; rw [if_pos (by omega)]; rfl)
  exact ⟨a', c', e1, e2, e3⟩
end Go.Proofs.YtdnahgfgoajmcaaDoor

namespace Go.Proofs.YtdnahgfgoajmcaaDoor
open Go Go.Abs
attribute [local congr] thenV_congr
theorem byte_rd {a : Option Addr} {n c i : Nat} {h : Heap} {l : List Nat} (e : sliceBytes a n h = some l) (hi : i < n) : ∃ pt, idxS 1 (.slice a n c) (i64n i) = some pt ∧ ∀ h', Old h h' → ld1 pt h' = some (.int .u8 ((l.getD i 0 : Nat) : Int), h') := by
  obtain ⟨b, off, s, k, rfl, hk, _, hc⟩ := (sliceBytes_spec e).2.2 (by omega)
  refine ⟨ptr b (off + i), ?_, fun h' o => ld1_at (Old.get o hk) (hc i hi) rfl⟩
  unfold idxS
  simp only []
  rw [if_pos (by omega), Int.toNat_natCast, Nat.mul_one]
end Go.Proofs.YtdnahgfgoajmcaaDoor

namespace Go.Proofs.YtdnahgfgoajmcaaDoor
open Go Go.Abs
theorem drop_one {l : List Nat} {i : Nat} (h : i < l.length) : (l.drop i).take 1 = [l.getD i 0] := by
  rw [List.getD_eq_getElem?_getD, List.getElem?_eq_getElem h, List.drop_eq_getElem_cons h]
  rfl
end Go.Proofs.YtdnahgfgoajmcaaDoor

namespace Go.Proofs.YtdnahgfgoajmcaaDoor
open Go Go.Abs
attribute [local congr] thenV_congr
/-- The first bytes, and zeros. -/
def upTo (l : List Nat) (n i : Nat) : List Nat := l.take i ++ List.replicate (n - i) 0
theorem upTo_set {l : List Nat} {n i : Nat} (hl : l.length = n) (hi : i < n) : (upTo l n i).set i (l.getD i 0) = upTo l n (i + 1) := by
  unfold upTo
  obtain ⟨k, hk⟩ : ∃ k, n - i = k + 1 := ⟨n - i - 1, by omega⟩
  rw [hk, show n - (i + 1) = k by omega, List.replicate_succ, List.set_append_right _ _ (by rw [List.length_take]; omega), List.length_take, Nat.min_eq_left (by omega), Nat.sub_self, List.set_cons_zero]
  have ht : l.take (i + 1) = l.take i ++ [l.getD i 0] := take_snocN (by omega)
  rw [ht, List.append_assoc]
  rfl
theorem upTo_len {l : List Nat} {n i : Nat} (hl : l.length = n) (hi : i ≤ n) : (upTo l n i).length = n := by
  unfold upTo
  rw [List.length_append, List.length_take, List.length_replicate]
  omega
theorem upTo_all {l : List Nat} {n : Nat} (hl : l.length = n) : upTo l n n = l := by
  unfold upTo
  rw [Nat.sub_self, List.take_of_length_le (by omega)]
  exact List.append_nil l
theorem be_one (x : Nat) : be [x] = x := by unfold be; simp
end Go.Proofs.YtdnahgfgoajmcaaDoor

namespace Go.Proofs.YtdnahgfgoajmcaaDoor
open Go Go.Abs
attribute [local congr] thenV_congr
/-- The reference's zero digest, a package variable. -/
def GZ (h : Heap) : Prop := h.get 0 = some (u8s z32)
theorem GZ.old {h h' : Heap} (x : GZ h) (o : Old h h') : GZ h' := Old.get o x
theorem GZ.ld {h : Heap} (x : GZ h) : ldN 32 (ptr 0 0) h = some (.agg (u8s z32).toArray, h) := ldN_all x rfl (u8s_ok _).1
def personB (r : RecD) : Bool := decide (r.holder ≥ 0) && decide (r.holder ≤ 15) && decide ((r.inc : Int) ≥ 1)
def bareB (r : RecD) : Bool := ((r.num : Int) == 0) && (!r.held) && (r.k == 0) && (r.n == 0)
theorem person_seg {h : Heap} {b : Nat} {r : RecD} (A : RLd h b r) (K : Value → Heap → Out) :
  (
  thenV (pu (addP (ptr b 0) 33) h) fun y5 h =>
  thenV (ld1 y5 h) fun y6 h =>
  thenV (pu (bin Tryd.prog .geq 3 y6 (.int .i64 0)) h) fun y7 h =>
  thenV (some (y7, h)) fun y8 h =>
  thenV (guardK (bOf y8 == some true) (pu (addP (ptr b 0) 33) h) h) fun y9 h =>
  thenV (guardK (bOf y8 == some true) (ld1 y9 h) h) fun y10 h =>
  thenV (guardK (bOf y8 == some true) (pu (bin Tryd.prog .leq 3 y10 (.int .i64 15)) h) h) fun y11 h =>
  thenV (match y8 with | .bool t => some (if t then y11 else (.bool false), h) | _ => none) fun y12 h =>
  thenV (some (y12, h)) fun y13 h =>
  thenV (guardK (bOf y13 == some true) (pu (addP (ptr b 0) 34) h) h) fun y14 h =>
  thenV (guardK (bOf y13 == some true) (ld1 y14 h) h) fun y15 h =>
  thenV (guardK (bOf y13 == some true) (pu (bin Tryd.prog .geq 32 y15 (.int .u64 1)) h) h) fun y16 h =>
  thenV (match y13 with | .bool t => some (if t then y16 else (.bool false), h) | _ => none) fun y17 h =>
  thenV (some (y17, h)) fun y3 h =>
  K y3 h) = K (.bool (personB r)) h := by
  unfold personB
  cases q0 : decide (r.holder ≥ 0) with
  | false => simp -implicitDefEqProofs only [A.l33, thenV_some, pu_some, bOf_bool, fs, guardK_false, Bool.false_eq_true, if_false, addP_ptr, Nat.zero_add, bin_geq, q0, Bool.false_and]
  | true =>
  cases q1 : decide (r.holder ≤ 15) with
  | false => simp -implicitDefEqProofs only [A.l33, thenV_some, pu_some, bOf_bool, fs, beq_self_eq_true, guardK_true, guardK_false, Bool.false_eq_true, if_false, if_true, addP_ptr, Nat.zero_add, bin_geq, bin_leq, q0, q1, Bool.and_false, Bool.false_and]
  | true =>
  cases q2 : decide ((r.inc : Int) ≥ 1) with
  | false => simp -implicitDefEqProofs only [A.l33, A.l34, thenV_some, pu_some, bOf_bool, beq_self_eq_true, guardK_true, if_true, addP_ptr, Nat.zero_add, bin_geq, bin_leq, q0, q1, q2, Bool.and_true, Bool.and_false]
  | true =>
  simp -implicitDefEqProofs only [A.l33, A.l34, thenV_some, pu_some, bOf_bool, beq_self_eq_true, guardK_true, if_true, addP_ptr, Nat.zero_add, bin_geq, bin_leq, q0, q1, q2, Bool.and_true]
theorem bare_seg {h : Heap} {b : Nat} {r : RecD} (A : RLd h b r) (K : Value → Heap → Out) :
  (
  thenV (pu (addP (ptr b 0) 35) h) fun y18 h =>
  thenV (ld1 y18 h) fun y19 h =>
  thenV (pu (bin Tryd.prog .eql 32 y19 (.int .u64 0)) h) fun y20 h =>
  thenV (some (y20, h)) fun y21 h =>
  thenV (guardK (bOf y21 == some true) (pu (addP (ptr b 0) 36) h) h) fun y22 h =>
  thenV (guardK (bOf y21 == some true) (ld1 y22 h) h) fun y23 h =>
  thenV (guardK (bOf y21 == some true) (pu (unA .not y23) h) h) fun y24 h =>
  thenV (match y21 with | .bool t => some (if t then y24 else (.bool false), h) | _ => none) fun y25 h =>
  thenV (some (y25, h)) fun y26 h =>
  thenV (guardK (bOf y26 == some true) (pu (addP (ptr b 0) 37) h) h) fun y27 h =>
  thenV (guardK (bOf y26 == some true) (ld1 y27 h) h) fun y28 h =>
  thenV (guardK (bOf y26 == some true) (pu (bin Tryd.prog .eql 3 y28 (.int .i64 0)) h) h) fun y29 h =>
  thenV (match y26 with | .bool t => some (if t then y29 else (.bool false), h) | _ => none) fun y30 h =>
  thenV (some (y30, h)) fun y31 h =>
  thenV (guardK (bOf y31 == some true) (pu (addP (ptr b 0) 38) h) h) fun y32 h =>
  thenV (guardK (bOf y31 == some true) (ld1 y32 h) h) fun y33 h =>
  thenV (guardK (bOf y31 == some true) (pu (bin Tryd.prog .eql 3 y33 (.int .i64 0)) h) h) fun y34 h =>
  thenV (match y31 with | .bool t => some (if t then y34 else (.bool false), h) | _ => none) fun y35 h =>
  thenV (some (y35, h)) fun y4 h =>
  K y4 h) = K (.bool (bareB r)) h := by
  unfold bareB
  cases q0 : ((r.num : Int) == 0) with
  | false => simp -implicitDefEqProofs only [A.l35, thenV_some, pu_some, bOf_bool, fs, guardK_false, Bool.false_eq_true, if_false, addP_ptr, Nat.zero_add, bin_eql, q0, Bool.false_and]
  | true =>
  cases q1 : (!r.held) with
  | false => simp -implicitDefEqProofs only [A.l35, A.l36, thenV_some, pu_some, bOf_bool, fs, beq_self_eq_true, guardK_true, guardK_false, Bool.false_eq_true, if_false, if_true, addP_ptr, Nat.zero_add, unA_not, bin_eql, q0, q1, Bool.and_false, Bool.false_and]
  | true =>
  cases q2 : (r.k == 0) with
  | false => simp -implicitDefEqProofs only [A.l35, A.l36, A.l37, thenV_some, pu_some, bOf_bool, fs, beq_self_eq_true, guardK_true, guardK_false, Bool.false_eq_true, if_false, if_true, addP_ptr, Nat.zero_add, unA_not, bin_eql, q0, q1, q2, Bool.and_true, Bool.and_false, Bool.false_and]
  | true =>
  cases q3 : (r.n == 0) with
  | false => simp -implicitDefEqProofs only [A.l35, A.l36, A.l37, A.l38, thenV_some, pu_some, bOf_bool, beq_self_eq_true, guardK_true, if_true, addP_ptr, Nat.zero_add, unA_not, bin_eql, q0, q1, q2, q3, Bool.and_true, Bool.and_false]
  | true =>
  simp -implicitDefEqProofs only [A.l35, A.l36, A.l37, A.l38, thenV_some, pu_some, bOf_bool, beq_self_eq_true, guardK_true, if_true, addP_ptr, Nat.zero_add, unA_not, bin_eql, q0, q1, q2, q3, Bool.and_true]
/-- What the reference asks of a record. -/
def recR (r : RecD) : Bool := if (r.kind : Int) == 1 then personB r && bareB r && decide (r.obj = z32) else if (r.kind : Int) == 2 then bareB r && (r.holder == 0) && ((r.inc : Int) == 0) else if (r.kind : Int) == 3 then personB r && decide ((r.num : Int) ≥ 1) && decide (1 ≤ r.k) && decide (r.k ≤ r.n) && decide (r.n ≤ 255) else false
theorem person_holder (r : RecD) : personB r = holderB r := by
  unfold personB holderB
  congr 2
  exact decide_eq_decide.2 (by omega)
theorem bare_spec (r : RecD) : bareB r = true ↔ r.num = 0 ∧ r.held = false ∧ r.k = 0 ∧ r.n = 0 := by
  unfold bareB
  simp only [Bool.and_eq_true, beq_iff_eq, Bool.not_eq_true']
  constructor
  · rintro ⟨⟨⟨h1, h2⟩, h3⟩, h4⟩
    exact ⟨by omega, h2, h3, h4⟩
  · rintro ⟨h1, h2, h3, h4⟩
    exact ⟨⟨⟨by omega, h2⟩, h3⟩, h4⟩
theorem recR_eq (r : RecD) : recR r = recB r := by
  unfold recR recB pieceB
  rw [person_holder]
  split
  · rw [Bool.eq_iff_iff]
    simp only [Bool.and_eq_true, decide_eq_true_eq, bare_spec]
    constructor
    · rintro ⟨⟨h1, h2, h3, h4, h5⟩, h6⟩
      refine ⟨?_, h1⟩
      unfold RecD.base RecD.z
      exact RecD.ext rfl h6 rfl rfl h2 h3 h4 h5
    · rintro ⟨h1, h2⟩
      refine ⟨⟨h2, ?_⟩, ?_⟩
      · rw [h1]; exact ⟨rfl, rfl, rfl, rfl⟩
      · rw [h1]; rfl
  split
  · rw [Bool.eq_iff_iff]
    simp only [Bool.and_eq_true, decide_eq_true_eq, bare_spec, beq_iff_eq]
    constructor
    · rintro ⟨⟨⟨h2, h3, h4, h5⟩, h6⟩, h7⟩
      unfold RecD.grave RecD.z
      exact RecD.ext rfl rfl h6 (by show r.inc = 0; omega) h2 h3 h4 h5
    · intro h1
      refine ⟨⟨?_, ?_⟩, ?_⟩
      · rw [h1]; exact ⟨rfl, rfl, rfl, rfl⟩
      · rw [h1]; rfl
      · rw [h1]; rfl
  · rfl
theorem is48 : IsFn Tryd.prog 48 Tryd.f48 := ⟨by kernel_rfl, by kernel_rfl, by kernel_rfl, by kernel_rfl⟩
set_option maxRecDepth 100000 in
/-- Valid, of a record -/
theorem r48 {h : Heap} (hG : 4 ≤ h.n0) (hz : GZ h) {r : RecD} (w : r.Wf) : ∃ h', CW 48 [.agg (recC r).toArray] h = some (.bool (recB r), h') ∧ Old h h' := by
  obtain ⟨h1, b1, o1, A⟩ := rec_box h w
  have z1 := (hz.old o1).ld
  obtain ⟨q, hq, e28, _⟩ := eq35 (u8s r.obj) (u8s z32) (dig_typed w.obj) (dig_typed z32_ok)
  have hq : q = decide (r.obj = z32) := by
    by_cases e : r.obj = z32
    · rw [decide_eq_true e, hq.2 (by rw [e])]
    · rw [decide_eq_false e]
      cases q with
      | false => rfl
      | true => exact absurd (u8s_inj (hq.1 rfl)) e
  rw [hq] at e28
  refine ⟨h1, CW_body is48 hG rfl ((t48_eq _ _ _).trans ?_), o1⟩
  rw [← recR_eq]
  unfold t48
  rw [b1, thenV_some, thenV_some]
  refine (person_seg A _).trans ?_
  refine (bare_seg A _).trans ?_
  unfold recR
  cases k1 : (r.kind : Int) == 1 with
  | true =>
    rw [if_pos rfl]
    cases q0 : personB r with
    | false => simp -implicitDefEqProofs only [A.l0, k1, thenV_some, pu_some, bOf_bool, fs, guardK_false, Bool.false_eq_true, if_false, addP_ptr, Nat.zero_add, bin_eql, Bool.false_and]
    | true =>
    cases q1 : bareB r with
    | false => simp -implicitDefEqProofs only [A.l0, k1, thenV_some, pu_some, bOf_bool, fs, beq_self_eq_true, guardK_true, guardK_false, Bool.false_eq_true, if_false, if_true, addP_ptr, Nat.zero_add, bin_eql, Bool.and_false, Bool.false_and]
    | true =>
    simp -implicitDefEqProofs only [A.l0, A.l1, k1, z1, e28, thenV_some, pu_some, bOf_bool, beq_self_eq_true, guardK_true, if_true, addP_ptr, Nat.zero_add, bin_eql, Bool.and_true, Bool.true_and]
  | false =>
  rw [if_neg (by decide)]
  cases k2 : (r.kind : Int) == 2 with
  | true =>
    rw [if_pos rfl]
    cases q0 : bareB r with
    | false => simp -implicitDefEqProofs only [A.l0, k1, k2, thenV_some, pu_some, bOf_bool, fs, guardK_false, Bool.false_eq_true, if_false, addP_ptr, Nat.zero_add, bin_eql, Bool.false_and]
    | true =>
    cases q1 : (r.holder == 0) with
    | false => simp -implicitDefEqProofs only [A.l0, A.l33, k1, k2, thenV_some, pu_some, bOf_bool, fs, beq_self_eq_true, guardK_true, guardK_false, Bool.false_eq_true, if_false, if_true, addP_ptr, Nat.zero_add, bin_eql, q1, Bool.and_false, Bool.false_and]
    | true =>
    simp -implicitDefEqProofs only [A.l0, A.l33, A.l34, k1, k2, thenV_some, pu_some, bOf_bool, beq_self_eq_true, guardK_true, if_true, addP_ptr, Nat.zero_add, bin_eql, q1, Bool.and_true, Bool.true_and]
  | false =>
  rw [if_neg (by decide)]
  cases k3 : (r.kind : Int) == 3 with
  | true =>
    rw [if_pos rfl]
    cases q0 : personB r with
    | false => simp -implicitDefEqProofs only [A.l0, k1, k2, k3, thenV_some, pu_some, bOf_bool, fs, guardK_false, Bool.false_eq_true, if_false, addP_ptr, Nat.zero_add, bin_eql, Bool.false_and]
    | true =>
    cases q1 : decide ((r.num : Int) ≥ 1) with
    | false => simp -implicitDefEqProofs only [A.l0, A.l35, k1, k2, k3, thenV_some, pu_some, bOf_bool, fs, beq_self_eq_true, guardK_true, guardK_false, Bool.false_eq_true, if_false, if_true, addP_ptr, Nat.zero_add, bin_geq, bin_eql, q1, Bool.and_false, Bool.false_and]
    | true =>
    cases q2 : decide (1 ≤ r.k) with
    | false => simp -implicitDefEqProofs only [A.l0, A.l35, A.l37, k1, k2, k3, thenV_some, pu_some, bOf_bool, fs, beq_self_eq_true, guardK_true, guardK_false, Bool.false_eq_true, if_false, if_true, addP_ptr, Nat.zero_add, bin_geq, bin_leq, bin_eql, q1, q2, Bool.and_true, Bool.and_false, Bool.false_and]
    | true =>
    cases q3 : decide (r.k ≤ r.n) with
    | false => simp -implicitDefEqProofs only [A.l0, A.l35, A.l37, A.l38, k1, k2, k3, thenV_some, pu_some, bOf_bool, fs, beq_self_eq_true, guardK_true, guardK_false, Bool.false_eq_true, if_false, if_true, addP_ptr, Nat.zero_add, bin_geq, bin_leq, bin_eql, q1, q2, q3, Bool.and_true, Bool.and_false, Bool.false_and]
    | true =>
    cases q4 : decide (r.n ≤ 255) with
    | false => simp -implicitDefEqProofs only [A.l0, A.l35, A.l37, A.l38, k1, k2, k3, thenV_some, pu_some, bOf_bool, beq_self_eq_true, guardK_true, if_true, addP_ptr, Nat.zero_add, bin_geq, bin_leq, bin_eql, q1, q2, q3, q4, Bool.and_true, Bool.and_false]
    | true =>
    simp -implicitDefEqProofs only [A.l0, A.l35, A.l37, A.l38, k1, k2, k3, thenV_some, pu_some, bOf_bool, beq_self_eq_true, guardK_true, if_true, addP_ptr, Nat.zero_add, bin_geq, bin_leq, bin_eql, q1, q2, q3, q4, Bool.and_true]
  | false =>
  rw [if_neg (by decide)]
  simp -implicitDefEqProofs only [A.l0, k1, k2, k3, thenV_some, pu_some, bOf_bool, addP_ptr, Nat.zero_add, bin_eql]
end Go.Proofs.YtdnahgfgoajmcaaDoor

namespace Go.Proofs.YtdnahgfgoajmcaaDoor
open Go Go.Abs
attribute [local congr] thenV_congr
theorem chkI (k : IntKind) (n : Int) (h : Heap) : chkR true (some (.int k n, h)) (.int k n) = true := by simp [chkR, same, veq]
theorem rec_fin {h0 h : Heap} {b : Nat} {k : Blk} {r : RecD} (w : r.Wf) (o : Old h0 h) (hb : h0.next ≤ b) (g : h.get b = some k) (hk : k.length = 39) : ∃ h', stN 39 (ptr b 0) (.agg (recC r).toArray) h = some (undef, h') ∧ ldN 39 (ptr b 0) h' = some (.agg (recC r).toArray, h') ∧ Old h0 h' := by
  have hn : h.n0 ≤ b := by rw [o.n0]; exact Nat.le_trans h0.n0_le_next hb
  have c := rec_cells w
  obtain ⟨h', e1, k1, g1, _, _⟩ := stored_all (n := 39) g hn hk c.1 c.2.2
  exact ⟨h', e1, ldN_all g1 c.1 c.2.1, Old.of_new o k1 hb⟩
theorem bld_r0 : bldR Zr [] = some (.agg (recC RecD.z).toArray) := rfl
theorem bld_r (k : Nat) (ho : Int) (i n : Nat) (he : Bool) (a b : Int) : bldR Zr [(0, 1, .int .u8 (k : Int)), (33, 1, .int .i64 ho), (34, 1, .int .u64 (i : Int)), (35, 1, .int .u64 (n : Int)), (36, 1, .bool he), (37, 1, .int .i64 a), (38, 1, .int .i64 b)] = some (.agg (recC ⟨k, z32, ho, i, n, he, a, b⟩).toArray) := by kernel_rfl
theorem rec_put {r : RecD} (hr : r.obj.length = 32) {i x : Nat} (hi : i < 32) : (recC r).set (1 + i) (u8 x) = recC { r with obj := r.obj.set i x } := by
  unfold recC u8s
  rw [Nat.add_comm 1 i, List.set_cons_succ, List.set_append_left _ _ (by rw [List.length_map, hr]; exact hi), ← List.map_set]
theorem b47_exit (C : CallF) (e : Env) (h : Heap) : b47_8 C 0 e h = k47s6 C e h := rfl
theorem results47 : Tryd.f47.results.toList = [.cell 2 58, .tmp 3] := by kernel_rfl
/-- The object's bytes are laid into a record. -/
def obInv (h0 : Heap) (V : Nat) (a : Option Addr) (n c R : Nat) (l : List Nat) (r : RecD) (k : Nat) (y : Nat → Value) (g : Heap) : Prop :=
  ∃ i, i + k = 32 ∧ y 5 = i64n i ∧ y 0 = .slice a n c ∧ y 4 = ptr V 0 ∧ y 2 = ptr R 0 ∧ Kept h0 g (· = V) ∧ g.get V = some (recC { r with obj := upTo ((l.drop 1).take 32) 32 i })
def obFin (h0 : Heap) (V R : Nat) (l : List Nat) (r : RecD) (ex : Ex) (y : Nat → Value) (g : Heap) : Prop :=
  ex = .exit 0 ∧ y 4 = ptr V 0 ∧ y 2 = ptr R 0 ∧ Kept h0 g (· = V) ∧ g.get V = some (recC { r with obj := (l.drop 1).take 32 })
theorem obRound {h0 : Heap} {V : Nat} {a : Option Addr} {n c R : Nat} {l : List Nat} {r : RecD} (e : sliceBytes a n h0 = some l) (hn : n = 53) (hV : h0.n0 ≤ V) (ha : ∀ y, a = some y → 0 < n → y.block ≠ V) : ∀ k y g, obInv h0 V a n c R l r k y g → Rnd 62 (obInv h0 V a n c R l r) (obFin h0 V R l r) k (t47l47_11111010 CW y g) := by
  rintro k y g ⟨i, hik, y5, y0, y4, y2, K, gV⟩
  have hl := (sliceBytes_spec e).1
  have hl32 : ((l.drop 1).take 32).length = 32 := by rw [List.length_take, List.length_drop]; omega
  have l32 : bin Tryd.prog .lss 3 (i64n i) (.int .i64 32) = some (.bool (decide (i < 32))) := lss3 i 32
  unfold t47l47_11111010
  by_cases hi : i < 32
  · rw [decide_eq_true hi] at l32
    have eg : sliceBytes a n g = some l := K.bytes e (fun y hy hn => ha y hy hn)
    obtain ⟨b, q, _, i1, i2⟩ := byte_at (c := c) (i := 1 + i) eg (by omega)
    have ad : bin Tryd.prog .add 3 (.int .i64 1) (i64n i) = some (i64n (1 + i)) := add3 (a := 1) (b := i) (by omega)
    have i3 : idxA 32 1 (ptr V 1) (i64n i) = some (ptr V (1 + i)) := by
      unfold idxA i64n
      simp only
      rw [if_pos (by omega), addP_ptr, Int.toNat_natCast, Nat.mul_one]
    have hx : l.getD (1 + i) 0 = ((l.drop 1).take 32).getD i 0 := by
      simp only [List.getD_eq_getElem?_getD, List.getElem?_take, List.getElem?_drop, if_pos hi]
    rw [hx] at i2
    obtain ⟨g', e', k', g1, _, _⟩ := stored (o := 1 + i) (v := u8 (((l.drop 1).take 32).getD i 0)) gV (by rw [K.n0]; exact hV) (by rw [recC_len (by exact upTo_len hl32 (by omega))]; omega) rfl rfl
    rw [rec_put (upTo_len hl32 (by omega)) hi] at g1
    have g1 : g'.get V = some (recC { r with obj := (upTo ((l.drop 1).take 32) 32 i).set i (((l.drop 1).take 32).getD i 0) }) := g1
    rw [upTo_set hl32 hi] at g1
    simp -implicitDefEqProofs only [y5, y0, y4, l32, ad, i1, i2, i3, e', add31 (show i + 1 ≤ 9223372036854775807 by omega), thenV_some, pu_some, addP_ptr, Nat.zero_add]
    exact Rnd.next (k - 1) (by omega) ⟨i + 1, by omega, rfl, y0, y4, y2, K.trans k', g1⟩
  · rw [decide_eq_false hi] at l32
    obtain rfl : i = 32 := by omega
    rw [upTo_all hl32] at gV
    simp -implicitDefEqProofs only [y5, l32, thenV_some, pu_some]
    exact Rnd.out 0 ⟨rfl, y4, y2, K, gV⟩
/-- The record of 53 bytes, but for its object. -/
def rec0 (l : List Nat) : RecD := { decRx l with obj := z32 }
/-- What OfBytes' pieces find. -/
structure E82 (h h1 : Heap) (a : Option Addr) (n c : Nat) (l : List Nat) (y : Nat → Value) : Prop where
  hG : 4 ≤ h.n0
  hz : GZ h
  hl : sliceBytes a n h = some l
  hg : 0 < l.length → goodS a n c = true
  o1 : Old h h1
  g1 : h1.get h.next = some Zr
  n1 : h1.next = h.next + 1
  y0 : y 0 = .slice a n c
  y2 : y 2 = ptr h.next 0
section
variable {h h1 : Heap} {a : Option Addr} {n c : Nat} {l : List Nat} {y : Nat → Value}
theorem E82.go (E : E82 h h1 a n c l y) {y' : Nat → Value} (e0 : y' 0 = y 0) (e2 : y' 2 = y 2) : E82 h h1 a n c l y' := ⟨E.hG, E.hz, E.hl, E.hg, E.o1, E.g1, E.n1, e0.trans E.y0, e2.trans E.y2⟩
theorem fin82 (y : Nat → Value) (r : RecD) (e : Int) {b : Nat} (g' : Heap) (y2 : y 2 = ptr b 0) (y3 : y 3 = .int .i64 e) (ld : ldN 39 (ptr b 0) g' = some (.agg (recC r).toArray, g')) : resultsA Tryd.prog Tryd.f47.results.toList (mkF 62 y) g' = some (.tuple #[.agg (recC r).toArray, .int .i64 e], g') := by
  rw [← y2] at ld
  rw [← y3]
  exact res_cell_tmp results47 agg61 siz61 (show 2 < 62 by decide) (show 3 < 62 by decide) y ld
/-- An early end. -/
theorem E82.zero (E : E82 h h1 a n c l y) : ∃ hz1, stN 39 (ptr h.next 0) (.agg (recC RecD.z).toArray) h1 = some (undef, hz1) ∧ ldN 39 (ptr h.next 0) hz1 = some (.agg (recC RecD.z).toArray, hz1) ∧ Old h hz1 := rec_fin RecD.z_wf E.o1 (Nat.le_refl _) E.g1 rfl
theorem x82_1 (E : E82 h h1 a n c l y) (c1 : l.length < 53) : ∃ h', k47s1 CW (mkF 62 y) h1 = some (.tuple #[.agg (recC RecD.z).toArray, .int .i64 4], h') ∧ Old h h' := by
  have hlen := (sliceBytes_spec E.hl).1
  have hln : lenL (.slice a n c) = some (i64n n) := rfl
  have l53 : bin Tryd.prog .lss 3 (i64n n) (.int .i64 53) = some (.bool (decide (n < 53))) := lss3 n 53
  rw [decide_eq_true (by omega)] at l53
  obtain ⟨hz1, e1, ld1z, O1⟩ := E.zero
  refine ⟨hz1, ?_, O1⟩
  rw [t47s1_eq]
  unfold t47s1
  simp -implicitDefEqProofs only [E.y0, E.y2, hln, l53, bld_r0, e1, thenV_some, pu_some]
  exact fin82 _ _ _ _ E.y2 rfl ld1z
theorem s82_1 (E : E82 h h1 a n c l y) (c1 : ¬ l.length < 53) : ∃ y', k47s1 CW (mkF 62 y) h1 = k47s2 CW (mkF 62 y') h1 ∧ E82 h h1 a n c l y' := by
  have hlen := (sliceBytes_spec E.hl).1
  have hln : lenL (.slice a n c) = some (i64n n) := rfl
  have l53 : bin Tryd.prog .lss 3 (i64n n) (.int .i64 53) = some (.bool (decide (n < 53))) := lss3 n 53
  rw [decide_eq_false (by omega)] at l53
  rw [t47s1_eq]
  unfold t47s1
  simp -implicitDefEqProofs only [E.y0, hln, l53, thenV_some, pu_some]
  exact ⟨_, rfl, E.go rfl rfl⟩
theorem x82_2 (E : E82 h h1 a n c l y) (c1 : 53 < l.length) : ∃ h', k47s2 CW (mkF 62 y) h1 = some (.tuple #[.agg (recC RecD.z).toArray, .int .i64 3], h') ∧ Old h h' := by
  have hlen := (sliceBytes_spec E.hl).1
  have hln : lenL (.slice a n c) = some (i64n n) := rfl
  have l53 : bin Tryd.prog .gtr 3 (i64n n) (.int .i64 53) = some (.bool (decide (53 < n))) := gtr3 n 53
  rw [decide_eq_true (by omega)] at l53
  obtain ⟨hz1, e1, ld1z, O1⟩ := E.zero
  refine ⟨hz1, ?_, O1⟩
  rw [t47s2_eq]
  unfold t47s2
  simp -implicitDefEqProofs only [E.y0, E.y2, hln, l53, bld_r0, e1, thenV_some, pu_some]
  exact fin82 _ _ _ _ E.y2 rfl ld1z
theorem s82_2 (E : E82 h h1 a n c l y) (c1 : ¬ 53 < l.length) : ∃ y', k47s2 CW (mkF 62 y) h1 = k47s3 CW (mkF 62 y') h1 ∧ E82 h h1 a n c l y' := by
  have hlen := (sliceBytes_spec E.hl).1
  have hln : lenL (.slice a n c) = some (i64n n) := rfl
  have l53 : bin Tryd.prog .gtr 3 (i64n n) (.int .i64 53) = some (.bool (decide (53 < n))) := gtr3 n 53
  rw [decide_eq_false (by omega)] at l53
  rw [t47s2_eq]
  unfold t47s2
  simp -implicitDefEqProofs only [E.y0, hln, l53, thenV_some, pu_some]
  exact ⟨_, rfl, E.go rfl rfl⟩
theorem E82.byte (E : E82 h h1 a n c l y) (h53 : l.length = 53) (i : Nat) (hi : i < 53) : ∃ pt, idxS 1 (.slice a n c) (i64n i) = some pt ∧ ld1 pt h1 = some (.int .u8 ((be ((l.drop i).take 1) : Nat) : Int), h1) := by
  have hlen := (sliceBytes_spec E.hl).1
  obtain ⟨pt, i1, i2⟩ := byte_rd (c := c) (i := i) E.hl (by omega)
  refine ⟨pt, i1, ?_⟩
  rw [drop_one (by omega), be_one]
  exact i2 h1 E.o1
theorem x82_3 (E : E82 h h1 a n c l y) (h53 : l.length = 53) (c1 : 1 < be ((l.drop 50).take 1)) : ∃ h', k47s3 CW (mkF 62 y) h1 = some (.tuple #[.agg (recC RecD.z).toArray, .int .i64 5], h') ∧ Old h h' := by
  obtain ⟨p50, j50, f50⟩ := E.byte h53 50 (by decide)
  have j50 : idxS 1 (.slice a n c) (.int .i64 50) = some p50 := j50
  have q88 : bin Tryd.prog .gtr 5 (.int .u8 ((be ((l.drop 50).take 1) : Nat) : Int)) (.int .u8 1) = some (.bool true) := by rw [bin_gtr, decide_eq_true (by omega)]
  obtain ⟨hz1, e1, ld1z, O1⟩ := E.zero
  refine ⟨hz1, ?_, O1⟩
  rw [t47s3_eq]
  unfold t47s3
  simp -implicitDefEqProofs only [E.y0, E.y2, j50, f50, q88, bld_r0, e1, thenV_some, pu_some]
  exact fin82 _ _ _ _ E.y2 rfl ld1z
theorem s82_3 (E : E82 h h1 a n c l y) (h53 : l.length = 53) (c1 : ¬ 1 < be ((l.drop 50).take 1)) : ∃ y', k47s3 CW (mkF 62 y) h1 = k47s4 CW (mkF 62 y') h1 ∧ E82 h h1 a n c l y' := by
  obtain ⟨p50, j50, f50⟩ := E.byte h53 50 (by decide)
  have j50 : idxS 1 (.slice a n c) (.int .i64 50) = some p50 := j50
  have q88 : bin Tryd.prog .gtr 5 (.int .u8 ((be ((l.drop 50).take 1) : Nat) : Int)) (.int .u8 1) = some (.bool false) := by rw [bin_gtr, decide_eq_false (by omega)]
  rw [t47s3_eq]
  unfold t47s3
  simp -implicitDefEqProofs only [E.y0, j50, f50, q88, thenV_some, pu_some]
  exact ⟨_, rfl, E.go rfl rfl⟩
theorem rec0_wf (hby : Bys l) (h53 : l.length = 53) : (rec0 l).Wf := { decRx_wf h53 hby with obj := z32_ok }
theorem s82_4 (E : E82 h h1 a n c l y) (h53 : l.length = 53) : ∃ y' h2, k47s4 CW (mkF 62 y) h1 = k47s5 CW (mkF 62 y') h2 ∧ E82 h h1 a n c l y' ∧ y' 4 = ptr h1.next 0 ∧ h2.get h1.next = some (recC (rec0 l)) ∧ Old h1 h2 := by
  have hlen := (sliceBytes_spec E.hl).1
  have hby : Bys l := (sliceBytes_spec E.hl).2.1
  obtain ⟨p50, j50, f50⟩ := E.byte h53 50 (by decide)
  obtain ⟨p0, j0, f0⟩ := E.byte h53 0 (by decide)
  obtain ⟨p33, j33, f33⟩ := E.byte h53 33 (by decide)
  obtain ⟨p51, j51, f51⟩ := E.byte h53 51 (by decide)
  obtain ⟨p52, j52, f52⟩ := E.byte h53 52 (by decide)
  have j50 : idxS 1 (.slice a n c) (.int .i64 50) = some p50 := j50
  have j0 : idxS 1 (.slice a n c) (.int .i64 0) = some p0 := j0
  have j33 : idxS 1 (.slice a n c) (.int .i64 33) = some p33 := j33
  have j51 : idxS 1 (.slice a n c) (.int .i64 51) = some p51 := j51
  have j52 : idxS 1 (.slice a n c) (.int .i64 52) = some p52 := j52
  have hl1 := Old.bytes E.o1 E.hl
  have hG1 : 4 ≤ h1.n0 := by rw [E.o1.n0]; exact E.hG
  obtain ⟨a1, d1, s1, t1, _⟩ := slR_mid (c := c) (lo := 34) (hi := 42) (E.hg (by omega)) hl1 (by decide) (by omega)
  obtain ⟨a2, d2, s2, t2, _⟩ := slR_mid (c := c) (lo := 42) (hi := 50) (E.hg (by omega)) hl1 (by decide) (by omega)
  have s1 : slR 1 (.slice a n c) (some (.int .i64 34)) (some (.int .i64 42)) none = some (.slice a1 8 d1) := s1
  have s2 : slR 1 (.slice a n c) (some (.int .i64 42)) (some (.int .i64 50)) none = some (.slice a2 8 d2) := s2
  have e34 : CW 98 [.slice a1 8 d1] h1 = some (.int .u64 ((be ((l.drop 34).take 8) : Nat) : Int), h1) := r98 hG1 t1 (by decide)
  have e42 : CW 98 [.slice a2 8 d2] h1 = some (.int .u64 ((be ((l.drop 42).take 8) : Nat) : Int), h1) := r98 hG1 t2 (by decide)
  have cv : ∀ i, cvI .i64 (.int .u8 ((be ((l.drop i).take 1) : Nat) : Int)) h1 = some (.int .i64 ((be ((l.drop i).take 1) : Nat) : Int), h1) := fun i => by
    have := be1_lt hby i
    rw [cvI_int, wrap_i64 (by omega) (by omega)]
  have c33 := cv 33
  have c51 := cv 51
  have c52 := cv 52
  have qe : bin Tryd.prog .eql 5 (.int .u8 ((be ((l.drop 50).take 1) : Nat) : Int)) (.int .u8 1) = some (.bool (be ((l.drop 50).take 1) == 1)) := by
    rw [bin_eql]
    congr 2
    rw [Bool.eq_iff_iff]
    simp only [beq_iff_eq]
    omega
  rw [List.drop_zero] at f0
  have bR : bldR Zr [(0, 1, .int .u8 ((be (l.take 1) : Nat) : Int)), (33, 1, .int .i64 ((be ((l.drop 33).take 1) : Nat) : Int)), (34, 1, .int .u64 ((be ((l.drop 34).take 8) : Nat) : Int)), (35, 1, .int .u64 ((be ((l.drop 42).take 8) : Nat) : Int)), (36, 1, .bool (be ((l.drop 50).take 1) == 1)), (37, 1, .int .i64 ((be ((l.drop 51).take 1) : Nat) : Int)), (38, 1, .int .i64 ((be ((l.drop 52).take 1) : Nat) : Int))] = some (.agg (recC (rec0 l)).toArray) := bld_r ..
  have wq := rec0_wf hby h53
  have cq := rec_cells wq
  generalize rec0 l = q at *
  obtain ⟨h2, z2, o2, g2, n2⟩ := fresh Zr h1
  obtain ⟨h3, e3, k3, g3, _, n3⟩ := stored_all (n := 39) (k' := recC q) g2 (by rw [o2.n0]; exact h1.n0_le_next) rfl cq.1 cq.2.2
  have o13 : Old h1 h3 := Old.of_new o2 k3 (Nat.le_refl _)
  rw [t47s4_eq]
  unfold t47s4
  simp -implicitDefEqProofs only [E.y0, j0, f0, j33, f33, c33, s1, e34, s2, e42, j50, f50, qe, j51, f51, c51, j52, f52, c52, bR, z2, e3, chkI, thenV_some, pu_some, Bool.and_self]
  exact ⟨_, h3, rfl, E.go rfl rfl, rfl, g3, o13⟩
theorem s82_5 (E : E82 h h1 a n c l y) (h53 : l.length = 53) {h2 : Heap} (y4 : y 4 = ptr h1.next 0) (g2 : h2.get h1.next = some (recC (rec0 l))) (o : Old h1 h2) : ∃ y' g, k47s5 CW (mkF 62 y) h2 = k47s6 CW (mkF 62 y') g ∧ y' 4 = ptr h1.next 0 ∧ y' 2 = ptr h.next 0 ∧ g.get h1.next = some (recC (decRx l)) ∧ Old h g ∧ g.get h.next = some Zr := by
  have hlen := (sliceBytes_spec E.hl).1
  rw [t47s5_eq]
  unfold t47s5
  rw [thenV_some]
  have hlt : ∀ z, a = some z → 0 < n → z.block < h.next := fun z hz h0 => by
    obtain ⟨b, off, s, k, e, hk, _⟩ := (sliceBytes_spec E.hl).2.2 h0
    rw [hz] at e
    cases e
    exact h.lt_of_get hk
  refine endL_fin (Q := fun o : Out => ∃ y' g, o = k47s6 CW (mkF 62 y') g ∧ y' 4 = ptr h1.next 0 ∧ y' 2 = ptr h.next 0 ∧ g.get h1.next = some (recC (decRx l)) ∧ Old h g ∧ g.get h.next = some Zr)
    (loop_fin (t47l47_11111010_eq CW) (obRound (h0 := h2) (V := h1.next) (a := a) (n := n) (c := c) (R := h.next) (l := l) (r := rec0 l) (Old.bytes (E.o1.trans o) E.hl) (by omega) (by rw [o.n0]; exact h1.n0_le_next) (fun z hz h0 e => by have := hlt z hz h0; have := E.n1; omega)) 32 (by decide)
      ⟨0, rfl, rfl, E.y0, y4, E.y2, Kept.refl _ _, g2⟩) ?_
  rintro ex w g ⟨rfl, w4, w2, K, gV⟩
  have n1 := E.n1
  rw [endL_exit, b47_exit]
  exact ⟨w, g, rfl, w4, w2, gV, (E.o1.trans o).also K (fun d hd e => by omega), K.getE (Old.get o E.g1) (by omega)⟩
theorem s82_6 (hG : 4 ≤ h.n0) (hz : GZ h) (hby : Bys l) (h53 : l.length = 53) {g : Heap} {w : Nat → Value} (w4 : w 4 = ptr h1.next 0) (w2 : w 2 = ptr h.next 0) (gV : g.get h1.next = some (recC (decRx l))) (OK : Old h g) (gR : g.get h.next = some Zr) (q : RecD × Int) (hq : q = if recB (decRx l) = true then (decRx l, (0 : Int)) else (RecD.z, 2)) :
    ∃ h', k47s6 CW (mkF 62 w) g = some (.tuple #[.agg (recC q.1).toArray, .int .i64 q.2], h') ∧ Old h h' := by
  have w53 := decRx_wf h53 hby
  have cd := rec_cells w53
  have ldv : ldN 39 (ptr h1.next 0) g = some (.agg (recC (decRx l)).toArray, g) := ldN_all gV cd.1 cd.2.1
  obtain ⟨g', e62, o62⟩ := r48 (h := g) (by rw [OK.n0]; exact hG) (hz.old OK) w53
  have gR := Old.get o62 gR
  have ldv' : ldN 39 (ptr h1.next 0) g' = some (.agg (recC (decRx l)).toArray, g') := ldN_all (Old.get o62 gV) cd.1 cd.2.1
  rw [t47s6_eq]
  unfold t47s6
  cases c4 : recB (decRx l) with
  | false =>
    rw [c4] at e62 hq
    rw [if_neg (by decide)] at hq
    subst hq
    obtain ⟨g2', e9, l9, O9⟩ := rec_fin RecD.z_wf (OK.trans o62) (Nat.le_refl _) gR rfl
    refine ⟨g2', ?_, O9⟩
    simp -implicitDefEqProofs only [w4, w2, ldv, e62, bld_r0, e9, thenV_some, pu_some, Bool.not_false, unA_not]
    exact fin82 _ _ _ _ w2 rfl l9
  | true =>
    rw [c4] at e62 hq
    rw [if_pos rfl] at hq
    subst hq
    obtain ⟨g2', e9, l9, O9⟩ := rec_fin w53 (OK.trans o62) (Nat.le_refl _) gR rfl
    refine ⟨g2', ?_, O9⟩
    simp -implicitDefEqProofs only [w4, w2, ldv, e62, ldv', e9, thenV_some, pu_some, Bool.not_true, unA_not]
    exact fin82 _ _ _ _ w2 rfl l9
theorem is47 : IsFn Tryd.prog 47 Tryd.f47 := ⟨by kernel_rfl, by kernel_rfl, by kernel_rfl, by kernel_rfl⟩
/-- OfBytes, of a record -/
theorem r47 (hG : 4 ≤ h.n0) (hz : GZ h) (hl : sliceBytes a n h = some l) (hg : 0 < l.length → goodS a n c = true) : ∃ h', CW 47 [.slice a n c] h = some (.tuple #[.agg (recC (decR l).1).toArray, .int .i64 (decR l).2], h') ∧ Old h h' := by
  have key : ∃ h', k47s0 CW (mkF 62 (bs [.slice a n c])) h = some (.tuple #[.agg (recC (decR l).1).toArray, .int .i64 (decR l).2], h') ∧ Old h h' := by
    obtain ⟨h1, z1, o1, g1, n1⟩ := fresh Zr h
    have hby : Bys l := (sliceBytes_spec hl).2.1
    have st : ∃ y, k47s0 CW (mkF 62 (bs [.slice a n c])) h = k47s1 CW (mkF 62 y) h1 ∧ E82 h h1 a n c l y := by
      rw [t47s0_eq]
      unfold t47s0
      simp -implicitDefEqProofs only [z1, thenV_some]
      exact ⟨_, rfl, hG, hz, hl, hg, o1, g1, n1, rfl, rfl⟩
    obtain ⟨y1, e1, E1⟩ := st
    rw [e1]
    by_cases c1 : l.length < 53
    · have hd : decR l = (RecD.z, 4) := by unfold decR; rw [if_pos c1]
      rw [hd]
      exact x82_1 E1 c1
    obtain ⟨y2, e2, E2⟩ := s82_1 E1 c1
    rw [e2]
    by_cases c2 : 53 < l.length
    · have hd : decR l = (RecD.z, 3) := by unfold decR; rw [if_neg c1, if_pos c2]
      rw [hd]
      exact x82_2 E2 c2
    obtain ⟨y3, e3, E3⟩ := s82_2 E2 c2
    rw [e3]
    have h53 : l.length = 53 := by omega
    by_cases c3 : 1 < be ((l.drop 50).take 1)
    · have hd : decR l = (RecD.z, 5) := by unfold decR; rw [if_neg c1, if_neg c2, if_pos c3]
      rw [hd]
      exact x82_3 E3 h53 c3
    obtain ⟨y4, e4, E4⟩ := s82_3 E3 h53 c3
    obtain ⟨y5, h2, e5, E5, f4, g2, o2⟩ := s82_4 E4 h53
    obtain ⟨y6, g, e6, w4, w2, gV, OK, gR⟩ := s82_5 E5 h53 f4 g2 o2
    rw [e4, e5, e6]
    exact s82_6 hG hz hby h53 w4 w2 gV OK gR (decR l) (by unfold decR; rw [if_neg c1, if_neg c2, if_neg c3])
  obtain ⟨h', e, o⟩ := key
  exact ⟨h', CW_body is47 hG rfl ((t47_eq _ _ _).trans e), o⟩
end
end Go.Proofs.YtdnahgfgoajmcaaDoor

namespace Go.Proofs.YtdnahgfgoajmcaaDoor
open Go Go.Abs
attribute [local congr] thenV_congr
theorem bytesL (h : Heap) {l : List Nat} (hb : Bys l) : sliceBytes (some ⟨h.next, 0, none⟩) l.length (h.alloc (u8s l)) = some l := by
  have := sliceBytes_at (h := h.alloc (u8s l)) (b := h.next) (off := 0) (n := l.length) (s := none) (l := l) (by rw [Heap.get_alloc, if_pos rfl]) (by simp) hb
  rw [this, List.drop_zero, List.take_of_length_le (Nat.le_refl _)]
theorem OwnB.weak {h : Heap} {N M : Nat} {v : Value} {l : List Nat} (o : OwnB h N v l) (hM : M ≤ N) : OwnB h M v l := by
  obtain ⟨⟨h1, h2, h3, h4⟩, hb⟩ := o
  refine ⟨⟨h1, h2, h3, ?_⟩, hb⟩
  rcases h4 with h4 | ⟨b, s, e, h5, h6⟩
  · exact .inl h4
  · exact .inr ⟨b, s, e, by omega, h6⟩
/-- append, behind bytes that are no one's own. -/
theorem append_lit {h : Heap} {b off n k c : Nat} {a : Option Addr} {l m : List Nat} (hl : sliceBytes (some ⟨b, off, none⟩) n h = some l) (hm : sliceBytes a k h = some m) (hk : 0 < k) (hb : n + k ≤ 100000000) :
    ∃ v' h', appendA 1 1 (.slice (some ⟨b, off, none⟩) n n) (.slice a k c) h = some (v', h') ∧ OwnB h' h.next v' (l ++ m) ∧ Old h h' := by
  obtain ⟨l1, lb, _⟩ := sliceBytes_spec hl
  obtain ⟨m1, mb, _⟩ := sliceBytes_spec hm
  have f1 := firstA_of hl (Nat.le_refl n) (c := n)
  rw [List.take_of_length_le (by omega)] at f1
  have f2 := firstA_of hm (Nat.le_refl k) (c := c)
  rw [List.take_of_length_le (by omega)] at f2
  refine ⟨.slice (some ⟨h.next, 0, some 1⟩) (n + k) (n + k), h.alloc (u8s l ++ u8s m), ?_, ⟨⟨?_, ?_, ?_, .inr ⟨h.next, some 1, ?_, Nat.le_refl _, .inr ⟨rfl, ?_⟩⟩⟩, ?_⟩, Kept.alloc _ _ _⟩
  · unfold appendA
    simp only [show lenA (.slice a k c) = some k from rfl, f1, f2]
    have c1 : ((!(oneCells (m.map u8)) || !(decide ((n + k) * 1 ≤ 140737488355328)) || !(decide (n + k ≤ 4611686018427387904)) || decide ((m.map u8).length ≠ k * 1)) = true) ↔ False := by
      rw [one_u8, decide_eq_true (by omega), decide_eq_true (by omega), decide_eq_false (by simp; omega)]
      simp
    rw [if_neg (by rw [c1]; exact id), if_neg (by omega), if_neg (by simp; omega)]
  · simp
  · rw [List.map_append]; exact noHoles_append _ _ (noHoles_u8 _) (noHoles_u8 _)
  · rw [List.map_append]; exact oneCells_append _ _ (one_u8 _) (one_u8 _)
  · rw [List.length_append, l1, m1]
  · rw [Heap.get_alloc, if_pos rfl, List.map_append]
  · intro x hx
    rcases List.mem_append.1 hx with hx | hx
    · exact lb x hx
    · exact mb x hx
/-- Bytes are put behind one's own. -/
theorem app_sl {h0 g : Heap} {v : Value} {l m : List Nat} {a : Option Addr} {n c : Nat} (K : Old h0 g) (o : OwnB g h0.next v l) (hm : sliceBytes a n g = some m) (hb : l.length + n ≤ 100000000) : ∃ v' g2, appendA 1 1 v (.slice a n c) g = some (v', g2) ∧ OwnB g2 h0.next v' (l ++ m) ∧ Old h0 g2 := by
  obtain ⟨v', g2, e1, e2, k, _⟩ := append_ownB o (by rw [K.n0]; exact h0.n0_le_next) K.next hm hb (c := c)
  exact ⟨v', g2, e1, e2, K.also k (fun d hd e => by have := o.own.base e; omega)⟩
theorem app_own {h0 g g1 : Heap} {v w : Value} {l m : List Nat} {N : Nat} (K : Old h0 g) (o : OwnB g h0.next v l) (o1 : Old g g1) (ow : OwnB g1 N w m) (hb : l.length + m.length ≤ 100000000) : ∃ v' g2, appendA 1 1 v w g1 = some (v', g2) ∧ OwnB g2 h0.next v' (l ++ m) ∧ Old h0 g2 := by
  obtain ⟨a, c, rfl, s, _, _⟩ := ow.bytes
  exact app_sl (K.trans o1) (o.keep o1 (fun _ _ h => h)) s hb
theorem app_one {h0 g : Heap} {v : Value} {l : List Nat} {x : Nat} (K : Old h0 g) (o : OwnB g h0.next v l) (hx : x < 256) (hb : l.length + 1 ≤ 100000000) : ∃ v' g2, appendA 1 1 v (.slice (some ⟨g.next, 0, none⟩) 1 1) (g.alloc [u8 x]) = some (v', g2) ∧ OwnB g2 h0.next v' (l ++ [x]) ∧ Old h0 g2 := by
  have ka : Old g (g.alloc [u8 x]) := Kept.alloc _ _ _
  exact app_sl (c := 1) (K.trans ka) (o.keep ka (fun _ _ h => h)) (bytes1 g hx) hb
theorem beB1 {x : Nat} (h : x < 256) : beB 1 x = [x] := by simp [beB, Nat.mod_eq_of_lt h]
theorem is46 : IsFn Tryd.prog 46 Tryd.f46 := ⟨by kernel_rfl, by kernel_rfl, by kernel_rfl, by kernel_rfl⟩
theorem is97 : IsFn Tryd.prog 97 Tryd.f97 := ⟨by kernel_rfl, by kernel_rfl, by kernel_rfl, by kernel_rfl⟩
/-- bit -/
theorem r97 {h : Heap} (hG : 4 ≤ h.n0) (b : Bool) : CW 97 [.bool b] h = some (.int .u64 ((bit b : Nat) : Int), h) := by
  refine CW_body is97 hG rfl ((t97_eq _ _ _).trans ?_)
  unfold t97
  cases b <;> rfl
theorem cv8i (k : IntKind) (x : Int) (h : Heap) : cvI .u8 (.int k x) h = some (u8 (i8 x), h) := by rw [cvI_int, wrap_i8]
theorem chkU (x : Nat) (h : Heap) : chkR true (some (u8 x, h)) (u8 x) = true := chkI .u8 _ _
theorem enc3 (a b c : Nat) (ha : a < 256) (hb : b < 256) (hc : c < 256) : beB 1 a ++ (beB 1 b ++ beB 1 c) = [a, b, c] := by rw [beB1 ha, beB1 hb, beB1 hc]; rfl
theorem bsl3 (h : Heap) (x y z : Nat) : bslR 1 (.int .u8 0) 3 [(0, u8 x), (1, u8 y), (2, u8 z)] h = some (.slice (some ⟨h.next, 0, none⟩) 3 3, h.alloc (u8s [x, y, z])) := rfl
set_option maxRecDepth 100000 in
/-- Bytes, of a record -/
theorem r46 {h : Heap} (hG : 4 ≤ h.n0) (hz : GZ h) {r : RecD} (w : r.Wf) (hv : recB r = true) : ∃ v h', CW 46 [.agg (recC r).toArray] h = some (.tuple #[v, .int .i64 0], h') ∧ OwnB h' h.next v (encRec r) ∧ Old h h' := by
  have cr := rec_cells w
  have b1 : box (.agg (recC r).toArray) h = some (ptr h.next 0, h.alloc (recC r)) := box_at h _ cr.2.2
  have o1 : Old h (h.alloc (recC r)) := Kept.alloc _ _ _
  have g1 : (h.alloc (recC r)).get h.next = some (recC r) := by rw [Heap.get_alloc, if_pos rfl]
  have n1 : (h.alloc (recC r)).next = h.next + 1 := Heap.next_alloc ..
  generalize h.alloc (recC r) = h1 at *
  have L : ∀ g, Old h1 g → RLd g h.next r := fun g o => r_ld w (Old.get o g1)
  have A1 := L h1 (Kept.refl _ _)
  obtain ⟨h2, e2, o2⟩ := r48 (h := h1) (by rw [o1.n0]; exact hG) (hz.old o1) w
  rw [hv] at e2
  have A2 := L h2 o2
  have O2 := o1.trans o2
  have ha := arr32 h.next 1
  have hs2 : ∀ g, Old h1 g → sliceBytes (some ⟨h.next, 1, none⟩) 32 g = some r.obj := fun g o => by
    have := sliceBytes_mid (s := none) (Old.get o g1) (show recC r = [.int .u8 (r.kind : Int)] ++ (u8s r.obj ++ [.int .i64 r.holder, .int .u64 (r.inc : Int), .int .u64 (r.num : Int), .bool r.held, .int .i64 r.k, .int .i64 r.n]) from rfl) rfl w.obj.2
    rw [w.obj.1] at this
    exact this
  have b3 := bsl1 h2 r.kind
  have ka : Old h2 (h2.alloc [u8 r.kind]) := Kept.alloc _ _ _
  obtain ⟨v4, h4, e4, O4, k4⟩ := append_lit (c := 32) (bytes1 h2 w.kind) (hs2 _ (o2.trans ka)) (by decide) (by decide)
  have K4 := (o2.trans ka).trans k4
  have O4 := O4.weak (M := h1.next) (Nat.le_trans o2.next ka.next)
  have A4 := L h4 K4
  have cv1 := cv8i .i64 r.holder h4
  have b5 := bsl1 h4 (i8 r.holder)
  obtain ⟨v5, h5, e5, O5, K5⟩ := app_one (h0 := h1) K4 O4 (i8_lt r.holder) (by simp [w.obj.1])
  have A5 := L h5 K5
  have G5 : 4 ≤ h5.n0 := by rw [K5.n0, o1.n0]; exact hG
  obtain ⟨w6, h6, e6, W6, k6⟩ := r96 h5 G5 (n := r.inc) (k := 8) (by decide) (by decide) w.inc
  have e6 : CW 96 [.int .u64 (r.inc : Int), .int .i64 8] h5 = _ := e6
  obtain ⟨v7, h7, e7, O7, K7⟩ := app_own K5 O5 k6 W6 (by simp [w.obj.1, beB_length])
  have A6 := L h6 (K5.trans k6)
  have A7 := L h7 K7
  have G7 : 4 ≤ h7.n0 := by rw [K7.n0, o1.n0]; exact hG
  obtain ⟨w8, h8, e8, W8, k8⟩ := r96 h7 G7 (n := r.num) (k := 8) (by decide) (by decide) w.num
  have e8 : CW 96 [.int .u64 (r.num : Int), .int .i64 8] h7 = _ := e8
  obtain ⟨v9, h9, e9, O9, K9⟩ := app_own K7 O7 k8 W8 (by simp [w.obj.1, beB_length])
  have A9 := L h9 K9
  have G9 : 4 ≤ h9.n0 := by rw [K9.n0, o1.n0]; exact hG
  have e10 := r97 G9 r.held
  have hbit := bit_lt r.held
  have cvb : cvI .u8 (.int .u64 ((bit r.held : Nat) : Int)) h9 = some (u8 (bit r.held), h9) := by rw [cvI_int, wrap_u8 (by omega) (by omega)]
  have cvk := cv8i .i64 r.k h9
  have cvn := cv8i .i64 r.n h9
  have b11 := bsl3 h9 (bit r.held) (i8 r.k) (i8 r.n)
  have ka9 : Old h9 (h9.alloc (u8s [bit r.held, i8 r.k, i8 r.n])) := Kept.alloc _ _ _
  have hb3 : Bys [bit r.held, i8 r.k, i8 r.n] := fun x hx => by
    simp only [List.mem_cons, List.not_mem_nil, or_false] at hx
    rcases hx with rfl | rfl | rfl
    · omega
    · exact i8_lt _
    · exact i8_lt _
  obtain ⟨v12, h12, e12, O12, K12⟩ := app_sl (c := 3) (K9.trans ka9) (O9.keep ka9 (fun _ _ h => h)) (bytesL h9 hb3) (by simp [w.obj.1, beB_length])
  have e12 : appendA 1 1 v9 (.slice (some ⟨h9.next, 0, none⟩) 3 3) (h9.alloc (u8s [bit r.held, i8 r.k, i8 r.n])) = some (v12, h12) := e12
  have cku1 := chkU (i8 r.k) h9
  have cku2 := chkU (i8 r.n) h9
  refine ⟨v12, h12, CW_body is46 hG rfl ((t46_eq _ _ _).trans ?_), ?_, o1.trans K12⟩
  · unfold t46
    simp -implicitDefEqProofs only [b1, A1.all, e2, A2.l0, ha, b3, e4, A4.l33, cv1, b5, e5, A5.l34, e6, e7, A7.l35, A5.l35, A6.l35, e8, e9, A9.l36, e10, cvb, A9.l37, A9.l38, cvk, cvn, b11, e12, chkI, cku1, cku2, thenV_some, pu_some, Bool.not_true, unA_not, Bool.and_true, Bool.and_self, addP_ptr, Nat.zero_add]
  · have O12 := O12.weak (M := h.next) (by omega)
    have ee : encRec r = ((((([r.kind] ++ r.obj) ++ [i8 r.holder]) ++ beB 8 r.inc) ++ beB 8 r.num) ++ [bit r.held, i8 r.k, i8 r.n]) := by
      unfold encRec
      rw [beB1 w.kind, beB1 (i8_lt _), enc3 _ _ _ (by omega) (i8_lt _) (i8_lt _)]
      simp only [List.append_assoc]
    rw [ee]
    exact O12
end Go.Proofs.YtdnahgfgoajmcaaDoor

namespace Go.Proofs.YtdnahgfgoajmcaaDoor
open Go Go.Abs
attribute [local congr] thenV_congr
theorem strOf_size (l : List Nat) : (strOf l).size = l.length := by simp [strOf, ByteArray.size]
theorem strOf_add (l m : List Nat) : strOf l ++ strOf m = strOf (l ++ m) := by
  apply ByteArray.ext
  rw [ByteArray.data_append]
  simp [strOf]
theorem str_add {a b : ByteArray} (h : a.size + b.size ≤ 1000000) : bin Tryd.prog .add 9 (.string a) (.string b) = some (.string (a ++ b)) := by
  unfold bin eqOk
  simp only [if_true]
  unfold binA
  simp only [ground, flat, Bool.and_self, if_true]
  have e : (binOp .add 9 (.string a) (.string b)) = (if ((a.size + b.size : Nat) : Int) > IntKind.i64.max then unsupported (Unsupported.resourceLimit "string concatenation: a sum of the lengths that is no int") else pure (.string (a ++ b))) := rfl
  rw [e, if_neg (by have : IntKind.i64.max = 9223372036854775807 := rfl; omega)]
  rfl
theorem add_str (l m : List Nat) (h : l.length + m.length ≤ 1000000) : bin Tryd.prog .add 9 (.string (strOf l)) (.string (strOf m)) = some (.string (strOf (l ++ m))) := by
  rw [str_add (by rw [strOf_size, strOf_size]; exact h), strOf_add]
theorem chkS (s : ByteArray) (h : Heap) : chkR true (some (.string s, h)) (.string s) = true := by simp [chkR, same, veq]
theorem plus_get {h a b : Heap} {k : Blk} (hk : b.getB a.next = some (.cells k)) (hn : h.next ≤ a.next) : (Heap.plus true h a b).get a.next = some k := by
  unfold Heap.plus
  rw [if_pos rfl, hk]
  obtain ⟨_, _, p3, _⟩ := Heap.pad_spec h (a.next - h.next)
  simp only
  refine Heap.get_of_getB _ ?_
  show ((Heap.pad (a.next - h.next) h).allocB (.cells k)).getB a.next = _
  rw [Heap.getB_allocB, p3, if_pos (by omega)]
/-- The bytes of a record's key. -/
def keyB (r : RecD) : List Nat := [r.kind] ++ r.obj ++ [i8 r.holder]
theorem keyB_len {r : RecD} (w : r.Wf) : (keyB r).length = 34 := by unfold keyB; simp [w.obj.1]
theorem keyB_bys {r : RecD} (w : r.Wf) : Bys (keyB r) := by
  intro x hx
  unfold keyB at hx
  simp only [List.mem_append, List.mem_cons, List.not_mem_nil, or_false] at hx
  rcases hx with (rfl | hx) | rfl
  · exact w.kind
  · exact w.obj.2 x hx
  · exact i8_lt _
theorem obj_sl {g : Heap} {b : Nat} {r : RecD} (w : r.Wf) (g1 : g.get b = some (recC r)) : sliceBytes (some ⟨b, 1, none⟩) 32 g = some r.obj := by
  have := sliceBytes_mid (s := none) g1 (show recC r = [.int .u8 (r.kind : Int)] ++ (u8s r.obj ++ [.int .i64 r.holder, .int .u64 (r.inc : Int), .int .u64 (r.num : Int), .bool r.held, .int .i64 r.k, .int .i64 r.n]) from rfl) rfl w.obj.2
  rw [w.obj.1] at this
  exact this
theorem is67 : IsFn Tryd.prog 67 Tryd.f67 := ⟨by kernel_rfl, by kernel_rfl, by kernel_rfl, by kernel_rfl⟩
theorem is27 : IsFn Tryd.prog 27 Tryd.f27 := ⟨by kernel_rfl, by kernel_rfl, by kernel_rfl, by kernel_rfl⟩
theorem is59 : IsFn Tryd.prog 59 Tryd.f59 := ⟨by kernel_rfl, by kernel_rfl, by kernel_rfl, by kernel_rfl⟩
theorem is45 : IsFn Tryd.prog 45 Tryd.f45 := ⟨by kernel_rfl, by kernel_rfl, by kernel_rfl, by kernel_rfl⟩
set_option maxRecDepth 100000 in
/-- key, of the document -/
theorem r59 {h : Heap} (hG : 4 ≤ h.n0) {r : RecD} (w : r.Wf) : ∃ h', CW 59 [.agg (recC r).toArray] h = some (.string (strOf (keyB r)), h') ∧ Old h h' := by
  obtain ⟨h1, b1, o1, g1, n1⟩ := rec_box2 h w
  have A1 := r_ld w g1
  have ha := arr32 h.next 1
  have c9 := cvBS_at (c := 32) (obj_sl w g1)
  have cv1 := cv8i .i64 r.holder h1
  have b5 := bsl1 h1 r.kind
  have ka : Old h1 (h1.alloc [u8 r.kind]) := Kept.alloc _ _ _
  have c6 := cvBS_at (c := 1) (bytes1 h1 w.kind)
  have s1 : bin Tryd.prog .add 9 (.string (strOf [r.kind])) (.string (strOf r.obj)) = some (.string (strOf ([r.kind] ++ r.obj))) := add_str _ _ (by simp [w.obj.1])
  have b14 := bsl1 (h1.alloc [u8 r.kind]) (i8 r.holder)
  have kb : Old (h1.alloc [u8 r.kind]) ((h1.alloc [u8 r.kind]).alloc [u8 (i8 r.holder)]) := Kept.alloc _ _ _
  have c15 := cvBS_at (c := 1) (bytes1 (h1.alloc [u8 r.kind]) (i8_lt r.holder))
  have s2 : bin Tryd.prog .add 9 (.string (strOf ([r.kind] ++ r.obj))) (.string (strOf [i8 r.holder])) = some (.string (strOf (keyB r))) := add_str _ _ (by simp [w.obj.1])
  have nx : (h1.alloc [u8 r.kind]).next = h1.next + 1 := Heap.next_alloc ..
  have gp : ((h1.alloc [u8 r.kind]).alloc [u8 (i8 r.holder)]).getB (h1.alloc [u8 r.kind]).next = some (.cells [u8 (i8 r.holder)]) := by rw [Heap.getB_alloc, if_pos rfl]
  have pl : cvBS (.slice (some ⟨(h1.alloc [u8 r.kind]).next, 0, none⟩) 1 1) (Heap.plus true h1 (h1.alloc [u8 r.kind]) ((h1.alloc [u8 r.kind]).alloc [u8 (i8 r.holder)])) = some (.string (strOf [i8 r.holder]), Heap.plus true h1 (h1.alloc [u8 r.kind]) ((h1.alloc [u8 r.kind]).alloc [u8 (i8 r.holder)])) := by
    have g := plus_get (h := h1) gp (by omega)
    have e := sliceBytes_at (off := 0) (n := 1) (s := none) (l := [i8 r.holder]) g (by simp) (fun x hx => by
      simp only [List.mem_cons, List.not_mem_nil, or_false] at hx
      subst hx
      exact i8_lt _)
    exact cvBS_at e
  refine ⟨_, CW_body is59 hG rfl ((t59_eq _ _ _).trans ?_), (o1.trans ka).trans kb⟩
  unfold t59
  simp -implicitDefEqProofs only [b1, A1.l0, A1.l33, ha, c9, cv1, b5, c6, s1, b14, c15, s2, pl, chkS, thenV_some, pu_some, addP_ptr, Nat.zero_add, Bool.and_true]
end Go.Proofs.YtdnahgfgoajmcaaDoor

namespace Go.Proofs.YtdnahgfgoajmcaaDoor
open Go Go.Abs
attribute [local congr] thenV_congr
/-- append, within what there is room for. -/
theorem app_cap {h : Heap} {b len cap n c : Nat} {s : Option Nat} {a : Option Addr} {A B C : List Value} {l : List Nat} (g : h.get b = some (A ++ (B ++ C))) (h0 : h.n0 ≤ b) (hA : A.length = len) (hB : B.length = n) (hs : sliceBytes a n h = some l) (hn : 0 < n) (hc : len + n ≤ cap) (hk : len + n ≤ 1000000) :
    ∃ g', appendA 1 1 (.slice (some ⟨b, 0, s⟩) len cap) (.slice a n c) h = some (.slice (some ⟨b, 0, s⟩) (len + n) cap, g') ∧ Kept h g' (· = b) ∧ g'.get b = some (A ++ (u8s l ++ C)) ∧ g'.next = h.next := by
  obtain ⟨hl, hb, _⟩ := sliceBytes_spec hs
  have hf := firstA_of hs (Nat.le_refl n) (c := c)
  rw [List.take_of_length_le (by omega)] at hf
  have hsp : splice (A ++ (B ++ C)) len (u8s l) = A ++ (u8s l ++ C) := splice_app hA hB (by rw [List.length_map]; exact hl)
  refine ⟨h.set b (A ++ (u8s l ++ C)), ?_, Kept.set h0 g (.inr rfl), Heap.get_set_same h0 g _, rfl⟩
  unfold appendA
  simp only [lenA, hf]
  have c1 : (!(oneCells (l.map u8)) || !(decide ((len + n) * 1 ≤ 140737488355328)) || !(decide (len + n ≤ 4611686018427387904)) || decide ((l.map u8).length ≠ n * 1)) = false := by
    rw [one_u8, decide_eq_true (by omega), decide_eq_true (by omega), decide_eq_false (by simp; omega)]; rfl
  rw [if_neg (by rw [c1]; decide), if_pos hc, if_neg (by omega)]
  unfold stL
  rw [Nat.zero_add, Nat.mul_one]
  simp only [g]
  rw [if_pos (by
    have h1 : len + (u8s l).length ≤ (A ++ (B ++ C)).length := by rw [List.length_append, List.length_append, List.length_map, hA, hB]; omega
    simp only [decide_eq_true h0, decide_eq_true h1, (u8s_ok l).2, Bool.and_self]), hsp]
  rfl
set_option maxRecDepth 100000 in
/-- key -/
theorem r67 {h : Heap} (hG : 4 ≤ h.n0) {r : RecD} (w : r.Wf) : ∃ a c h', CW 67 [.agg (recC r).toArray] h = some (.slice a 34 c, h') ∧ sliceBytes a 34 h' = some (keyB r) ∧ Old h h' := by
  obtain ⟨h1, b1, o1, g1, n1⟩ := rec_box2 h w
  have m4 : mkR 1 1 (.int .u8 0) (.int .i64 0) (.int .i64 34) h1 = some (.slice (some ⟨h1.next, 0, none⟩) 0 34, h1.alloc (zeros [(.int .u8 0)] 34)) := rfl
  have o2 : Old h1 (h1.alloc (zeros [(.int .u8 0)] 34)) := Kept.alloc _ _ _
  have g2 : (h1.alloc (zeros [(.int .u8 0)] 34)).get h1.next = some ([] ++ ([.int .u8 0] ++ (List.replicate 33 (.int .u8 0)))) := by rw [Heap.get_alloc, if_pos rfl]; rfl
  have n2 : (h1.alloc (zeros [(.int .u8 0)] 34)).next = h1.next + 1 := Heap.next_alloc ..
  generalize h1.alloc (zeros [(.int .u8 0)] 34) = h2 at *
  have G2 := Old.get o2 g1
  have A2 := r_ld w G2
  have b3 := bsl1 h2 r.kind
  have o3 : Old h2 (h2.alloc [u8 r.kind]) := Kept.alloc _ _ _
  have s3 := bytes1 h2 w.kind
  have n3 : (h2.alloc [u8 r.kind]).next = h2.next + 1 := Heap.next_alloc ..
  generalize h2.alloc [u8 r.kind] = h3 at *
  have p1 : h2.n0 ≤ h1.next := by rw [o2.n0]; exact h1.n0_le_next
  have p3 : h3.n0 ≤ h1.next := by rw [o3.n0]; exact p1
  obtain ⟨h4, e4, k4, g4, n4⟩ := app_cap (cap := 34) (s := none) (c := 1) (len := 0) (Old.get o3 g2) p3 rfl rfl s3 (by decide) (by decide) (by decide)
  have hne : ¬ (h.next = h1.next) := by omega
  have G4 : h4.get h.next = some (recC r) := Kept.getE k4 (Old.get o3 G2) hne
  have A4 := r_ld w G4
  have ha := arr32 h.next 1
  have p4 : h4.n0 ≤ h1.next := by rw [k4.n0]; exact p3
  have g4 : h4.get h1.next = some (u8s [r.kind] ++ (List.replicate 32 (.int .u8 0) ++ [.int .u8 0])) := g4.trans rfl
  obtain ⟨h5, e5, k5, g5, n5⟩ := app_cap (cap := 34) (s := none) (c := 32) (len := 1) g4 p4 rfl rfl (obj_sl w G4) (by decide) (by decide) (by decide)
  have G5 : h5.get h.next = some (recC r) := Kept.getE k5 G4 hne
  have A5 := r_ld w G5
  have cv1 := cv8i .i64 r.holder h5
  have b6 := bsl1 h5 (i8 r.holder)
  have o6 : Old h5 (h5.alloc [u8 (i8 r.holder)]) := Kept.alloc _ _ _
  have s6 := bytes1 h5 (i8_lt r.holder)
  generalize h5.alloc [u8 (i8 r.holder)] = h6 at *
  have p6 : h6.n0 ≤ h1.next := by rw [o6.n0, k5.n0]; exact p4
  have g5 : h5.get h1.next = some ((u8s [r.kind] ++ u8s r.obj) ++ ([.int .u8 0] ++ [])) := by rw [g5]; simp
  obtain ⟨h7, e7, k7, g7, n7⟩ := app_cap (cap := 34) (s := none) (c := 1) (len := 33) (Old.get o6 g5) p6 (by simp [w.obj.1]) rfl s6 (by decide) (by decide) (by decide)
  have O3 : Old h h3 := (o1.trans o2).trans o3
  have hd : h.next ≤ h1.next := by omega
  have O4 : Old h h4 := Old.of_new O3 k4 hd
  have O5 : Old h h5 := Old.of_new O4 k5 hd
  have O7 : Old h h7 := Old.of_new (O5.trans o6) k7 hd
  have g7 : h7.get h1.next = some (u8s (keyB r)) := by rw [g7]; simp [keyB]
  refine ⟨some ⟨h1.next, 0, none⟩, 34, h7, CW_body is67 hG rfl ((t67_eq _ _ _).trans ?_), ?_, O7⟩
  · unfold t67
    have e4 : appendA 1 1 (.slice (some ⟨h1.next, 0, none⟩) 0 34) (.slice (some ⟨h2.next, 0, none⟩) 1 1) h3 = some (.slice (some ⟨h1.next, 0, none⟩) 1 34, h4) := e4
    have e5 : appendA 1 1 (.slice (some ⟨h1.next, 0, none⟩) 1 34) (.slice (some ⟨h.next, 1, none⟩) 32 32) h4 = some (.slice (some ⟨h1.next, 0, none⟩) 33 34, h5) := e5
    have e7 : appendA 1 1 (.slice (some ⟨h1.next, 0, none⟩) 33 34) (.slice (some ⟨h5.next, 0, none⟩) 1 1) h6 = some (.slice (some ⟨h1.next, 0, none⟩) 34 34, h7) := e7
    simp -implicitDefEqProofs only [b1, m4, A2.l0, b3, e4, ha, e5, A5.l33, cv1, b6, e7, thenV_some, pu_some, addP_ptr, Nat.zero_add]
  · have := sliceBytes_at (off := 0) (n := 34) (s := none) g7 (by rw [keyB_len w]; decide) (keyB_bys w)
    rw [this, List.drop_zero, List.take_of_length_le (by rw [keyB_len w]; decide)]
set_option maxRecDepth 100000 in
/-- Key -/
theorem r27 {h : Heap} (hG : 4 ≤ h.n0) {r : RecD} (w : r.Wf) : (recB r = true → ∃ a c h', CW 27 [.agg (recC r).toArray] h = some (.tuple #[.slice a 34 c, .int .i64 0], h') ∧ sliceBytes a 34 h' = some (keyB r) ∧ Old h h') ∧
    (recB r = false → ∃ h', CW 27 [.agg (recC r).toArray] h = some (.tuple #[.slice none 0 0, .int .i64 2], h') ∧ Old h h') := by
  obtain ⟨h1, b1, o1, g1, n1⟩ := rec_box2 h w
  have L1 := ldN_all g1 (rec_cells w).1 (rec_cells w).2.1
  obtain ⟨h2, e2, o2⟩ := r42 (h := h1) (by rw [o1.n0]; exact hG) w
  have O2 := o1.trans o2
  have L2 := ldN_all (o2.get g1) (rec_cells w).1 (rec_cells w).2.1
  refine ⟨fun v => ?_, fun v => ?_⟩
  · rw [v] at e2
    obtain ⟨a, c, h3, e3, s3, o3⟩ := r67 (h := h2) (by rw [O2.n0]; exact hG) w
    refine ⟨a, c, h3, CW_body is27 hG rfl ((t27_eq _ _ _).trans ?_), s3, O2.trans o3⟩
    unfold t27
    simp -implicitDefEqProofs only [b1, L1, e2, L2, e3, unA_not, Bool.not_true, thenV_some, pu_some]
  · rw [v] at e2
    refine ⟨h2, CW_body is27 hG rfl ((t27_eq _ _ _).trans ?_), O2⟩
    unfold t27
    simp -implicitDefEqProofs only [b1, L1, e2, unA_not, Bool.not_false, thenV_some, pu_some]
theorem cvSB_at (h : Heap) {l : List Nat} (hb : Bys l) (hl : l.length ≤ 100000) : cvSB (.string (strOf l)) h = some (.slice (some ⟨h.next, 0, some 1⟩) l.length l.length, h.alloc (u8s l)) := by
  have e : ((strOf l).data.toList.map fun b => Value.int .u8 b.toNat) = u8s l := by
    unfold strOf
    rw [List.map_map]
    refine List.map_congr_left fun x hx => ?_
    have := hb x hx
    show Value.int .u8 (((UInt8.ofNat x).toNat : Nat) : Int) = _
    rw [UInt8.toNat_ofNat_of_lt' (by simpa using this)]
  unfold cvSB
  simp only [strOf_size]
  rw [if_pos (by omega), e]
set_option maxRecDepth 100000 in
/-- Key, of the document -/
theorem r45 {h : Heap} (hG : 4 ≤ h.n0) (hz : GZ h) {r : RecD} (w : r.Wf) : (recB r = true → ∃ a c h', CW 45 [.agg (recC r).toArray] h = some (.tuple #[.slice a 34 c, .int .i64 0], h') ∧ sliceBytes a 34 h' = some (keyB r) ∧ Old h h') ∧
    (recB r = false → ∃ h', CW 45 [.agg (recC r).toArray] h = some (.tuple #[.slice none 0 0, .int .i64 2], h') ∧ Old h h') := by
  obtain ⟨h1, b1, o1, g1, n1⟩ := rec_box2 h w
  have L1 := ldN_all g1 (rec_cells w).1 (rec_cells w).2.1
  obtain ⟨h2, e2, o2⟩ := r48 (h := h1) (by rw [o1.n0]; exact hG) (hz.old o1) w
  have O2 := o1.trans o2
  have L2 := ldN_all (o2.get g1) (rec_cells w).1 (rec_cells w).2.1
  refine ⟨fun v => ?_, fun v => ?_⟩
  · rw [v] at e2
    obtain ⟨h3, e3, o3⟩ := r59 (h := h2) (by rw [O2.n0]; exact hG) w
    have e4 := cvSB_at h3 (keyB_bys w) (by rw [keyB_len w]; decide)
    have s4 := sliceBytes_at (h := h3.alloc (u8s (keyB r))) (off := 0) (n := 34) (s := some 1) (by rw [Heap.get_alloc, if_pos rfl]) (by rw [keyB_len w]; decide) (keyB_bys w)
    rw [List.drop_zero, List.take_of_length_le (by rw [keyB_len w]; decide)] at s4
    rw [keyB_len w] at e4
    have o4 : Old h3 (h3.alloc (u8s (keyB r))) := Kept.alloc _ _ _
    refine ⟨some ⟨h3.next, 0, some 1⟩, 34, h3.alloc (u8s (keyB r)), CW_body is45 hG rfl ((t45_eq _ _ _).trans ?_), s4, (O2.trans o3).trans o4⟩
    unfold t45
    simp -implicitDefEqProofs only [b1, L1, e2, L2, e3, e4, unA_not, Bool.not_true, thenV_some, pu_some]
  · rw [v] at e2
    refine ⟨h2, CW_body is45 hG rfl ((t45_eq _ _ _).trans ?_), O2⟩
    unfold t45
    simp -implicitDefEqProofs only [b1, L1, e2, unA_not, Bool.not_false, thenV_some, pu_some]
set_option maxRecDepth 100000 in
theorem r43n {h : Heap} (hG : 4 ≤ h.n0) {r : RecD} (w : r.Wf) (v : recB r = false) : ∃ h', CW 43 [.agg (recC r).toArray] h = some (.tuple #[.slice none 0 0, .int .i64 2], h') ∧ Old h h' := by
  obtain ⟨h1, b1, o1, g1, n1⟩ := rec_box2 h w
  have L1 := ldN_all g1 (rec_cells w).1 (rec_cells w).2.1
  obtain ⟨h2, e2, o2⟩ := r42 (h := h1) (by rw [o1.n0]; exact hG) w
  rw [v] at e2
  refine ⟨h2, CW_body is43 hG rfl ((t43_eq _ _ _).trans ?_), o1.trans o2⟩
  unfold t43
  simp -implicitDefEqProofs only [b1, L1, e2, unA_not, Bool.not_false, thenV_some, pu_some]
set_option maxRecDepth 100000 in
theorem r46n {h : Heap} (hG : 4 ≤ h.n0) (hz : GZ h) {r : RecD} (w : r.Wf) (v : recB r = false) : ∃ h', CW 46 [.agg (recC r).toArray] h = some (.tuple #[.slice none 0 0, .int .i64 2], h') ∧ Old h h' := by
  obtain ⟨h1, b1, o1, g1, n1⟩ := rec_box2 h w
  have L1 := ldN_all g1 (rec_cells w).1 (rec_cells w).2.1
  obtain ⟨h2, e2, o2⟩ := r48 (h := h1) (by rw [o1.n0]; exact hG) (hz.old o1) w
  rw [v] at e2
  refine ⟨h2, CW_body is46 hG rfl ((t46_eq _ _ _).trans ?_), o1.trans o2⟩
  unfold t46
  simp -implicitDefEqProofs only [b1, L1, e2, unA_not, Bool.not_false, thenV_some, pu_some]
end Go.Proofs.YtdnahgfgoajmcaaDoor

namespace Go.Proofs.YtdnahgfgoajmcaaDoor
open Go Go.Abs
attribute [local congr] thenV_congr
def cmpI (a b : Int) : Int := if a < b then -1 else if b < a then 1 else 0
def orL : List Int → Int
  | [] => 0
  | x :: l => if x = 0 then orL l else x
theorem is137 : IsFn Tryd.prog 137 Tryd.f137 := ⟨by kernel_rfl, by kernel_rfl, by kernel_rfl, by kernel_rfl⟩
theorem is138 : IsFn Tryd.prog 138 Tryd.f138 := ⟨by kernel_rfl, by kernel_rfl, by kernel_rfl, by kernel_rfl⟩
theorem is115 : IsFn Tryd.prog 115 Tryd.f115 := ⟨by kernel_rfl, by kernel_rfl, by kernel_rfl, by kernel_rfl⟩
theorem is116 : IsFn Tryd.prog 116 Tryd.f116 := ⟨by kernel_rfl, by kernel_rfl, by kernel_rfl, by kernel_rfl⟩
theorem is114 : IsFn Tryd.prog 114 Tryd.f114 := ⟨by kernel_rfl, by kernel_rfl, by kernel_rfl, by kernel_rfl⟩
theorem is63 : IsFn Tryd.prog 63 Tryd.f63 := ⟨by kernel_rfl, by kernel_rfl, by kernel_rfl, by kernel_rfl⟩
theorem is62 : IsFn Tryd.prog 62 Tryd.f62 := ⟨by kernel_rfl, by kernel_rfl, by kernel_rfl, by kernel_rfl⟩
theorem is30 : IsFn Tryd.prog 30 Tryd.f30 := ⟨by kernel_rfl, by kernel_rfl, by kernel_rfl, by kernel_rfl⟩
theorem r137 {h : Heap} (hG : 4 ≤ h.n0) (a : Int) : CW 137 [.int .u64 a] h = some (.bool false, h) := by
  refine CW_body is137 hG rfl ((t137_eq _ _ _).trans ?_)
  unfold t137
  simp -implicitDefEqProofs only [bin_neq, bne_self_eq_false, thenV_some, pu_some]
theorem r138 {h : Heap} (hG : 4 ≤ h.n0) (a : Int) : CW 138 [.int .i64 a] h = some (.bool false, h) := by
  refine CW_body is138 hG rfl ((t138_eq _ _ _).trans ?_)
  unfold t138
  simp -implicitDefEqProofs only [bin_neq, bne_self_eq_false, thenV_some, pu_some]
theorem r115 {h : Heap} (hG : 4 ≤ h.n0) (a b : Int) : CW 115 [.int .u64 a, .int .u64 b] h = some (.int .i64 (cmpI a b), h) := by
  refine CW_body is115 hG rfl ((t115_eq _ _ _ _).trans ?_)
  unfold t115 cmpI
  simp -implicitDefEqProofs only [r137 hG, bin_lss, bin_gtr, thenV_some, pu_some]
  by_cases h1 : a < b
  · simp -implicitDefEqProofs only [decide_eq_true h1, if_pos h1]
  · simp -implicitDefEqProofs only [decide_eq_false h1, if_neg h1]
    by_cases h2 : b < a
    · have h2' : a > b := h2
      simp -implicitDefEqProofs only [decide_eq_true h2', if_pos h2]
    · have h2' : ¬ a > b := h2
      simp -implicitDefEqProofs only [decide_eq_false h2', if_neg h2]
theorem r116 {h : Heap} (hG : 4 ≤ h.n0) (a b : Int) : CW 116 [.int .i64 a, .int .i64 b] h = some (.int .i64 (cmpI a b), h) := by
  refine CW_body is116 hG rfl ((t116_eq _ _ _ _).trans ?_)
  unfold t116 cmpI
  simp -implicitDefEqProofs only [r138 hG, bin_lss, bin_gtr, thenV_some, pu_some]
  by_cases h1 : a < b
  · simp -implicitDefEqProofs only [decide_eq_true h1, if_pos h1]
  · simp -implicitDefEqProofs only [decide_eq_false h1, if_neg h1]
    by_cases h2 : b < a
    · have h2' : a > b := h2
      simp -implicitDefEqProofs only [decide_eq_true h2', if_pos h2]
    · have h2' : ¬ a > b := h2
      simp -implicitDefEqProofs only [decide_eq_false h2', if_neg h2]
theorem results114 : Tryd.f114.results.toList = [.tmp 2] := by kernel_rfl
/-- Or, of five numbers. -/
theorem r114 {h : Heap} (hG : 4 ≤ h.n0) {b : Nat} {vs : List Int} (hl : vs.length = 5) (g : h.get b = some (vs.map (.int .i64))) : CW 114 [.slice (some ⟨b, 0, none⟩) 5 5] h = some (.int .i64 (orL vs), h) := by
  have hll : lenL (.slice (some ⟨b, 0, none⟩) 5 5) = some (i64n 5) := rfl
  refine CW_body is114 hG rfl ((t114_eq _ _ _).trans ?_)
  unfold t114
  simp -implicitDefEqProofs only [hll, thenV_some, pu_some]
  refine endL_fin (n := 18) (fin := fun ex y g => g = h ∧ ((ex = .ret ∧ y 2 = .int .i64 (orL vs)) ∨ (ex = .exit 0 ∧ y 3 = .int .i64 0 ∧ orL vs = 0))) (Q := fun o : Out => o = some (Value.int .i64 (orL vs), h))
    (loop_fin (t114l114_11010_eq CW) (Inv := fun k y g => ∃ i, i + k = 5 ∧ y 3 = .int .i64 0 ∧ y 6 = .slice (some ⟨b, 0, none⟩) 5 5 ∧ y 7 = i64n 5 ∧ y 8 = i64n i ∧ g = h ∧ orL vs = orL (vs.drop i)) ?_ 5 (by have : rounds = 18446744073709551616 := rfl; omega) ⟨0, Nat.zero_add _, rfl, rfl, rfl, rfl, rfl, rfl⟩) ?_
  · rintro k y g' ⟨i, hik, y3, y6, y7, y8, rfl, ho⟩
    unfold t114l114_11010
    simp -implicitDefEqProofs only [y3, y6, y7, y8, lss3]
    by_cases hi : i < 5
    · have hx : idxS 1 (.slice (some ⟨b, 0, none⟩) 5 5) (i64n i) = some (ptr b i) := by
        unfold idxS
        simp only []
        rw [if_pos (by omega), Int.toNat_natCast, Nat.mul_one, Nat.zero_add]
      have hv : vs[i]? = some vs[i] := List.getElem?_eq_getElem (by omega)
      have hd : ld1 (ptr b i) g' = some (.int .i64 vs[i], g') := ld1_at g (by rw [List.getElem?_map, hv]; rfl) rfl
      have hdr : vs.drop i = vs[i] :: vs.drop (i + 1) := List.drop_eq_getElem_cons (by omega)
      by_cases hz : vs[i] = 0
      · have hb : (vs[i] != 0) = false := by rw [hz]; rfl
        simp -implicitDefEqProofs only [decide_eq_true hi, hx, hd, bin_neq, hb, add31 (show i + 1 ≤ 9223372036854775807 by omega), thenV_some, pu_some]
        refine Rnd.next (k - 1) (by omega) ⟨i + 1, by omega, y3, y6, y7, rfl, rfl, ?_⟩
        rw [ho, hdr, orL, if_pos hz]
      · have hb : (vs[i] != 0) = true := by simpa using hz
        simp -implicitDefEqProofs only [decide_eq_true hi, hx, hd, bin_neq, hb, thenV_some, pu_some]
        refine Rnd.ret ⟨rfl, .inl ⟨rfl, ?_⟩⟩
        rw [ho, hdr, orL, if_neg hz]
        rfl
    · simp -implicitDefEqProofs only [decide_eq_false hi, thenV_some, pu_some]
      refine Rnd.out 0 ⟨rfl, .inr ⟨rfl, y3, ?_⟩⟩
      rw [ho, List.drop_eq_nil_of_le (by omega)]
      rfl
  · rintro ex z g' ⟨rfl, ⟨rfl, z2⟩ | ⟨rfl, z3, hz⟩⟩
    · rw [endL_ret, res_one results114 (by decide), z2]
    · simp -implicitDefEqProofs only [endL_exit, b114_4, if_true, t114k114_2_eq]
      unfold t114k114_2
      rw [z3, hz]
      rfl
theorem fill_int {A C : List Value} {o : Nat} {x : Value} {k : IntKind} {n : Int} {rest : List (Nat × Nat × Value)} (hA : A.length = o) : fillL (A ++ ([x] ++ C)) ((o, 1, .int k n) :: rest) = fillL (A ++ ([.int k n] ++ C)) rest := by
  have hc : (Value.int k n).cells = #[.int k n] := rfl
  simp only [fillL, hc]
  rw [if_pos (by
    have : o + 1 ≤ (A ++ ([x] ++ C)).length := by rw [List.length_append, List.length_append, hA]; simp
    simp only [decide_eq_true this]
    rfl), splice_app (B := [x]) (B' := [.int k n]) (C := C) hA rfl rfl]
theorem chkF (r : Out) (v : Value) : chkR false r v = true := rfl
theorem veqL_self : ∀ {l : List Value}, (∀ v ∈ l, ∃ k : Kd, k.has v) → veqL l l = true
  | [], _ => rfl
  | v :: l, h => by
    simp only [veqL, Bool.and_eq_true]
    refine ⟨?_, veqL_self fun w hw => h w (List.mem_cons_of_mem _ hw)⟩
    obtain ⟨k, hk⟩ := h v List.mem_cons_self
    cases k with
    | u8 => obtain ⟨n, rfl, _⟩ := hk; simp [veq]
    | i k => obtain ⟨n, rfl, _⟩ := hk; simp [veq]
    | b => obtain ⟨t, rfl⟩ := hk; simp [veq]
theorem Typed.kinds {ks : List Kd} {cs : List Value} (h : Typed ks cs) : ∀ v ∈ cs, ∃ k : Kd, k.has v := by
  intro v hv
  obtain ⟨j, hj⟩ := List.mem_iff_getElem?.1 hv
  have hlt := (List.getElem?_eq_some_iff.1 hj).1
  rw [h.1] at hlt
  obtain ⟨w, hw, hk⟩ := h.2 j _ (List.getElem?_eq_getElem hlt)
  rw [hj] at hw
  cases hw
  exact ⟨_, hk⟩
theorem chk_agg (l : List Value) (g : Heap) (h : ∀ v ∈ l, ∃ k : Kd, k.has v) : chkR true (some (.agg l.toArray, g)) (.agg l.toArray) = true := by
  show (!true || veq (.agg ⟨l⟩) (.agg ⟨l⟩)) = true
  simp only [Bool.not_true, Bool.false_or, veq]
  exact veqL_self h
/-- What compare returns. -/
def cmpR (a b : RecD) : Int := orL [cmpI a.inc b.inc, cmpI a.num b.num, (if a.held = b.held then 0 else if a.held then 1 else -1), cmpI a.k b.k, cmpI a.n b.n]
theorem bsl5 (h : Heap) (a b c d e : Int) : bslR 1 (.int .i64 0) 5 [(0, .int .i64 a), (1, .int .i64 b), (2, .int .i64 c), (3, .int .i64 d), (4, .int .i64 e)] h = some (.slice (some ⟨h.next, 0, none⟩) 5 5, h.alloc ([a, b, c, d, e].map (.int .i64))) := rfl
theorem neq_bool (a b : Bool) : bin Tryd.prog .neq 4 (.bool a) (.bool b) = some (.bool (a != b)) := by cases a <;> cases b <;> kernel_rfl
set_option maxRecDepth 100000 in
/-- compare -/
theorem r63 {h : Heap} (hG : 4 ≤ h.n0) {a b : RecD} (wa : a.Wf) (wb : b.Wf) : ∃ h', CW 63 [.agg (recC a).toArray, .agg (recC b).toArray] h = some (.int .i64 (cmpR a b), h') ∧ Old h h' := by
  obtain ⟨h1, b1, o1, g1, n1⟩ := rec_box2 h wa
  obtain ⟨h2, b2, o2, g2, n2⟩ := rec_box2 h1 wb
  have A := r_ld wa (o2.get g1)
  have B := r_ld wb g2
  have G2 : 4 ≤ h2.n0 := by rw [o2.n0, o1.n0]; exact hG
  have G3 : ∀ k : Blk, 4 ≤ (h2.alloc k).n0 := fun k => G2
  have e14 := fun c : Int => r114 (h := h2.alloc ([cmpI a.inc b.inc, cmpI a.num b.num, c, cmpI a.k b.k, cmpI a.n b.n].map (.int .i64))) (G3 _) (b := h2.next) (vs := [cmpI a.inc b.inc, cmpI a.num b.num, c, cmpI a.k b.k, cmpI a.n b.n]) rfl (by rw [Heap.get_alloc, if_pos rfl])
  have o3 := fun c : Int => (show Old h2 (h2.alloc ([cmpI a.inc b.inc, cmpI a.num b.num, c, cmpI a.k b.k, cmpI a.n b.n].map (.int .i64))) from Kept.alloc _ _ _)
  unfold cmpR
  cases qa : a.held <;> cases qb : b.held
  · refine ⟨_, CW_body is63 hG rfl ((t63_eq _ _ _ _).trans ?_), (o1.trans o2).trans (o3 0)⟩
    unfold t63
    simp -implicitDefEqProofs only [b1, b2, addP_ptr, Nat.zero_add, A.l36, B.l36, A.l34, B.l34, A.l35, B.l35, A.l37, B.l37, A.l38, B.l38, qa, qb, neq_bool, bne_self_eq_false, r115 G2, r116 G2, bsl5, e14, chkI, Bool.and_self, Bool.and_true, thenV_some, pu_some, if_true]
  · refine ⟨_, CW_body is63 hG rfl ((t63_eq _ _ _ _).trans ?_), (o1.trans o2).trans (o3 (-1))⟩
    unfold t63
    simp -implicitDefEqProofs only [b1, b2, addP_ptr, Nat.zero_add, A.l36, B.l36, A.l34, B.l34, A.l35, B.l35, A.l37, B.l37, A.l38, B.l38, qa, qb, neq_bool, show (false != true) = true from rfl, r115 G2, r116 G2, bsl5, e14, chkI, Bool.and_self, Bool.and_true, thenV_some, pu_some]
    rfl
  · refine ⟨_, CW_body is63 hG rfl ((t63_eq _ _ _ _).trans ?_), (o1.trans o2).trans (o3 1)⟩
    unfold t63
    simp -implicitDefEqProofs only [b1, b2, addP_ptr, Nat.zero_add, A.l36, B.l36, A.l34, B.l34, A.l35, B.l35, A.l37, B.l37, A.l38, B.l38, qa, qb, neq_bool, show (true != false) = true from rfl, r115 G2, r116 G2, bsl5, e14, chkI, Bool.and_self, Bool.and_true, thenV_some, pu_some, if_true]
    rfl
  · refine ⟨_, CW_body is63 hG rfl ((t63_eq _ _ _ _).trans ?_), (o1.trans o2).trans (o3 0)⟩
    unfold t63
    simp -implicitDefEqProofs only [b1, b2, addP_ptr, Nat.zero_add, A.l36, B.l36, A.l34, B.l34, A.l35, B.l35, A.l37, B.l37, A.l38, B.l38, qa, qb, neq_bool, bne_self_eq_false, r115 G2, r116 G2, bsl5, e14, chkI, Bool.and_self, Bool.and_true, thenV_some, pu_some, if_true]
/-- The cells of a record's place. -/
def atC (r : RecD) : List Value := .int .u8 (r.kind : Int) :: (u8s r.obj ++ [.int .i64 r.holder])
def atK : List Kd := .u8 :: (List.replicate 32 .u8 ++ [.i .i64])
theorem at_typed {r : RecD} (h : r.Wf) : Typed atK (atC r) := (Typed.one (k := .u8) ⟨_, rfl, h.kind⟩).app ((dig_typed h.obj).app (Typed.one (k := .i .i64) ⟨_, rfl, wf_i64.2 h.holder⟩))
abbrev zat : List Value := [(.int .u8 0), (.int .u8 0), (.int .u8 0), (.int .u8 0), (.int .u8 0), (.int .u8 0), (.int .u8 0), (.int .u8 0), (.int .u8 0), (.int .u8 0), (.int .u8 0), (.int .u8 0), (.int .u8 0), (.int .u8 0), (.int .u8 0), (.int .u8 0), (.int .u8 0), (.int .u8 0), (.int .u8 0), (.int .u8 0), (.int .u8 0), (.int .u8 0), (.int .u8 0), (.int .u8 0), (.int .u8 0), (.int .u8 0), (.int .u8 0), (.int .u8 0), (.int .u8 0), (.int .u8 0), (.int .u8 0), (.int .u8 0), (.int .u8 0), (.int .i64 0)]
theorem bld_at {r : RecD} (w : r.Wf) : bldR zat [(0, 1, .int .u8 (r.kind : Int)), (1, 32, .agg (u8s r.obj).toArray), (33, 1, .int .i64 r.holder)] = some (.agg (atC r).toArray) := by
  have e : fillL zat [(0, 1, .int .u8 (r.kind : Int)), (1, 32, .agg (u8s r.obj).toArray), (33, 1, .int .i64 r.holder)] = fillL ([.int .u8 (r.kind : Int)] ++ (u8s z32 ++ [.int .i64 0])) [(1, 32, .agg (u8s r.obj).toArray), (33, 1, .int .i64 r.holder)] := rfl
  unfold bldR
  rw [e, fill_mid (A := [.int .u8 (r.kind : Int)]) (B := u8s z32) (o := 1) (n := 32) rfl rfl rfl (by rw [List.length_map]; exact w.obj.1)]
  have e2 : fillL ([.int .u8 (r.kind : Int)] ++ (u8s r.obj ++ [.int .i64 0])) [(33, 1, .int .i64 r.holder)] = some (atC r) := by
    have e3 : ([.int .u8 (r.kind : Int)] ++ (u8s r.obj ++ [Value.int .i64 0])) = (([.int .u8 (r.kind : Int)] ++ u8s r.obj) ++ ([Value.int .i64 0] ++ [])) := by simp
    rw [e3, fill_int (by simp [w.obj.1])]
    show some _ = some _
    simp [atC]
  rw [e2]
  rfl
theorem atC_len {r : RecD} (w : r.Wf) : (atC r).length = 34 := (at_typed w).1
theorem agg101 : aggT Tryd.prog 101 = some true := by kernel_rfl
theorem siz101 : sizeT Tryd.prog 101 = some 34 := by kernel_rfl
theorem results62 : Tryd.f62.results.toList = [.cell 2 101] := by kernel_rfl
theorem res_cell {rs : List ResultVar} {n k t z : Nat} (hr : rs = [.cell k t]) (h1 : aggT Tryd.prog t = some true) (h2 : sizeT Tryd.prog t = some z) (hk : k < n) (x : Nat → Value) {h : Heap} {v : Value} (e : ldN z (x k) h = some (v, h)) : resultsA Tryd.prog rs (mkF n x) h = some (v, h) := by
  subst hr
  simp only [resultsA, resultA, getD_mkF hk, ld_agg h1 h2, e]
  rfl
set_option maxRecDepth 100000 in
/-- at -/
theorem r62 {h : Heap} (hG : 4 ≤ h.n0) {r : RecD} (w : r.Wf) : ∃ h', CW 62 [.agg (recC r).toArray] h = some (.agg (atC r).toArray, h') ∧ Old h h' := by
  obtain ⟨h1, b1, o1, g1, n1⟩ := rec_box2 h w
  obtain ⟨h2, z2, o2, g2, n2⟩ := fresh zat h1
  have A := r_ld w (o2.get g1)
  have ta := at_typed w
  obtain ⟨h3, e3, k3, g3, _, _⟩ := stored_all (n := 34) (k' := atC r) g2 (by rw [o2.n0]; exact h1.n0_le_next) rfl (atC_len w) ta.all.2.1
  have o3 : Old h1 h3 := Old.of_new o2 k3 (Nat.le_refl _)
  have l3 := ldN_all g3 (atC_len w) ta.all.1
  refine ⟨h3, CW_body is62 hG rfl ((t62_eq _ _ _).trans ?_), o1.trans o3⟩
  unfold t62
  simp -implicitDefEqProofs only [b1, z2, addP_ptr, Nat.zero_add, A.l0, A.l1, A.l33, bld_at w, e3, thenV_some, pu_some]
  exact res_cell results62 agg101 siz101 (show 2 < 10 by decide) _ l3
theorem at_at {x y : Value} {o : List Value} (ho : o.length = 32) : (x :: (o ++ [y])).toArray[33]? = some y := by
  rw [List.getElem?_toArray, show 33 = 32 + 1 from rfl, List.getElem?_cons_succ, List.getElem?_append_right (by omega), ho]
  rfl
/-- Whether two places are equal. -/
def atB (a b : RecD) : Bool := decide (a.kind = b.kind) && (decide (a.obj = b.obj) && decide (a.holder = b.holder))
theorem eq101 {a b : RecD} (wa : a.Wf) (wb : b.Wf) : bin Tryd.prog .eql 101 (.agg (atC a).toArray) (.agg (atC b).toArray) = some (.bool (atB a b)) := by
  obtain ⟨r, hr, hrun⟩ := dig_run (d := 9997) (dig_typed wa.obj) (dig_typed wb.obj)
  have l1 : (u8s a.obj).length = 32 := by rw [List.length_map]; exact wa.obj.1
  have l2 : (u8s b.obj).length = 32 := by rw [List.length_map]; exact wb.obj.1
  have hr' : r = decide (a.obj = b.obj) := by
    by_cases e : a.obj = b.obj
    · rw [decide_eq_true e, hr.2 (by rw [e])]
    · rw [decide_eq_false e]
      cases r with
      | false => rfl
      | true => exact absurd (u8s_inj (hr.1 rfl)) e
  have hp : pureRun Tryd.prog (Op.equalIn 10000 101 (.agg (atC a).toArray) (.agg (atC b).toArray)) = some (atB a b) := by
    unfold atC
    rw [pr_eq_struct (P := Tryd.prog) (d := 9999) Tryd.underlying101 (by kernel_rfl)]
    simp only [eqF]
    rw [if_pos (by decide), if_pos (by decide), if_pos (by decide)]
    rw [pr_part_int (v := .int .u8 (a.kind : Int)) Tryd.underlying56 rfl, pr_part_int (v := .int .u8 (b.kind : Int)) Tryd.underlying56 rfl, pr_part_arr Tryd.underlying35 size32, pr_part_arr Tryd.underlying35 size32, rec_obj l1, rec_obj l2]
    rw [pr_part_int (v := .int .i64 a.holder) Tryd.underlying3 (at_at l1), pr_part_int (v := .int .i64 b.holder) Tryd.underlying3 (at_at l2)]
    simp only [Option.bind_some, pr_eq_int (d := 9998) Tryd.underlying56, pr_eq_int (d := 9998) Tryd.underlying3, hrun, hr']
    unfold atB
    by_cases e1 : a.kind = b.kind <;> by_cases e2 : a.obj = b.obj <;> by_cases e3 : a.holder = b.holder <;> simp [e1, e2, e3]
    all_goals omega
  exact (bin_agg (by kernel_rfl) (ground_agg (at_typed wa).all.2.2) (ground_agg (at_typed wb).all.2.2) hp).1
/-- What Newer returns. -/
def newerB (a b : RecD) : Bool := recB a && (recB b && (atB a b && decide (cmpR a b > 0)))
set_option maxRecDepth 100000 in
/-- Newer -/
theorem r30 {h : Heap} (hG : 4 ≤ h.n0) {a b : RecD} (wa : a.Wf) (wb : b.Wf) : ∃ h', CW 30 [.agg (recC a).toArray, .agg (recC b).toArray] h = some (.bool (newerB a b), h') ∧ Old h h' := by
  obtain ⟨h1, b1, o1, g1, n1⟩ := rec_box2 h wa
  obtain ⟨h2, b2, o2, g2, n2⟩ := rec_box2 h1 wb
  have ca := rec_cells wa
  have cb := rec_cells wb
  have LA : ∀ g, Old h2 g → ldN 39 (ptr h.next 0) g = some (.agg (recC a).toArray, g) := fun g o => ldN_all (Old.get o (o2.get g1)) ca.1 ca.2.1
  have LB : ∀ g, Old h2 g → ldN 39 (ptr h1.next 0) g = some (.agg (recC b).toArray, g) := fun g o => ldN_all (Old.get o g2) cb.1 cb.2.1
  have O2 := o1.trans o2
  have G2 : ∀ g, Old h2 g → 4 ≤ g.n0 := fun g o => by rw [o.n0, O2.n0]; exact hG
  have R2 : Old h2 h2 := Kept.refl _ _
  have chkA : ∀ (r : RecD) (g : Heap), r.Wf → chkR true (some (.agg (recC r).toArray, g)) (.agg (recC r).toArray) = true := fun r g w => chk_agg _ _ (rec_typed w).kinds
  obtain ⟨h3, e3, o3⟩ := r42 (h := h2) (G2 _ R2) wa
  unfold newerB
  cases va : recB a with
  | false =>
    rw [va] at e3
    refine ⟨h3, CW_body is30 hG rfl ((t30_eq _ _ _ _).trans ?_), O2.trans o3⟩
    unfold t30
    simp -implicitDefEqProofs only [b1, b2, LA h2 R2, e3, bOf_bool, fs, guardK_false, chkF, Bool.false_eq_true, if_false, Bool.and_true, Bool.false_and, thenV_some]
  | true =>
    rw [va] at e3
    obtain ⟨h4, e4, o4⟩ := r42 (h := h3) (G2 _ o3) wb
    have O4 := o3.trans o4
    cases vb : recB b with
    | false =>
      rw [vb] at e4
      refine ⟨h4, CW_body is30 hG rfl ((t30_eq _ _ _ _).trans ?_), O2.trans O4⟩
      unfold t30
      simp -implicitDefEqProofs only [b1, b2, LA h2 R2, e3, LB h3 o3, e4, bOf_bool, fs, beq_self_eq_true, guardK_true, guardK_false, chkF, Bool.false_eq_true, if_false, if_true, Bool.and_true, Bool.false_and, Bool.true_and, thenV_some]
    | true =>
      rw [vb] at e4
      obtain ⟨h5, e5, o5⟩ := r62 (h := h4) (G2 _ O4) wa
      have O5 := O4.trans o5
      obtain ⟨h6, e6, o6⟩ := r62 (h := h5) (G2 _ O5) wb
      have O6 := O5.trans o6
      have q6 := eq101 wa wb
      cases vc : atB a b with
      | false =>
        rw [vc] at q6
        refine ⟨h6, CW_body is30 hG rfl ((t30_eq _ _ _ _).trans ?_), O2.trans O6⟩
        unfold t30
        simp -implicitDefEqProofs only [b1, b2, LA h2 R2, e3, LB h3 o3, e4, LA h4 O4, e5, LB h4 O4, LB h5 O5, e6, q6, chkA b _ wb, bOf_bool, fs, beq_self_eq_true, guardK_true, guardK_false, Bool.false_eq_true, if_false, if_true, Bool.and_true, Bool.false_and, Bool.true_and, thenV_some, pu_some]
      | true =>
        rw [vc] at q6
        obtain ⟨h7, e7, o7⟩ := r63 (h := h6) (G2 _ O6) wa wb
        refine ⟨h7, CW_body is30 hG rfl ((t30_eq _ _ _ _).trans ?_), O2.trans (O6.trans o7)⟩
        unfold t30
        simp -implicitDefEqProofs only [b1, b2, LA h2 R2, e3, LB h3 o3, e4, LA h4 O4, e5, LB h4 O4, LB h5 O5, e6, q6, LA h6 O6, LB h6 O6, e7, bin_gtr, chkA b _ wb, bOf_bool, beq_self_eq_true, guardK_true, if_true, Bool.and_true, Bool.true_and, thenV_some, pu_some]
end Go.Proofs.YtdnahgfgoajmcaaDoor

