/-
  Arguments as data: kinds of cells, slices; the digest's table as it is laid.
  Conditions: the argument can be read as data.
-/
import Derived.Test.YtdhpgacmgebjdaaGreatDoorG14
import Derived.ProofKit
import Derived.OpenShut
namespace Go.Proofs.YtdhpgacmgebjdaaGreatDoor
open Go Go.Abs
open Go.ChangeShapes Go.WideShapes Go.ChangeAt Go.RowKit
theorem clean_nice {n : Nat} {v : Value} (h : nice n v = true) : clean n v = v := by unfold clean; rw [if_pos h]
def litOf {H : Type} : Value → DataW H
  | .int k n => .lit (.int k n)
  | _ => .agg []
theorem litOf_inj {H : Type} {v : Value} {k : IntKind} {n : Int} (h : (litOf v : DataW H) = .lit (.int k n)) : v = .int k n := by
  cases v with
  | int k' n' =>
    have h : (DataW.lit (Lit.int k' n') : DataW H) = .lit (.int k n) := h
    have q := Lit.int.inj (DataW.lit.inj h)
    rw [q.1, q.2]
  | _ => cases h
theorem len_rounds : roundsL.length = 64 := by kernel_rfl
theorem rounds_ints : (roundsL.all fun v => match v with | .int _ _ => true | _ => false) = true := by kernel_rfl
theorem nice_rounds (n : Nat) : ∀ v ∈ roundsL, clean n v = v := by
  intro v hv
  have h := rounds_ints
  rw [List.all_eq_true] at h
  have h := h v hv
  cases v with
  | int k m => exact clean_nice rfl
  | _ => cases h
theorem rounds_clean (n : Nat) : roundsL.map (clean n) = roundsL := by
  rw [List.map_congr_left (nice_rounds n), List.map_id']
/-- What a table of 64 words that reads as the digest's words holds. -/
theorem rounds_cells {W : World} {fuel : Nat} {cs : List Value} {p : List MemPlace} {d : DataW Unit} (hd : d = .agg (roundsL.map litOf)) (h : DataW.trod (fun _ => ()) Tryz.prog W 0 (fun _ => true) false fuel 316 cs = some (d, p)) : cs = roundsL := by
  subst hd
  obtain ⟨xs, m, rfl, hx, hl, hxl, hf⟩ := DataW.trod_array Tryz.underlying316 h
  have h316 : Tryz.prog.cellsOf 316 = 64 := by kernel_rfl
  have h186 : Tryz.prog.cellsOf 186 = 1 := by kernel_rfl
  rw [h316] at hl
  have hx := congrArg Prod.fst hx
  have hx : (DataW.agg (roundsL.map litOf) : DataW Unit) = .agg (xs.map (·.1)) := hx
  have hx := DataW.agg.inj hx
  refine List.ext_getElem? fun j => ?_
  by_cases hj : j < 64
  · have e := hf j hj
    rw [List.getElem?_eq_getElem (by omega), h186, Nat.mul_one] at e
    obtain ⟨n, e1, e2, _⟩ := DataW.trod_int Tryz.underlying186 e
    have q : (roundsL.map (litOf (H := Unit)))[j]? = (xs.map (·.1))[j]? := by rw [hx]
    rw [List.getElem?_map, List.getElem?_map, List.getElem?_eq_getElem (by rw [len_rounds]; exact hj), List.getElem?_eq_getElem (by omega), e2] at q
    have q := litOf_inj (Option.some.inj q)
    have e3 : ((cs.drop j).take 1)[0]? = some (.int .u32 n) := by rw [e1]; rfl
    rw [List.getElem?_take, if_pos (by decide), List.getElem?_drop, Nat.add_zero] at e3
    rw [e3, List.getElem?_eq_getElem (by rw [len_rounds]; exact hj), q]
  · rw [List.getElem?_eq_none (by omega), List.getElem?_eq_none (by rw [len_rounds]; omega)]
/-- Kinds of cells. -/
inductive Kd where
  | u8
  | i (k : IntKind)
  | b
def Kd.has : Kd → Value → Prop
  | .u8, v => ∃ n : Nat, v = .int .u8 n ∧ n < 256
  | .i k, v => ∃ n : Int, v = .int k n ∧ (Lit.int k n).wf = true
  | .b, v => ∃ t : Bool, v = .bool t
theorem Kd.has.cell {k : Kd} {v : Value} (h : k.has v) : isHole v = false ∧ v.oneCell' = true ∧ flat v = true ∧ v.cells = #[v] := by
  cases k with
  | u8 => obtain ⟨n, rfl, _⟩ := h; exact ⟨rfl, rfl, rfl, rfl⟩
  | i k => obtain ⟨n, rfl, _⟩ := h; exact ⟨rfl, rfl, rfl, rfl⟩
  | b => obtain ⟨t, rfl⟩ := h; exact ⟨rfl, rfl, rfl, rfl⟩
/-- Cells of these kinds. -/
def Typed (ks : List Kd) (cs : List Value) : Prop := cs.length = ks.length ∧ ∀ (j : Nat) (k : Kd), ks[j]? = some k → ∃ v, cs[j]? = some v ∧ k.has v
theorem Typed.cell {ks : List Kd} {cs : List Value} (h : Typed ks cs) {j : Nat} {v : Value} (hv : cs[j]? = some v) : isHole v = false ∧ v.oneCell' = true ∧ flat v = true ∧ v.cells = #[v] := by
  have hj := (List.getElem?_eq_some_iff.1 hv).1
  have hj' : j < ks.length := by rw [← h.1]; exact hj
  obtain ⟨w, hw, hk⟩ := h.2 j _ (List.getElem?_eq_getElem hj')
  rw [hv] at hw
  cases hw
  exact hk.cell
theorem Typed.all {ks : List Kd} {cs : List Value} (h : Typed ks cs) : Abs.noHoles cs = true ∧ oneCells cs = true ∧ flatAll cs = true := by
  have key : ∀ v ∈ cs, isHole v = false ∧ v.oneCell' = true ∧ flat v = true := fun v hv => by
    obtain ⟨j, hj⟩ := List.mem_iff_getElem?.1 hv
    obtain ⟨a, b, c, _⟩ := h.cell hj
    exact ⟨a, b, c⟩
  refine ⟨?_, ?_, ?_⟩
  · unfold Abs.noHoles
    rw [List.all_eq_true]
    exact fun v hv => by rw [(key v hv).1]; rfl
  · unfold oneCells
    rw [List.all_eq_true]
    exact fun v hv => (key v hv).2.1
  · unfold flatAll
    rw [List.all_eq_true]
    exact fun v hv => (key v hv).2.2
theorem box_at (h : Heap) (cs : List Value) (hc : oneCells cs = true) : box (.agg cs.toArray) h = some (ptr h.next 0, h.alloc cs) := by
  have e : (Value.agg cs.toArray).cells = cs.toArray := rfl
  unfold box
  rw [e, if_pos (by simpa using hc)]
  simp [Abs.newRow]
theorem gtr3 (a k : Nat) : bin Tryz.prog .gtr 3 (i64n a) (.int .i64 (k : Int)) = some (.bool (decide (k < a))) := by
  rw [bin_gtr]
  congr 2
  by_cases e : k < a
  · rw [decide_eq_true e, decide_eq_true (by omega)]
  · rw [decide_eq_false e, decide_eq_false (by omega)]
/-- Elements whose cells are of these kinds. -/
def TypedN (ks : List Kd) (n : Nat) (cs : List Value) : Prop := cs.length = n * ks.length ∧ ∀ i, i < n → Typed ks ((cs.drop (i * ks.length)).take ks.length)
theorem Typed.one {k : Kd} {v : Value} (h : k.has v) : Typed [k] [v] := ⟨rfl, fun j t ht => by
  cases j with
  | zero => cases ht; exact ⟨v, rfl, h⟩
  | succ j => cases ht⟩
/-- A slice of n elements with these cells. -/
def SlN (h : Heap) (ks : List Kd) (v : Value) (n : Nat) (cs : List Value) : Prop :=
  ∃ a c, v = .slice a n c ∧ (a = none → n = 0) ∧ TypedN ks n cs ∧ (0 < n → ∃ b off s k, a = some ⟨b, off, s⟩ ∧ h.get b = some k ∧ off + n * ks.length ≤ k.length ∧ (k.drop off).take (n * ks.length) = cs)
theorem mul_le {i n z : Nat} (hi : i < n) : i * z + z ≤ n * z := by
  have := Nat.mul_le_mul_right z (show i + 1 ≤ n by omega)
  rw [Nat.add_mul, Nat.one_mul] at this
  exact this
theorem Kd.has.clean {k : Kd} {v : Value} (h : k.has v) (n : Nat) : clean n v = v := by
  cases k with
  | u8 => obtain ⟨m, rfl, _⟩ := h; rfl
  | i k => obtain ⟨m, rfl, _⟩ := h; rfl
  | b => obtain ⟨t, rfl⟩ := h; rfl
theorem Typed.clean {ks : List Kd} {cs : List Value} (h : Typed ks cs) (n : Nat) : cs.map (clean n) = cs := by
  refine List.ext_getElem? fun j => ?_
  rw [List.getElem?_map]
  by_cases hj : j < ks.length
  · obtain ⟨v, h1, h2⟩ := h.2 j _ (List.getElem?_eq_getElem hj)
    rw [h1, Option.map_some, h2.clean]
  · rw [List.getElem?_eq_none (by rw [h.1]; omega)]; rfl
theorem u8_lit {n : Int} (h : (Lit.int .u8 n).wf = true) : ∃ m : Nat, n = m ∧ m < 256 := by
  simp [Lit.wf, IntKind.min, IntKind.max, IntKind.signed, IntKind.bits] at h
  exact ⟨n.toNat, by omega, by omega⟩
theorem clean_slice {W : World} {a : Addr} {len cap : Nat} (hlc : len ≤ cap) (hc : 0 < cap → a.spot = none ∧ a.block < W.heap.size) :
    isHole (clean W.heap.size (.slice (some a) len cap)) = false ∧ ∃ a' , clean W.heap.size (.slice (some a) len cap) = .slice (some a') len cap ∧ (0 < cap → a' = a) := by
  obtain ⟨b, off, s⟩ := a
  by_cases h0 : 0 < cap
  · obtain ⟨h1, h2⟩ := hc h0
    have h1' : s = none := h1
    have h2' : b < W.heap.size := h2
    subst h1'
    have hn : nice W.heap.size (.slice (some ⟨b, off, none⟩) len cap) = true := by simpa [nice] using h2'
    rw [clean_nice hn]
    exact ⟨rfl, _, rfl, fun _ => rfl⟩
  · obtain rfl : cap = 0 := by omega
    obtain rfl : len = 0 := by omega
    by_cases hn : nice W.heap.size (.slice (some ⟨b, off, s⟩) 0 0) = true
    · rw [clean_nice hn]
      exact ⟨rfl, _, rfl, fun h => absurd h h0⟩
    · have : clean W.heap.size (.slice (some ⟨b, off, s⟩) 0 0) = .slice (some ⟨0, 0, some 0⟩) 0 0 := by unfold clean; rw [if_neg hn]; rfl
      rw [this]
      exact ⟨rfl, _, rfl, fun h => absurd h h0⟩
theorem add_block (a : Addr) (n : Nat) : (a.add n).block = a.block := by unfold Addr.add; split <;> rfl
theorem add_off (a : Addr) (n : Nat) : (a.add n).off = a.off + n := by
  unfold Addr.add
  split
  · rename_i h; rw [h]; rfl
  · rfl
section
variable {H : Type} {enc : TypeId × Value → H} {W : World} {base : Nat} {held : Bool}
/-- What can be read as data of this type has cells of these kinds. -/
def Reads (enc : TypeId × Value → H) (W : World) (base : Nat) (held : Bool) (t : TypeId) (ks : List Kd) : Prop :=
  ∀ fuel cs x, DataW.trod enc Tryz.prog W base (fun _ => true) held fuel t cs = some x → Typed ks cs
theorem reads_u8 {t : TypeId} (ht : Tryz.prog.underlying t = some (.int .u8)) : Reads enc W base held t [.u8] := fun fuel cs x h => by
  obtain ⟨n, rfl, _, w⟩ := DataW.trod_int ht h
  obtain ⟨m, rfl, hm⟩ := u8_lit w
  exact .one ⟨m, rfl, hm⟩
theorem sl_of {t e : TypeId} {ks : List Kd} (ht : Tryz.prog.underlying t = some (.slice e)) (he : Tryz.prog.cellsOf e = ks.length) (hz : 0 < ks.length) (R : Reads enc W base held e ks) {fuel : Nat} {v : Value} {x : DataW H × List MemPlace}
    (h : DataW.trod enc Tryz.prog W base (fun _ => true) held fuel t [v] = some x) : isHole (clean W.heap.size v) = false ∧ ∃ n cs, SlN (topHeap W (view W)) ks (clean W.heap.size v) n cs := by
  have nilT : TypedN ks 0 [] := ⟨by simp, fun i hi => absurd hi (Nat.not_lt_zero i)⟩
  rcases DataW.trod_slice ht h with ⟨h1, _⟩ | ⟨a, len, cap, elems, rest, n, _, h1, _, _, hlc, hcm, hl, hel, hsp, _⟩
  · cases h1
    exact ⟨rfl, 0, [], none, 0, rfl, fun _ => rfl, nilT, fun h => absurd h (Nat.lt_irrefl 0)⟩
  · cases h1
    rw [he] at hel hsp
    have hpos : 0 < cap → a.spot = none ∧ a.block < W.heap.size := by
      intro h0
      have key : ∃ cs, W.cells? base (a.add (0 * ks.length)) ks.length = some cs := by
        by_cases hlen : 0 < len
        · have := hel 0 hlen
          rw [List.getElem?_eq_getElem (by omega), Option.bind_eq_some_iff] at this
          obtain ⟨cs, hc, _⟩ := this
          exact ⟨cs, hc⟩
        · have := (hsp rfl).2 0 (by omega)
          rw [List.getElem?_eq_getElem (by rw [(hsp rfl).1]; omega), Option.bind_eq_some_iff] at this
          obtain ⟨cs, hc, _⟩ := this
          obtain rfl : len = 0 := by omega
          exact ⟨cs, hc⟩
      obtain ⟨cs, hc⟩ := key
      obtain ⟨_, hlen, hcell⟩ := World.cells?_some hc
      have g := hcell 0 hz
      obtain ⟨c0, hc0⟩ : ∃ c0, cs[0]? = some c0 := ⟨cs[0], List.getElem?_eq_getElem (by omega)⟩
      rw [hc0, Nat.zero_mul] at g
      have g : W.cell? a = some c0 := g
      obtain ⟨e1, e2, _⟩ := view_cell g
      exact ⟨e1, e2⟩
    obtain ⟨g1, a', g2, g3⟩ := clean_slice (W := W) hlc hpos
    refine ⟨g1, len, ?_⟩
    by_cases h0 : len = 0
    · subst h0
      exact ⟨[], _, _, g2, fun _ => rfl, nilT, fun h => absurd h (Nat.lt_irrefl 0)⟩
    have ha := g3 (by omega)
    subst ha
    have each : ∀ i, i < len → ∃ k es, view W a'.block = some k ∧ Typed ks es ∧ ∀ j, j < ks.length → k[a'.off + i * ks.length + j]? = es[j]? := by
      intro i hi
      have h2 := hel i hi
      rw [List.getElem?_eq_getElem (by omega), Option.bind_eq_some_iff] at h2
      obtain ⟨es, hc, ht⟩ := h2
      have ty := R _ _ _ ht
      obtain ⟨_, hlen, hcell⟩ := World.cells?_some hc
      have vc : ∀ j, j < ks.length → ∃ k, view W a'.block = some k ∧ k[a'.off + i * ks.length + j]? = es[j]? := by
        intro j hj
        obtain ⟨u, h3, h4⟩ := ty.2 j _ (List.getElem?_eq_getElem hj)
        have g := hcell j hj
        rw [h3] at g
        obtain ⟨_, _, k, hk, hc2⟩ := view_cell g
        rw [add_block, add_block] at hk
        rw [add_off, add_off, h4.clean] at hc2
        exact ⟨k, hk, by rw [hc2, h3]⟩
      obtain ⟨k, hk, _⟩ := vc 0 hz
      refine ⟨k, es, hk, ty, fun j hj => ?_⟩
      obtain ⟨k', hk', e⟩ := vc j hj
      rw [hk] at hk'
      cases hk'
      exact e
    obtain ⟨k, _, hk, _⟩ := each 0 (by omega)
    have each : ∀ i, i < len → ∃ es, Typed ks es ∧ ∀ j, j < ks.length → k[a'.off + i * ks.length + j]? = es[j]? := fun i hi => by
      obtain ⟨k', es, hk', h1, h2⟩ := each i hi
      rw [hk] at hk'
      cases hk'
      exact ⟨es, h1, h2⟩
    have hlen : a'.off + len * ks.length ≤ k.length := by
      obtain ⟨es, ty, e⟩ := each (len - 1) (by omega)
      have := e (ks.length - 1) (by omega)
      obtain ⟨u, hu, _⟩ := ty.2 (ks.length - 1) _ (List.getElem?_eq_getElem (by omega))
      rw [hu] at this
      have := (List.getElem?_eq_some_iff.1 this).1
      have h9 : len * ks.length = (len - 1) * ks.length + ks.length := by
        conv => lhs; rw [show len = (len - 1) + 1 by omega, Nat.add_mul, Nat.one_mul]
      omega
    refine ⟨(k.drop a'.off).take (len * ks.length), _, _, g2, fun h => (by cases h), ⟨by rw [List.length_take, List.length_drop]; omega, fun i hi => ?_⟩, fun _ => ⟨a'.block, a'.off, a'.spot, k, rfl, by rw [view_get]; exact hk, hlen, rfl⟩⟩
    obtain ⟨es, ty, e⟩ := each i hi
    have hm := mul_le (z := ks.length) hi
    have : (((k.drop a'.off).take (len * ks.length)).drop (i * ks.length)).take ks.length = es := by
      refine List.ext_getElem? fun j => ?_
      rw [List.getElem?_take]
      by_cases hj : j < ks.length
      · rw [if_pos hj, List.getElem?_drop, List.getElem?_take, if_pos (by omega), List.getElem?_drop, ← e j hj, Nat.add_assoc]
      · rw [if_neg hj, List.getElem?_eq_none (by rw [ty.1]; omega)]
    rw [this]
    exact ty
end
theorem SlN.typed {h : Heap} {ks : List Kd} {v : Value} {n : Nat} {cs : List Value} (x : SlN h ks v n cs) : TypedN ks n cs := by
  obtain ⟨a, c, rfl, _, h2, _⟩ := x
  exact h2
section
variable {H : Type} {enc : TypeId × Value → H} {W : World} {base : Nat} {held : Bool}
theorem fld {fuel : Nat} {t : TypeId} {cs : List Value} {x : DataW H × List MemPlace} {fs : Array Field} (ht : Tryz.prog.underlying t = some (.struct fs)) (h : DataW.trod enc Tryz.prog W base (fun _ => true) held fuel t cs = some x) {i z : Nat} {f : Field} (hf : fs[i]? = some f) (hz : Tryz.prog.cellsOf f.type = z) :
    ∃ m y, DataW.trod enc Tryz.prog W base (fun _ => true) held m f.type ((cs.drop f.offset).take z) = some y := by
  obtain ⟨xs, n, rfl, _, _, hl, h2⟩ := DataW.trod_struct ht h
  have := h2 i f hf
  rw [List.getElem?_eq_getElem (by rw [hl]; exact (Array.getElem?_eq_some_iff.1 hf).1), hz] at this
  exact ⟨_, _, this⟩
end
end Go.Proofs.YtdhpgacmgebjdaaGreatDoor

