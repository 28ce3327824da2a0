/-
  The swarm: the digest's table as it is laid; numbers as arguments.
  Conditions: the argument can be read as data.
  The wire: messages as arguments.
  Conditions: the argument can be read as data.
  The wire's known run; the calls' evaluator; lists of typed cells, and their equality.
  Conditions: as each theorem states.
  The wire: slices of typed cells, and their comparison, element by element.
  Conditions: as each theorem states.
  The wire: messages as arguments.
  Conditions: the argument can be read as data.
  The wire: messages as plain data.
  Conditions: as each theorem states.
  The wire: manifests and bodies, written.
  Conditions: as each theorem states.
  The inventory: records and bytes as arguments; the digest's table as it is laid.
  Conditions: the argument can be read as data.
  The swarm: setups and events as arguments.
  Conditions: the argument can be read as data.
-/
import Derived.Test.YtdmnphocgfnlpaaGreatDoorG17
import Derived.ProofKit
import Derived.OpenShut
namespace Go.Proofs.YtdmnphocgfnlpaaGreatDoor
open Go Go.Abs
open Go.ChangeShapes Go.WideShapes Go.ChangeAt Go.RowKit
theorem clean_nice {n : Nat} {v : Value} (h : nice n v = true) : clean n v = v := by unfold clean; rw [if_pos h]
theorem rel_int (μ : Mu) (n : Int) : VRel μ (.int .i64 n) (.int .i64 n) := .flat rfl
def litOf {H : Type} : Value → DataW H
  | .int k n => .lit (.int k n)
  | _ => .agg []
theorem litOf_inj {H : Type} {v : Value} {k : IntKind} {n : Int} (h : (litOf v : DataW H) = .lit (.int k n)) : v = .int k n := by
  cases v with
  | int k' n' =>
    have h : (DataW.lit (Lit.int k' n') : DataW H) = .lit (.int k n) := h
    have q := Lit.int.inj (DataW.lit.inj h)
    rw [q.1, q.2]
  | _ => cases h
theorem len_rounds : roundsL.length = 64 := by kernel_rfl
theorem rounds_ints : (roundsL.all fun v => match v with | .int _ _ => true | _ => false) = true := by kernel_rfl
theorem nice_rounds (n : Nat) : ∀ v ∈ roundsL, clean n v = v := by
  intro v hv
  have h := rounds_ints
  rw [List.all_eq_true] at h
  have h := h v hv
  cases v with
  | int k m => exact clean_nice rfl
  | _ => cases h
theorem rounds_clean (n : Nat) : roundsL.map (clean n) = roundsL := by
  rw [List.map_congr_left (nice_rounds n), List.map_id']
/-- What a table of 64 words that reads as the digest's words holds. -/
theorem rounds_cells {W : World} {fuel : Nat} {cs : List Value} {p : List MemPlace} {d : DataW Unit} (hd : d = .agg (roundsL.map litOf)) (h : DataW.trod (fun _ => ()) Tryz.prog W 0 (fun _ => true) false fuel 543 cs = some (d, p)) : cs = roundsL := by
  subst hd
  obtain ⟨xs, m, rfl, hx, hl, hxl, hf⟩ := DataW.trod_array Tryz.underlying543 h
  have h543 : Tryz.prog.cellsOf 543 = 64 := by kernel_rfl
  have h77 : Tryz.prog.cellsOf 77 = 1 := by kernel_rfl
  rw [h543] at hl
  have hx := congrArg Prod.fst hx
  have hx : (DataW.agg (roundsL.map litOf) : DataW Unit) = .agg (xs.map (·.1)) := hx
  have hx := DataW.agg.inj hx
  refine List.ext_getElem? fun j => ?_
  by_cases hj : j < 64
  · have e := hf j hj
    rw [List.getElem?_eq_getElem (by omega), h77, Nat.mul_one] at e
    obtain ⟨n, e1, e2, _⟩ := DataW.trod_int Tryz.underlying77 e
    have q : (roundsL.map (litOf (H := Unit)))[j]? = (xs.map (·.1))[j]? := by rw [hx]
    rw [List.getElem?_map, List.getElem?_map, List.getElem?_eq_getElem (by rw [len_rounds]; exact hj), List.getElem?_eq_getElem (by omega), e2] at q
    have q := litOf_inj (Option.some.inj q)
    have e3 : ((cs.drop j).take 1)[0]? = some (.int .u32 n) := by rw [e1]; rfl
    rw [List.getElem?_take, if_pos (by decide), List.getElem?_drop, Nat.add_zero] at e3
    rw [e3, List.getElem?_eq_getElem (by rw [len_rounds]; exact hj), q]
  · rw [List.getElem?_eq_none (by omega), List.getElem?_eq_none (by rw [len_rounds]; omega)]
end Go.Proofs.YtdmnphocgfnlpaaGreatDoor

namespace Go.Proofs.YtdmnphocgfnlpaaGreatDoor
open Go Go.Abs
theorem Typed.one {k : Kd} {v : Value} (h : k.has v) : Typed [k] [v] := ⟨rfl, fun j t ht => by
  cases j with
  | zero => cases ht; exact ⟨v, rfl, h⟩
  | succ j => cases ht⟩
end Go.Proofs.YtdmnphocgfnlpaaGreatDoor

namespace Go.Proofs.YtdmnphocgfnlpaaGreatDoor
open Go Go.Abs
/-- Elements whose cells are of these kinds. -/
def TypedN (ks : List Kd) (n : Nat) (cs : List Value) : Prop := cs.length = n * ks.length ∧ ∀ i, i < n → Typed ks ((cs.drop (i * ks.length)).take ks.length)
end Go.Proofs.YtdmnphocgfnlpaaGreatDoor

namespace Go.Proofs.YtdmnphocgfnlpaaGreatDoor
open Go Go.Abs
/-- A slice of n elements with these cells. -/
def SlN (h : Heap) (ks : List Kd) (v : Value) (n : Nat) (cs : List Value) : Prop :=
  ∃ a c, v = .slice a n c ∧ (a = none → n = 0) ∧ TypedN ks n cs ∧ (0 < n → ∃ b off s k, a = some ⟨b, off, s⟩ ∧ h.get b = some k ∧ off + n * ks.length ≤ k.length ∧ (k.drop off).take (n * ks.length) = cs)
/-- The block that a slice leads to, if it has elements. -/
def slB : Value → Option Nat
  | .slice (some a) (_ + 1) _ => some a.block
  | _ => none
theorem mul_le {i n z : Nat} (hi : i < n) : i * z + z ≤ n * z := by
  have := Nat.mul_le_mul_right z (show i + 1 ≤ n by omega)
  rw [Nat.add_mul, Nat.one_mul] at this
  exact this
end Go.Proofs.YtdmnphocgfnlpaaGreatDoor

namespace Go.Proofs.YtdmnphocgfnlpaaGreatDoor
open Go Go.Abs
theorem Kd.has.clean {k : Kd} {v : Value} (h : k.has v) (n : Nat) : clean n v = v := by
  cases k with
  | u8 => obtain ⟨m, rfl, _⟩ := h; rfl
  | i k => obtain ⟨m, rfl, _⟩ := h; rfl
  | b => obtain ⟨t, rfl⟩ := h; rfl
theorem Typed.clean {ks : List Kd} {cs : List Value} (h : Typed ks cs) (n : Nat) : cs.map (clean n) = cs := by
  refine List.ext_getElem? fun j => ?_
  rw [List.getElem?_map]
  by_cases hj : j < ks.length
  · obtain ⟨v, h1, h2⟩ := h.2 j _ (List.getElem?_eq_getElem hj)
    rw [h1, Option.map_some, h2.clean]
  · rw [List.getElem?_eq_none (by rw [h.1]; omega)]; rfl
theorem u8_lit {n : Int} (h : (Lit.int .u8 n).wf = true) : ∃ m : Nat, n = m ∧ m < 256 := by
  simp [Lit.wf, IntKind.min, IntKind.max, IntKind.signed, IntKind.bits] at h
  exact ⟨n.toNat, by omega, by omega⟩
theorem clean_slice {W : World} {a : Addr} {len cap : Nat} (hlc : len ≤ cap) (hc : 0 < cap → a.spot = none ∧ a.block < W.heap.size) :
    isHole (clean W.heap.size (.slice (some a) len cap)) = false ∧ ∃ a' , clean W.heap.size (.slice (some a) len cap) = .slice (some a') len cap ∧ (0 < cap → a' = a) := by
  obtain ⟨b, off, s⟩ := a
  by_cases h0 : 0 < cap
  · obtain ⟨h1, h2⟩ := hc h0
    have h1' : s = none := h1
    have h2' : b < W.heap.size := h2
    subst h1'
    have hn : nice W.heap.size (.slice (some ⟨b, off, none⟩) len cap) = true := by simpa [nice] using h2'
    rw [clean_nice hn]
    exact ⟨rfl, _, rfl, fun _ => rfl⟩
  · obtain rfl : cap = 0 := by omega
    obtain rfl : len = 0 := by omega
    by_cases hn : nice W.heap.size (.slice (some ⟨b, off, s⟩) 0 0) = true
    · rw [clean_nice hn]
      exact ⟨rfl, _, rfl, fun h => absurd h h0⟩
    · have : clean W.heap.size (.slice (some ⟨b, off, s⟩) 0 0) = .slice (some ⟨0, 0, some 0⟩) 0 0 := by unfold clean; rw [if_neg hn]; rfl
      rw [this]
      exact ⟨rfl, _, rfl, fun h => absurd h h0⟩
theorem add_block (a : Addr) (n : Nat) : (a.add n).block = a.block := by unfold Addr.add; split <;> rfl
theorem add_off (a : Addr) (n : Nat) : (a.add n).off = a.off + n := by
  unfold Addr.add
  split
  · rename_i h; rw [h]; rfl
  · rfl
section
variable {H : Type} {enc : TypeId × Value → H} {W : World} {base : Nat} {held : Bool}
/-- What can be read as data of this type has cells of these kinds. -/
def Reads (enc : TypeId × Value → H) (W : World) (base : Nat) (held : Bool) (t : TypeId) (ks : List Kd) : Prop :=
  ∀ fuel cs x, DataW.trod enc Tryz.prog W base (fun _ => true) held fuel t cs = some x → Typed ks cs
theorem reads_u8 {t : TypeId} (ht : Tryz.prog.underlying t = some (.int .u8)) : Reads enc W base held t [.u8] := fun fuel cs x h => by
  obtain ⟨n, rfl, _, w⟩ := DataW.trod_int ht h
  obtain ⟨m, rfl, hm⟩ := u8_lit w
  exact .one ⟨m, rfl, hm⟩
theorem sl_of {t e : TypeId} {ks : List Kd} (ht : Tryz.prog.underlying t = some (.slice e)) (he : Tryz.prog.cellsOf e = ks.length) (hz : 0 < ks.length) (R : Reads enc W base held e ks) {fuel : Nat} {v : Value} {x : DataW H × List MemPlace}
    (h : DataW.trod enc Tryz.prog W base (fun _ => true) held fuel t [v] = some x) : isHole (clean W.heap.size v) = false ∧ ∃ n cs, SlN (topHeap W (view W)) ks (clean W.heap.size v) n cs := by
  have nilT : TypedN ks 0 [] := ⟨by simp, fun i hi => absurd hi (Nat.not_lt_zero i)⟩
  rcases DataW.trod_slice ht h with ⟨h1, _⟩ | ⟨a, len, cap, elems, rest, n, _, h1, _, _, hlc, hcm, hl, hel, hsp, _⟩
  · cases h1
    exact ⟨rfl, 0, [], none, 0, rfl, fun _ => rfl, nilT, fun h => absurd h (Nat.lt_irrefl 0)⟩
  · cases h1
    rw [he] at hel hsp
    have hpos : 0 < cap → a.spot = none ∧ a.block < W.heap.size := by
      intro h0
      have key : ∃ cs, W.cells? base (a.add (0 * ks.length)) ks.length = some cs := by
        by_cases hlen : 0 < len
        · have := hel 0 hlen
          rw [List.getElem?_eq_getElem (by omega), Option.bind_eq_some_iff] at this
          obtain ⟨cs, hc, _⟩ := this
          exact ⟨cs, hc⟩
        · have := (hsp rfl).2 0 (by omega)
          rw [List.getElem?_eq_getElem (by rw [(hsp rfl).1]; omega), Option.bind_eq_some_iff] at this
          obtain ⟨cs, hc, _⟩ := this
          obtain rfl : len = 0 := by omega
          exact ⟨cs, hc⟩
      obtain ⟨cs, hc⟩ := key
      obtain ⟨_, hlen, hcell⟩ := World.cells?_some hc
      have g := hcell 0 hz
      obtain ⟨c0, hc0⟩ : ∃ c0, cs[0]? = some c0 := ⟨cs[0], List.getElem?_eq_getElem (by omega)⟩
      rw [hc0, Nat.zero_mul] at g
      have g : W.cell? a = some c0 := g
      obtain ⟨e1, e2, _⟩ := view_cell g
      exact ⟨e1, e2⟩
    obtain ⟨g1, a', g2, g3⟩ := clean_slice (W := W) hlc hpos
    refine ⟨g1, len, ?_⟩
    by_cases h0 : len = 0
    · subst h0
      exact ⟨[], _, _, g2, fun _ => rfl, nilT, fun h => absurd h (Nat.lt_irrefl 0)⟩
    have ha := g3 (by omega)
    subst ha
    have each : ∀ i, i < len → ∃ k es, view W a'.block = some k ∧ Typed ks es ∧ ∀ j, j < ks.length → k[a'.off + i * ks.length + j]? = es[j]? := by
      intro i hi
      have h2 := hel i hi
      rw [List.getElem?_eq_getElem (by omega), Option.bind_eq_some_iff] at h2
      obtain ⟨es, hc, ht⟩ := h2
      have ty := R _ _ _ ht
      obtain ⟨_, hlen, hcell⟩ := World.cells?_some hc
      have vc : ∀ j, j < ks.length → ∃ k, view W a'.block = some k ∧ k[a'.off + i * ks.length + j]? = es[j]? := by
        intro j hj
        obtain ⟨u, h3, h4⟩ := ty.2 j _ (List.getElem?_eq_getElem hj)
        have g := hcell j hj
        rw [h3] at g
        obtain ⟨_, _, k, hk, hc2⟩ := view_cell g
        rw [add_block, add_block] at hk
        rw [add_off, add_off, h4.clean] at hc2
        exact ⟨k, hk, by rw [hc2, h3]⟩
      obtain ⟨k, hk, _⟩ := vc 0 hz
      refine ⟨k, es, hk, ty, fun j hj => ?_⟩
      obtain ⟨k', hk', e⟩ := vc j hj
      rw [hk] at hk'
      cases hk'
      exact e
    obtain ⟨k, _, hk, _⟩ := each 0 (by omega)
    have each : ∀ i, i < len → ∃ es, Typed ks es ∧ ∀ j, j < ks.length → k[a'.off + i * ks.length + j]? = es[j]? := fun i hi => by
      obtain ⟨k', es, hk', h1, h2⟩ := each i hi
      rw [hk] at hk'
      cases hk'
      exact ⟨es, h1, h2⟩
    have hlen : a'.off + len * ks.length ≤ k.length := by
      obtain ⟨es, ty, e⟩ := each (len - 1) (by omega)
      have := e (ks.length - 1) (by omega)
      obtain ⟨u, hu, _⟩ := ty.2 (ks.length - 1) _ (List.getElem?_eq_getElem (by omega))
      rw [hu] at this
      have := (List.getElem?_eq_some_iff.1 this).1
      have h9 : len * ks.length = (len - 1) * ks.length + ks.length := by
        conv => lhs; rw [show len = (len - 1) + 1 by omega, Nat.add_mul, Nat.one_mul]
      omega
    refine ⟨(k.drop a'.off).take (len * ks.length), _, _, g2, fun h => (by cases h), ⟨by rw [List.length_take, List.length_drop]; omega, fun i hi => ?_⟩, fun _ => ⟨a'.block, a'.off, a'.spot, k, rfl, by rw [view_get]; exact hk, hlen, rfl⟩⟩
    obtain ⟨es, ty, e⟩ := each i hi
    have hm := mul_le (z := ks.length) hi
    have : (((k.drop a'.off).take (len * ks.length)).drop (i * ks.length)).take ks.length = es := by
      refine List.ext_getElem? fun j => ?_
      rw [List.getElem?_take]
      by_cases hj : j < ks.length
      · rw [if_pos hj, List.getElem?_drop, List.getElem?_take, if_pos (by omega), List.getElem?_drop, ← e j hj, Nat.add_assoc]
      · rw [if_neg hj, List.getElem?_eq_none (by rw [ty.1]; omega)]
    rw [this]
    exact ty
end
end Go.Proofs.YtdmnphocgfnlpaaGreatDoor

namespace Go.Proofs.YtdmnphocgfnlpaaGreatDoor
open Go Go.Abs
abbrev u8s (l : List Nat) : List Value := l.map u8
abbrev Bys (l : List Nat) : Prop := ∀ x ∈ l, x < 256
theorem list_of {ks : List Kd} {α : Type} {f : α → List Value} {P : α → Prop} (hf : ∀ xs, Typed ks xs → ∃ a, xs = f a ∧ P a) : ∀ (n : Nat) (cs : List Value), TypedN ks n cs → ∃ l : List α, l.length = n ∧ cs = l.flatMap f ∧ ∀ a ∈ l, P a
  | 0, cs, h => ⟨[], rfl, by
      have : cs.length = 0 := by rw [h.1, Nat.zero_mul]
      exact List.length_eq_zero_iff.1 this, fun a ha => by cases ha⟩
  | n + 1, cs, h => by
    have hl : cs.length = (n + 1) * ks.length := h.1
    have h0 := h.2 0 (by omega)
    rw [Nat.zero_mul, List.drop_zero] at h0
    obtain ⟨a, ha, pa⟩ := hf _ h0
    have hl2 : (cs.drop ks.length).length = n * ks.length := by rw [List.length_drop, hl, Nat.add_mul]; omega
    obtain ⟨l, q1, q2, q3⟩ := list_of hf n (cs.drop ks.length) ⟨hl2, fun i hi => by
      have := h.2 (i + 1) (by omega)
      rw [List.drop_drop, show ks.length + i * ks.length = (i + 1) * ks.length by rw [Nat.add_mul]; omega]
      exact this⟩
    refine ⟨a :: l, by simp [q1], ?_, fun b hb => ?_⟩
    · rw [List.flatMap_cons, ← ha, ← q2, List.take_append_drop]
    · rcases List.mem_cons.1 hb with rfl | hb
      · exact pa
      · exact q3 b hb
theorem byte_of {xs : List Value} (h : Typed [.u8] xs) : ∃ b : Nat, xs = [u8 b] ∧ b < 256 := by
  have hl : xs.length = 1 := h.1
  match xs, hl with
  | [v], _ =>
    obtain ⟨_, h1, a, rfl, ha⟩ := h.2 0 .u8 rfl
    cases h1
    exact ⟨a, rfl, ha⟩
theorem flat_one (l : List Nat) : l.flatMap (fun b => [u8 b]) = u8s l := by
  induction l with
  | nil => rfl
  | cons x l ih => rw [List.flatMap_cons, ih]; rfl
theorem bytes_of_typed {n : Nat} {cs : List Value} (h : TypedN [.u8] n cs) : ∃ l : List Nat, l.length = n ∧ cs = u8s l ∧ Bys l := by
  obtain ⟨l, h1, h2, h3⟩ := list_of (f := fun b => [u8 b]) (P := fun b => b < 256) (fun xs hx => byte_of hx) n cs h
  exact ⟨l, h1, by rw [h2, flat_one], h3⟩
end Go.Proofs.YtdmnphocgfnlpaaGreatDoor

namespace Go.Proofs.YtdmnphocgfnlpaaGreatDoor
open Go Go.Abs
theorem sliceBytes_mid {h : Heap} {b off : Nat} {s : Option Nat} {k A C : List Value} {l : List Nat} (g : h.get b = some k) (e : k = A ++ (u8s l ++ C)) (hA : A.length = off) (hb : Bys l) : sliceBytes (some ⟨b, off, s⟩) l.length h = some l := by
  unfold sliceBytes
  rw [Option.bind_eq_some_iff]
  refine ⟨u8s l, ?_, bytesOf_map hb⟩
  have hm := mid e hA (show (u8s l).length = l.length from List.length_map ..)
  have hl : off + l.length ≤ k.length := by rw [e, List.length_append, List.length_append, List.length_map, hA]; omega
  simp only [firstA, g, Nat.mul_one]
  by_cases h0 : l.length = 0
  · rw [if_pos h0, List.length_eq_zero_iff.1 h0]; rfl
  · rw [if_neg h0, hm, if_pos ⟨hl, noHoles_u8 l⟩]
attribute [local congr] thenV_congr
theorem SlN.bytes {h : Heap} {v : Value} {l : List Nat} (x : SlN h [.u8] v l.length (u8s l)) (hb : Bys l) : ∃ a c, v = .slice a l.length c ∧ sliceBytes a l.length h = some l ∧ (∀ y, a = some y → 0 < l.length → slB v = some y.block) := by
  obtain ⟨a, c, rfl, h1, h2, h3⟩ := x
  refine ⟨a, c, rfl, ?_, fun y hy hn => ?_⟩
  · by_cases h0 : l.length = 0
    · have : l = [] := List.length_eq_zero_iff.1 h0
      subst this
      cases a with
      | none => rfl
      | some y => unfold sliceBytes firstA; simp; rfl
    · obtain ⟨b, off, s, k, rfl, g, h4, h5⟩ := h3 (by omega)
      have h5 : (k.drop off).take (l.length * 1) = u8s l := h5
      have h4 : off + l.length * 1 ≤ k.length := h4
      rw [Nat.mul_one] at h4 h5
      have e : k = k.take off ++ (u8s l ++ k.drop (off + l.length)) := by rw [← h5, ← List.drop_drop, List.take_append_drop, List.take_append_drop]
      exact sliceBytes_mid g e (by rw [List.length_take]; omega) hb
  · subst hy
    obtain ⟨m, hm⟩ : ∃ m, l.length = m + 1 := ⟨l.length - 1, by omega⟩
    rw [hm]
    rfl
end Go.Proofs.YtdmnphocgfnlpaaGreatDoor

namespace Go.Proofs.YtdmnphocgfnlpaaGreatDoor
open Go Go.Abs
open Go.ChangeShapes Go.WideShapes Go.ChangeAt Go.RowKit
theorem SlN.typed {h : Heap} {ks : List Kd} {v : Value} {n : Nat} {cs : List Value} (x : SlN h ks v n cs) : TypedN ks n cs := by
  obtain ⟨a, c, rfl, _, h2, _⟩ := x
  exact h2
section
variable {H : Type} {enc : TypeId × Value → H} {W : World} {base : Nat} {held : Bool}
theorem rd5 : Reads enc W base held 5 [.u8] := reads_u8 Tryz.underlying5
theorem sl28 {fuel : Nat} {v : Value} {x : DataW H × List MemPlace} (h : DataW.trod enc Tryz.prog W base (fun _ => true) held fuel 28 [v] = some x) : isHole (clean W.heap.size v) = false ∧ ∃ n cs, SlN (topHeap W (view W)) [.u8] (clean W.heap.size v) n cs := sl_of Tryz.underlying28 (ks := [.u8]) (by kernel_rfl) (by decide) rd5 h
end
theorem good_of {H : Type} {enc : TypeId × Value → H} {W : World} {base : Nat} {held : Bool} {fuel : Nat} {v : Value} {x : DataW H × List MemPlace} (h : DataW.trod enc Tryz.prog W base (fun _ => true) held fuel 28 [v] = some x) {a : Option Addr} {n c : Nat} (e : clean W.heap.size v = .slice a n c) (h0 : 0 < n) : goodS a n c = true := by
  have he : Tryz.prog.cellsOf 5 = 1 := by kernel_rfl
  rcases DataW.trod_slice Tryz.underlying28 h with ⟨h1, _⟩ | ⟨a, len, cap, elems, rest, n, _, h1, _, _, hlc, hcm, hl, hel, hsp, _⟩
  · cases h1
    have : clean W.heap.size (.slice none 0 0) = .slice none 0 0 := rfl
    rw [this] at e
    cases e
    omega
  · cases h1
    rw [he] at hel hsp
    have hpos : 0 < cap → a.spot = none ∧ a.block < W.heap.size := by
      intro h0
      have key : ∃ cs, W.cells? base (a.add (0 * 1)) 1 = some cs := by
        by_cases hlen : 0 < len
        · have := hel 0 hlen
          rw [List.getElem?_eq_getElem (by omega), Option.bind_eq_some_iff] at this
          obtain ⟨cs, hc, _⟩ := this
          exact ⟨cs, hc⟩
        · have := (hsp rfl).2 0 (by omega)
          rw [List.getElem?_eq_getElem (by rw [(hsp rfl).1]; omega), Option.bind_eq_some_iff] at this
          obtain ⟨cs, hc, _⟩ := this
          obtain rfl : len = 0 := by omega
          exact ⟨cs, hc⟩
      obtain ⟨cs, hc⟩ := key
      obtain ⟨_, hlen, hcell⟩ := World.cells?_some hc
      have g := hcell 0 (by decide)
      obtain ⟨c0, hc0⟩ : ∃ c0, cs[0]? = some c0 := ⟨cs[0], List.getElem?_eq_getElem (by omega)⟩
      rw [hc0, Nat.zero_mul] at g
      have g : W.cell? a = some c0 := g
      obtain ⟨e1, e2, _⟩ := view_cell g
      exact ⟨e1, e2⟩
    obtain ⟨g1, a', g2, g3⟩ := clean_slice (W := W) hlc hpos
    rw [g2] at e
    cases e
    have := g3 (by omega)
    subst this
    have hs := (hpos (by omega)).1
    obtain ⟨b, off, s⟩ := a'
    have hs : s = none := hs
    subst hs
    unfold goodS
    rw [Nat.ble_eq_true_of_le hlc]
    rfl
end Go.Proofs.YtdmnphocgfnlpaaGreatDoor

namespace Go.Proofs.YtdmnphocgfnlpaaGreatDoor
open Go Go.Abs
open Go.ChangeShapes Go.WideShapes Go.ChangeAt Go.RowKit
section
variable {H : Type} {enc : TypeId × Value → H} {W : World} {base : Nat} {held : Bool}
theorem fld {fuel : Nat} {t : TypeId} {cs : List Value} {x : DataW H × List MemPlace} {fs : Array Field} (ht : Tryz.prog.underlying t = some (.struct fs)) (h : DataW.trod enc Tryz.prog W base (fun _ => true) held fuel t cs = some x) {i z : Nat} {f : Field} (hf : fs[i]? = some f) (hz : Tryz.prog.cellsOf f.type = z) :
    ∃ m y, DataW.trod enc Tryz.prog W base (fun _ => true) held m f.type ((cs.drop f.offset).take z) = some y := by
  obtain ⟨xs, n, rfl, _, _, hl, h2⟩ := DataW.trod_struct ht h
  have := h2 i f hf
  rw [List.getElem?_eq_getElem (by rw [hl]; exact (Array.getElem?_eq_some_iff.1 hf).1), hz] at this
  exact ⟨_, _, this⟩
theorem cut_at (l : List Value) (a n : Nat) : l.drop a = (l.drop a).take n ++ l.drop (a + n) := by
  rw [← List.drop_drop, List.take_append_drop]
theorem wf_i64' {n : Int} (h : (Lit.int .i64 n).wf = true) : -9223372036854775808 ≤ n ∧ n < 9223372036854775808 := by
  simp [Lit.wf, IntKind.min, IntKind.max, IntKind.signed, IntKind.bits] at h
  omega
theorem wf_u64' {n : Int} (h : (Lit.int .u64 n).wf = true) : 0 ≤ n ∧ n < 18446744073709551616 := by
  simp [Lit.wf, IntKind.min, IntKind.max, IntKind.signed, IntKind.bits] at h
  omega
theorem wf_u8' {n : Int} (h : (Lit.int .u8 n).wf = true) : 0 ≤ n ∧ n < 256 := by
  simp [Lit.wf, IntKind.min, IntKind.max, IntKind.signed, IntKind.bits] at h
  omega
/-- An event. -/
theorem trod_ev {fuel : Nat} {cs : List Value} {x : DataW H × List MemPlace} (h : DataW.trod enc Tryz.prog W base (fun _ => true) held fuel 30 cs = some x) :
    cs.length = 6 ∧ ∃ e : Ev, e.Wf ∧ EvAt (topHeap W (view W)) (fun _ => True) (cs.map (clean W.heap.size)) e := by
  obtain ⟨_, _, _, _, hl, _⟩ := DataW.trod_struct Tryz.underlying30 h
  have hl : cs.length = 6 := hl.trans (by kernel_rfl)
  obtain ⟨_, _, q0⟩ := fld Tryz.underlying30 h (i := 0) (z := 1) rfl (by kernel_rfl)
  obtain ⟨_, _, q1⟩ := fld Tryz.underlying30 h (i := 1) (z := 1) rfl (by kernel_rfl)
  obtain ⟨_, _, q2⟩ := fld Tryz.underlying30 h (i := 2) (z := 1) rfl (by kernel_rfl)
  obtain ⟨_, _, q3⟩ := fld Tryz.underlying30 h (i := 3) (z := 1) rfl (by kernel_rfl)
  obtain ⟨_, _, q4⟩ := fld Tryz.underlying30 h (i := 4) (z := 1) rfl (by kernel_rfl)
  obtain ⟨m5, y5, q5⟩ := fld Tryz.underlying30 h (i := 5) (z := 1) rfl (by kernel_rfl)
  obtain ⟨k, e0, _, w0⟩ := DataW.trod_int Tryz.underlying26 q0
  obtain ⟨p, e1, _, w1⟩ := DataW.trod_int Tryz.underlying3 q1
  obtain ⟨a, e2, _, w2⟩ := DataW.trod_int Tryz.underlying3 q2
  obtain ⟨b, e3, _, w3⟩ := DataW.trod_int Tryz.underlying3 q3
  obtain ⟨d, e4, _, w4⟩ := DataW.trod_int Tryz.underlying27 q4
  have l5 : ((cs.drop 5).take 1).length = 1 := by rw [List.length_take, List.length_drop, hl]; rfl
  obtain ⟨v, e5⟩ := List.length_eq_one_iff.1 l5
  have q5' : DataW.trod enc Tryz.prog W base (fun _ => true) held m5 28 [v] = some y5 := by rw [← e5]; exact q5
  obtain ⟨hh, n, xs, X⟩ := sl28 q5'
  obtain ⟨l, rfl, rfl, hb⟩ := bytes_of_typed X.typed
  obtain ⟨ad, cp, ev, X5, -⟩ := X.bytes hb
  refine ⟨hl, ⟨k, p, a, b, d, l⟩, ⟨wf_u8' w0, wf_i64' w1, wf_i64' w2, wf_i64' w3, wf_u64' w4⟩, ad, cp, ?_, X5, fun h0 => good_of q5' ev h0, fun _ _ => trivial⟩
  have ec : cs = (cs.drop 0).take 1 ++ ((cs.drop 1).take 1 ++ ((cs.drop 2).take 1 ++ ((cs.drop 3).take 1 ++ ((cs.drop 4).take 1 ++ (cs.drop 5).take 1)))) := by
    conv => lhs; rw [← List.drop_zero (l := cs), cut_at cs 0 1, cut_at cs (0 + 1) 1, cut_at cs (0 + 1 + 1) 1, cut_at cs (0 + 1 + 1 + 1) 1, cut_at cs (0 + 1 + 1 + 1 + 1) 1, cut_at cs (0 + 1 + 1 + 1 + 1 + 1) 1, List.drop_eq_nil_of_le (show cs.length ≤ 0 + 1 + 1 + 1 + 1 + 1 + 1 by omega), List.append_nil]
  have e0 : (cs.drop 0).take 1 = [.int .u8 k] := e0
  have e1 : (cs.drop 1).take 1 = [.int .i64 p] := e1
  have e2 : (cs.drop 2).take 1 = [.int .i64 a] := e2
  have e3 : (cs.drop 3).take 1 = [.int .i64 b] := e3
  have e4 : (cs.drop 4).take 1 = [.int .u64 d] := e4
  have e5 : (cs.drop 5).take 1 = [v] := e5
  rw [e0, e1, e2, e3, e4, e5] at ec
  rw [ec]
  show [Value.int .u8 k, .int .i64 p, .int .i64 a, .int .i64 b, .int .u64 d, clean W.heap.size v] = _
  rw [ev]
  rfl
end
end Go.Proofs.YtdmnphocgfnlpaaGreatDoor

