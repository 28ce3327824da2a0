/-
  The swarm: the calls' evaluator.
  Conditions: as each theorem states.
  The wire's known run; the calls' evaluator; lists of typed cells, and their equality.
  Conditions: as each theorem states.
  The wire: a message's cells, and what is read of them.
  Conditions: as each theorem states.
  The wire: copies of slices, and of messages.
  Conditions: as each theorem states.
  Taken over from the disk's texts: numbers of functions and types are mapped.
  Conditions: as each theorem states.
  Taken over from the disk's texts: numbers of functions and types are mapped.
  Conditions: as each theorem states.
  The wire: Raw, the checksum, digests read.
  Conditions: as each theorem states.
  The swarm: a Reader's reads, whether they fail or not.
  Conditions: as each theorem states.
  The swarm: a Reader's text: a length of two bytes and the bytes.
  Conditions: as each theorem states.
  The swarm: small laws of the machine's operations.
  Conditions: as each theorem states.
  The swarm: events, and lists of events in memory.
  Conditions: as each theorem states.
  The swarm: one round of Parse's loop: an event is read.
  Conditions: as each theorem states.
  The swarm: Parse's loop over events.
  Conditions: as each theorem states.
  The wire: two manifests, and two messages, are compared.
  Conditions: as each theorem states.
  Taken over from the disk's texts: numbers of functions and types are mapped.
  Conditions: as each theorem states.
  Taken over from the disk's texts: numbers of functions and types are mapped.
  Conditions: as each theorem states.
  The swarm: setups that are valid; Parse.
  Conditions: as each theorem states.
-/
import Derived.Test.YtdmnphocgfnlpaaGreatDoorG16
namespace Go.Proofs.YtdmnphocgfnlpaaGreatDoor
open Go Go.Abs
noncomputable section
theorem prog_mixed : Tryz.prog.follows .mixedOrders = true := by kernel_rfl
theorem okF_sound : ∀ f fn, okF f = true → Tryz.prog.funcs[f]? = some fn → fnOk Tryz.prog fn = true := by
  intro f fn h1 h2
  unfold okF at h1
  rw [h2] at h1
  exact h1
theorem known_lt : 8 < Tryz.prog.funcs.size := Nat.le_of_ble_eq_true (by kernel_rfl)
theorem known_WB : WB (callQ Tryz.prog okF X0 smF 100000 60) 8 [] (bareG Tryz.prog DI) fun v _ => v = .bool true := by
  refine ⟨fun v _ => isTrueV v, known_runs, fun v h e => ?_⟩
  have e : isTrueV v = true := e
  unfold isTrueV at e
  split at e
  · rfl
  · cases e
def s8 (args : List Value) (h : Heap) : Out := by
  classical exact if args = [] ∧ h.get 1 = some roundsL then some (.bool true, h) else none
theorem s8_eq {h : Heap} (g : h.get 1 = some roundsL) : s8 [] h = some (.bool true, h) := by
  unfold s8
  rw [if_pos ⟨rfl, g⟩]
theorem c8 : Contract Tryz.prog 8 s8 := by
  refine Contract.closedQ (callQ_sound (sm := smF) X0_sound (by unfold rounds; omega) prog_mixed okF_sound 60) known_lt (v := .bool true) rfl DI ?_ known_WB s8 ?_
  · intro b cs e
    unfold DI at e
    split at e
    · cases e; kernel_rfl
    · cases e
  · intro args h r e
    unfold s8 at e
    split at e
    · rename_i hh
      cases e
      refine ⟨hh.1, rfl, fun b cs _ hd => ?_⟩
      unfold DI at hd
      split at hd
      · cases hd; exact hh.2
      · cases hd
    · cases e
abbrev XL : List (FuncId × (List Value → Heap → Out)) := [(8, s8)]
abbrev XX : CallF := callL XL
theorem XX_sound : CSound Tryz.prog XX := callL_sound _ (by
  intro p hp
  simp only [List.mem_cons, List.not_mem_nil, or_false] at hp
  subst hp
  exact c8)
/-- Calls of the seat's functions: what is known of some, and the bodies of all others. -/
def CW : CallF := CC Tryz.prog XX
theorem CW_body {f : FuncId} {fn : Func} (i : IsFn Tryz.prog f fn) {args : List Value} {h : Heap} {r : Value × Heap} (hg : 2 ≤ h.n0) (hX : XX f args h = none) (e : bodyK Tryz.prog CW fn args h = some r) : CW f args h = some r :=
  CC_body i (by rw [globals2]; exact hg) hX e
theorem r8 {h : Heap} (g : h.get 1 = some roundsL) : CW 8 [] h = some (.bool true, h) := CC_known (show XX 8 [] h = some (.bool true, h) from s8_eq g)
end
end Go.Proofs.YtdmnphocgfnlpaaGreatDoor

namespace Go.Proofs.YtdmnphocgfnlpaaGreatDoor
open Go Go.Abs
/-- Nothing that was there has changed. -/
abbrev Old (h h' : Heap) : Prop := Kept h h' (fun _ => False)
theorem Old.get {h h' : Heap} (o : Old h h') {b : Nat} {k : Blk} (e : h.get b = some k) : h'.get b = some k := (Kept.get o b (h.lt_of_get e) (fun h => h)).trans e
theorem thenV_congr {γ : Type} {o o' : Out} {f : Value → Heap → Option γ} (h : o = o') : thenV o f = thenV o' f := by rw [h]
/-- Kinds of cells. -/
inductive Kd where
  | u8
  | i (k : IntKind)
  | b
def Kd.has : Kd → Value → Prop
  | .u8, v => ∃ n : Nat, v = .int .u8 n ∧ n < 256
  | .i k, v => ∃ n : Int, v = .int k n ∧ (Lit.int k n).wf = true
  | .b, v => ∃ t : Bool, v = .bool t
theorem Kd.has.cell {k : Kd} {v : Value} (h : k.has v) : isHole v = false ∧ v.oneCell' = true ∧ flat v = true ∧ v.cells = #[v] := by
  cases k with
  | u8 => obtain ⟨n, rfl, _⟩ := h; exact ⟨rfl, rfl, rfl, rfl⟩
  | i k => obtain ⟨n, rfl, _⟩ := h; exact ⟨rfl, rfl, rfl, rfl⟩
  | b => obtain ⟨t, rfl⟩ := h; exact ⟨rfl, rfl, rfl, rfl⟩
/-- Cells of these kinds. -/
def Typed (ks : List Kd) (cs : List Value) : Prop := cs.length = ks.length ∧ ∀ (j : Nat) (k : Kd), ks[j]? = some k → ∃ v, cs[j]? = some v ∧ k.has v
theorem Typed.cell {ks : List Kd} {cs : List Value} (h : Typed ks cs) {j : Nat} {v : Value} (hv : cs[j]? = some v) : isHole v = false ∧ v.oneCell' = true ∧ flat v = true ∧ v.cells = #[v] := by
  have hj := (List.getElem?_eq_some_iff.1 hv).1
  have hj' : j < ks.length := by rw [← h.1]; exact hj
  obtain ⟨w, hw, hk⟩ := h.2 j _ (List.getElem?_eq_getElem hj')
  rw [hv] at hw
  cases hw
  exact hk.cell
theorem Typed.all {ks : List Kd} {cs : List Value} (h : Typed ks cs) : Abs.noHoles cs = true ∧ oneCells cs = true ∧ flatAll cs = true := by
  have key : ∀ v ∈ cs, isHole v = false ∧ v.oneCell' = true ∧ flat v = true := fun v hv => by
    obtain ⟨j, hj⟩ := List.mem_iff_getElem?.1 hv
    obtain ⟨a, b, c, _⟩ := h.cell hj
    exact ⟨a, b, c⟩
  refine ⟨?_, ?_, ?_⟩
  · unfold Abs.noHoles
    rw [List.all_eq_true]
    exact fun v hv => by rw [(key v hv).1]; rfl
  · unfold oneCells
    rw [List.all_eq_true]
    exact fun v hv => (key v hv).2.1
  · unfold flatAll
    rw [List.all_eq_true]
    exact fun v hv => (key v hv).2.2
end Go.Proofs.YtdmnphocgfnlpaaGreatDoor

namespace Go.Proofs.YtdmnphocgfnlpaaGreatDoor
open Go Go.Abs
theorem box_at (h : Heap) (cs : List Value) (hc : oneCells cs = true) : box (.agg cs.toArray) h = some (ptr h.next 0, h.alloc cs) := by
  have e : (Value.agg cs.toArray).cells = cs.toArray := rfl
  unfold box
  rw [e, if_pos (by simpa using hc)]
  simp [Abs.newRow]
end Go.Proofs.YtdmnphocgfnlpaaGreatDoor

namespace Go.Proofs.YtdmnphocgfnlpaaGreatDoor
open Go Go.Abs
attribute [local congr] thenV_congr
theorem nil22 (a : Option Addr) (n c : Nat) : bin Tryz.prog .eql 28 (.slice a n c) (.slice none 0 0) = some (.bool a.isNone) := by cases a <;> kernel_rfl
theorem gtr3 (a k : Nat) : bin Tryz.prog .gtr 3 (i64n a) (.int .i64 (k : Int)) = some (.bool (decide (k < a))) := by
  rw [bin_gtr]
  congr 2
  by_cases e : k < a
  · rw [decide_eq_true e, decide_eq_true (by omega)]
  · rw [decide_eq_false e, decide_eq_false (by omega)]
end Go.Proofs.YtdmnphocgfnlpaaGreatDoor

namespace Go.Proofs.YtdmnphocgfnlpaaGreatDoor
open Go Go.Abs
section
section bytes
theorem one_u8 : ∀ l : List Nat, oneCells (l.map u8) = true
  | [] => rfl
  | x :: l => by
    have := one_u8 l
    simp only [oneCells, List.map_cons, List.all_cons] at this ⊢
    rw [this]; rfl
theorem firstA_of {a : Option Addr} {n c : Nat} {h : Heap} {l : List Nat} (e : sliceBytes a n h = some l) {m : Nat} (hm : m ≤ n) : firstA 1 m (.slice a n c) h = some ((l.take m).map u8) := by
  unfold sliceBytes at e
  rw [Option.bind_eq_some_iff] at e
  obtain ⟨cs, h1, h2⟩ := e
  obtain ⟨rfl, h3⟩ := bytesOf_eq h2
  cases a with
  | none =>
    simp only [firstA] at h1 ⊢
    split at h1
    · cases l with
      | nil => simp; omega
      | cons => simp at h1
    · cases h1
  | some x =>
    obtain ⟨b, off, s⟩ := x
    simp only [firstA, Nat.mul_one] at h1 ⊢
    by_cases hm0 : m = 0
    · subst hm0; simp
    · rw [if_neg hm0]
      rw [if_neg (by omega)] at h1
      cases hk : h.get b with
      | none => rw [hk] at h1; cases h1
      | some k =>
        rw [hk] at h1
        simp only at h1 ⊢
        split at h1
        · rename_i hl0
          have hl1 := hl0.1
          simp only [Option.some.injEq] at h1
          have hk2 : List.take m (List.drop off k) = (l.take m).map u8 := by rw [List.map_take, ← h1, List.take_take, Nat.min_eq_left hm]
          rw [if_pos ⟨by omega, by rw [hk2]; exact noHoles_u8 _⟩, hk2]
        · cases h1
end bytes

end
section
/-- A slice of bytes as they come. -/
def goodS (a : Option Addr) (n c : Nat) : Bool := Nat.ble n c && (match a with | some ⟨_, _, some s⟩ => s == 1 | _ => true)
theorem goodS_le {a : Option Addr} {n c : Nat} (h : goodS a n c = true) : n ≤ c := by
  unfold goodS at h
  rw [Bool.and_eq_true] at h
  exact Nat.le_of_ble_eq_true h.1
theorem sliceBytes_sub {b off n lo hi : Nat} {s s' : Option Nat} {h : Heap} {l : List Nat} (e : sliceBytes (some ⟨b, off, s⟩) n h = some l) (h1 : lo ≤ hi) (h2 : hi ≤ n) :
    sliceBytes (some ⟨b, off + lo, s'⟩) (hi - lo) h = some ((l.drop lo).take (hi - lo)) := by
  obtain ⟨hl, hb, hat⟩ := sliceBytes_spec e
  unfold sliceBytes
  rw [Option.bind_eq_some_iff]
  refine ⟨((l.drop lo).take (hi - lo)).map u8, ?_, bytesOf_map (fun x hx => hb x (List.mem_of_mem_drop (List.mem_of_mem_take hx)))⟩
  simp only [firstA, Nat.mul_one]
  by_cases h0 : hi - lo = 0
  · rw [if_pos h0, h0]; rfl
  · rw [if_neg h0]
    obtain ⟨b', off', s'', k, hx, hk, hkl, hk2⟩ := hat (by omega)
    cases hx
    simp only [hk]
    have hcells : (k.drop (off + lo)).take (hi - lo) = ((l.drop lo).take (hi - lo)).map u8 := by
      apply List.ext_getElem?
      intro i
      rw [List.getElem?_take, List.getElem?_map, List.getElem?_take, List.getElem?_drop, List.getElem?_drop]
      by_cases hi2 : i < hi - lo
      · rw [if_pos hi2, if_pos hi2, Nat.add_assoc, hk2 (lo + i) (by omega), List.getD_eq_getElem?_getD, List.getElem?_eq_getElem (by omega)]
        rfl
      · rw [if_neg hi2, if_neg hi2]; rfl
    rw [hcells, if_pos ⟨by omega, noHoles_u8 _⟩]
/-- A part of a slice of bytes. -/
theorem slR_bytes {a : Option Addr} {n c lo hi : Nat} {vl vh : Option Value} {h : Heap} {l : List Nat} (g : goodS a n c = true) (e : sliceBytes a n h = some l) (h1 : lo ≤ hi) (h2 : hi ≤ n) (hh : boundA n c vh = some hi) (hl : boundA 0 hi vl = some lo) :
    ∃ a' c', slR 1 (.slice a n c) vl vh none = some (.slice a' (hi - lo) c') ∧ sliceBytes a' (hi - lo) h = some ((l.drop lo).take (hi - lo)) ∧ goodS a' (hi - lo) c' = true ∧ (∀ y, a' = some y → ∃ y0, a = some y0 ∧ y0.block = y.block) := by
  have hn := goodS_le g
  have hb : boundsA n c vl vh none = some (lo, hi, c) := by
    unfold boundsA
    have : boundA c c none = some c := rfl
    rw [this]
    simp only [hh, hl]
  have hble : Nat.ble (hi - lo) (c - lo) = true := Nat.ble_eq_true_of_le (by omega)
  cases a with
  | none =>
    have hl0 : l = [] := by
      unfold sliceBytes firstA at e
      by_cases hz : n = 0
      · subst hz
        obtain ⟨h3, _⟩ := sliceBytes_spec (a := none) (n := 0) (h := h) (l := l) (by unfold sliceBytes firstA; exact e)
        exact List.length_eq_zero_iff.1 h3
      · simp only [hz, if_false, Option.bind_none] at e; cases e
    have hn0 : n = 0 := by
      have := (sliceBytes_spec e).1
      rw [hl0] at this; exact this.symm
    subst hn0
    have : hi = 0 := by omega
    subst this
    have : lo = 0 := by omega
    subst this
    refine ⟨none, c - 0, ?_, ?_, ?_, fun y hy => (by cases hy)⟩
    · unfold slR sliceSl
      simp only [hb]
    · subst hl0; rfl
    · unfold goodS; simp
  | some x =>
    obtain ⟨b, off, s⟩ := x
    cases s with
    | none =>
      refine ⟨some ⟨b, if c = lo then off else off + lo * 1, none⟩, c - lo, ?_, ?_, ?_, fun y hy => ⟨_, rfl, (by cases hy; rfl)⟩⟩
      · unfold slR sliceSl
        simp only [hb]
      · by_cases hc : c = lo
        · have h3 : hi - lo = 0 := by omega
          rw [if_pos hc, h3]
          have : (l.drop lo).take 0 = [] := rfl
          rw [this]
          unfold sliceBytes firstA; simp; rfl
        · rw [if_neg hc, Nat.mul_one]
          exact sliceBytes_sub e h1 h2
      · unfold goodS; rw [hble]; rfl
    | some s =>
      have hs : s = 1 := by
        unfold goodS at g
        rw [Bool.and_eq_true] at g
        exact eq_of_beq g.2
      subst hs
      refine ⟨some ⟨b, off + lo * 1, some 1⟩, c - lo, ?_, ?_, ?_, fun y hy => ⟨_, rfl, (by cases hy; rfl)⟩⟩
      · unfold slR sliceSl
        simp [hb]
      · rw [Nat.mul_one]; exact sliceBytes_sub e h1 h2
      · unfold goodS; rw [hble]; rfl
theorem sliceBytes_congr {a : Option Addr} {n : Nat} {h h' : Heap} (e : ∀ x, a = some x → h'.get x.block = h.get x.block) : sliceBytes a n h' = sliceBytes a n h := by
  unfold sliceBytes firstA
  cases a with
  | none => rfl
  | some x => simp only [e x rfl]
end
section
theorem sliceBytes_at {h : Heap} {b off n : Nat} {s : Option Nat} {l : List Nat} (hg : h.get b = some (l.map u8)) (hl : off + n ≤ l.length) (hb : ∀ x ∈ l, x < 256) : sliceBytes (some ⟨b, off, s⟩) n h = some ((l.drop off).take n) := by
  unfold sliceBytes
  rw [Option.bind_eq_some_iff]
  refine ⟨((l.drop off).take n).map u8, ?_, bytesOf_map (fun y hy => hb y (List.mem_of_mem_drop (List.mem_of_mem_take hy)))⟩
  simp only [firstA, hg, Nat.mul_one]
  by_cases h0 : n = 0
  · rw [if_pos h0, h0]; rfl
  · rw [if_neg h0, if_pos ⟨by simpa using hl, noHoles_part _ _ _⟩]
    simp
end
section
theorem bsl_bytes (h : Heap) : bslR 1 (.int .u8 0) 0 [] h = some (.slice (some ⟨h.next, 0, none⟩) 0 0, h.alloc []) := rfl
end
section
/-- Bytes appended to an empty slice. -/
theorem append_fresh {g : Heap} {E : Nat} {a : Option Addr} {n c : Nat} {l : List Nat} (hE : g.n0 ≤ E) (hl : sliceBytes a n g = some l) (hn : n ≤ 100000000) :
    ∃ b s c' g', appendA 1 1 (.slice (some ⟨E, 0, none⟩) 0 0) (.slice a n c) g = some (.slice (some ⟨b, 0, s⟩) n c', g') ∧ sliceBytes (some ⟨b, 0, s⟩) n g' = some l ∧ goodS (some ⟨b, 0, s⟩) n c' = true ∧ (b = E ∨ (b = g.next ∧ g.next < g'.next)) ∧
      g'.n0 = g.n0 ∧ g.next ≤ g'.next ∧ (∀ e, e < g.next → g'.getB e = g.getB e) := by
  obtain ⟨hlen, hb, _⟩ := sliceBytes_spec hl
  have hf := firstA_of hl (Nat.le_refl n) (c := c)
  rw [List.take_of_length_le (by omega)] at hf
  have hcond : (!(oneCells (l.map u8)) || !(decide ((0 + n) * 1 ≤ 140737488355328)) || !(decide (0 + n ≤ 4611686018427387904)) || decide ((l.map u8).length ≠ n * 1)) = false := by
    rw [one_u8, decide_eq_true (by omega : (0 + n) * 1 ≤ 140737488355328), decide_eq_true (by omega : 0 + n ≤ 4611686018427387904), decide_eq_false (by simp; omega)]; rfl
  unfold appendA
  simp only [lenA, hf]
  rw [if_neg (by rw [hcond]; decide)]
  by_cases h0 : n = 0
  · subst h0
    have : l = [] := List.length_eq_zero_iff.1 hlen
    subst this
    rw [if_pos (by omega), if_pos rfl]
    exact ⟨E, none, 0, g, rfl, rfl, rfl, .inl rfl, rfl, Nat.le_refl _, fun _ _ => rfl⟩
  · rw [if_neg (by omega)]
    have f0 : firstA 1 0 (.slice (some ⟨E, 0, none⟩) 0 0) g = some [] := rfl
    simp only [f0]
    rw [if_neg (by simp)]
    refine ⟨g.next, some 1, 0 + n, g.alloc ([] ++ l.map u8), by rw [Nat.zero_add], ?_, ?_, .inr ⟨rfl, by simp⟩, rfl, by simp, ?_⟩
    · rw [List.nil_append, sliceBytes_at (l := l) (by rw [Heap.get_alloc, if_pos rfl]) (by omega) hb, List.drop_zero, List.take_of_length_le (by omega)]
    · unfold goodS
      rw [Nat.zero_add]
      simp
    · intro e he
      rw [Heap.getB_alloc, if_neg (by omega)]
end
section
theorem Old.bytes {h h' : Heap} (o : Old h h') {a : Option Addr} {n : Nat} {l : List Nat} (e : sliceBytes a n h = some l) : sliceBytes a n h' = some l := sliceBytes_mono e fun _ _ => o.get
theorem r69b {a : Option Addr} {n c : Nat} {l : List Nat} {h : Heap} (hG : 2 ≤ h.n0) (hl : sliceBytes a n h = some l) (hn : n ≤ 100000000) :
    ∃ a' c' h', CW 81 [.slice a n c] h = some (.slice a' n c', h') ∧ sliceBytes a' n h' = some l ∧ goodS a' n c' = true ∧ Old h h' ∧ (∀ y, a' = some y → h.next ≤ y.block ∧ y.block < h'.next) ∧ (a'.isNone = a.isNone) := by
  cases a with
  | none =>
    have h0 : n = 0 := by
      obtain ⟨h1, _, h3⟩ := sliceBytes_spec hl
      by_cases hz : n = 0
      · exact hz
      · obtain ⟨_, _, _, _, h4, _⟩ := h3 (by omega); cases h4
    subst h0
    refine ⟨none, 0, h, CW_body is81 hG rfl ((t81_eq _ _ _).trans ?_), hl, rfl, Kept.refl _ _, fun y hy => by (cases hy), rfl⟩
    unfold t81
    simp -implicitDefEqProofs only [thenV_some, nil22, pu_some, Option.isNone_none]
  | some x =>
    have hl1 : sliceBytes (some x) n (h.alloc []) = some l := sliceBytes_mono hl fun _ _ hc => Heap.get_alloc_some hc _
    obtain ⟨b, s, c', g', e1, e2, e3, e4, e5, e6, e7⟩ := append_fresh (g := h.alloc []) (E := h.next) (c := c) h.n0_le_next hl1 hn
    refine ⟨some ⟨b, 0, s⟩, c', g', CW_body is81 hG rfl ((t81_eq _ _ _).trans ?_), e2, e3, (Kept.alloc h [] _).trans ⟨e5, e6, fun d hd _ => e7 d hd⟩, ?_, rfl⟩
    · unfold t81
      simp -implicitDefEqProofs only [thenV_some, nil22, pu_some, Option.isNone_some, bsl_bytes, e1]
    · intro y hy
      cases hy
      have hn1 : (h.alloc []).next = h.next + 1 := by simp
      show h.next ≤ b ∧ b < g'.next
      rcases e4 with e4 | ⟨e4, e8⟩
      · omega
      · omega
/-- What is not touched holds the bytes that it held. -/
theorem _root_.Go.Abs.Kept.bytes {h h' : Heap} {B : Nat → Prop} (k : Kept h h' B) {a : Option Addr} {n : Nat} {l : List Nat} (e : sliceBytes a n h = some l) (hb : ∀ y, a = some y → 0 < n → ¬ B y.block) : sliceBytes a n h' = some l := by
  by_cases h0 : n = 0
  · subst h0
    obtain ⟨hl, _, _⟩ := sliceBytes_spec e
    have : l = [] := List.length_eq_zero_iff.1 hl
    subst this
    cases a with
    | none => rfl
    | some x => unfold sliceBytes firstA; simp; rfl
  · obtain ⟨_, _, h3⟩ := sliceBytes_spec e
    obtain ⟨b, off, s, c, rfl, hc, _⟩ := h3 (by omega)
    rw [sliceBytes_congr (h := h) (fun y hy => by cases hy; exact k.get b (h.lt_of_get hc) (hb _ rfl (by omega)))]
    exact e
/-- Bytes do not lie where something else lies. -/
theorem bytes_apart {h : Heap} {a : Option Addr} {n : Nat} {l : List Nat} (e : sliceBytes a n h = some l) {r : Nat} {k : Blk} (hk : h.get r = some k) (hv : ∀ v ∈ k, nat8 v = none) : ∀ y, a = some y → 0 < n → y.block ≠ r := by
  intro y hy hn he
  obtain ⟨_, hb, h3⟩ := sliceBytes_spec e
  obtain ⟨b, off, s, c, rfl, hc, hlen, hat⟩ := h3 hn
  cases hy
  have : b = r := he
  subst this
  rw [hk] at hc
  cases hc
  have h4 := hat 0 hn
  have h5 := hv _ (List.mem_of_getElem? h4)
  have h6 : l.getD 0 0 < 256 := by
    rw [List.getD_eq_getElem?_getD]
    cases hz : l[0]? with
    | none => decide
    | some z => exact hb z (List.mem_of_getElem? hz)
  have h7 : nat8 (u8 (l.getD 0 0)) = some (l.getD 0 0) := by
    show (if l.getD 0 0 < 256 then some (l.getD 0 0) else none) = some (l.getD 0 0)
    rw [if_pos h6]
  rw [h7] at h5; cases h5
/-- A Reader: what is left, and its error. -/
structure IsR (h : Heap) (p r : Nat) (l : List Nat) (e : Int) : Prop where
  ex : ∃ a n c, h.get r = some [.slice a n c, .int .i64 e] ∧ sliceBytes a n h = some l ∧ goodS a n c = true ∧ ∀ y, a = some y → p ≤ y.block ∧ y.block < r
  n0 : h.n0 ≤ r
  len : l.length ≤ 100000000
  g4 : 2 ≤ h.n0
  pr : p ≤ r
theorem IsR.keep {h h' : Heap} {B : Nat → Prop} {p r : Nat} {l : List Nat} {e : Int} (R : IsR h p r l e) (k : Old h h') : IsR h' p r l e := by
  obtain ⟨a, n, c, h1, h2, h3⟩ := R.ex
  exact ⟨⟨a, n, c, k.getE h1 (fun h => h), k.bytes h2, h3⟩, k.n0 ▸ R.n0, R.len, k.n0 ▸ R.g4, R.pr⟩
theorem r45 {a : Option Addr} {n c : Nat} {l : List Nat} {h : Heap} (hG : 2 ≤ h.n0) (hl : sliceBytes a n h = some l) (hn : n ≤ 100000000) :
    ∃ r h', CW 45 [.slice a n c] h = some (ptr r 0, h') ∧ IsR h' h.next r l 0 ∧ Old h h' ∧ h.next ≤ r := by
  obtain ⟨a', c', h1, e1, e2, e3, e4, e5, _⟩ := r69b (c := c) hG hl hn
  have hb : bldR [(.slice none 0 0), (.int .i64 0)] [(0, 1, .slice a' n c')] = some (.agg [.slice a' n c', .int .i64 0].toArray) := rfl
  refine ⟨h1.next, h1.alloc [.slice a' n c', .int .i64 0], CW_body is45 hG rfl ((t45_eq _ _ _).trans ?_), ⟨⟨a', n, c', by rw [Heap.get_alloc, if_pos rfl], (Kept.alloc h1 _ (fun _ => False)).bytes e2 (fun _ _ _ h => h), e3, fun y hy => e5 y hy⟩, ?_, ?_, ?_, e4.next⟩, e4.trans (Kept.alloc h1 _ _), e4.next⟩
  · unfold t45
    simp -implicitDefEqProofs only [thenV_some, e1, hb, pu_some, box_at h1 [.slice a' n c', .int .i64 0] rfl]
  · exact h1.n0_le_next
  · rw [(sliceBytes_spec hl).1]; exact hn
  · rw [Heap.n0_alloc, e4.n0]; exact hG
theorem eql134 (b o : Nat) : bin Tryz.prog .eql 82 (ptr b o) (.pointer none) = some (.bool false) := by kernel_rfl
theorem bin28n0 (a : Int) : bin Tryz.prog .neq 31 (.int .i64 a) (.int .i64 0) = some (.bool (a != 0)) := bin_neq ..
theorem rd_apart (a : Option Addr) (n c : Nat) (e : Int) : ∀ v ∈ [Value.slice a n c, .int .i64 e], nat8 v = none := by
  intro v hv
  simp only [List.mem_cons, List.not_mem_nil, or_false] at hv
  rcases hv with rfl | rfl <;> rfl
theorem r93 {p r : Nat} {l : List Nat} {h : Heap} (R : IsR h p r l 0) {n : Nat} (hn : n ≤ l.length) :
    ∃ a' c' h', CW 93 [ptr r 0, i64n n] h = some (.slice a' n c', h') ∧ sliceBytes a' n h' = some (l.take n) ∧ goodS a' n c' = true ∧ IsR h' p r (l.drop n) 0 ∧ Kept h h' (fun c => c = r) ∧ h'.next = h.next := by
  obtain ⟨a, m, c, h1, h2, h3, hB⟩ := R.ex
  have hm := (sliceBytes_spec h2).1
  subst hm
  have l0 : ld1 (ptr r 0) h = some (.slice a l.length c, h) := ld1_at h1 rfl
  have l1 : ld1 (ptr r 1) h = some (.int .i64 0, h) := ld1_at h1 rfl
  obtain ⟨a1, c1, e1, e2, e3, _⟩ := slR_bytes (vl := none) (vh := some (i64n n)) (lo := 0) (hi := n) h3 h2 (by omega) hn (by simp only [boundA, i64n]; rw [if_pos (by have := goodS_le h3; omega)]; rfl) rfl
  obtain ⟨a2, c2, f1, f2, f3, f4⟩ := slR_bytes (vl := some (i64n n)) (vh := none) (lo := n) (hi := l.length) h3 h2 hn (Nat.le_refl _) rfl (by simp only [boundA, i64n]; rw [if_pos (by omega)]; rfl)
  have hst : stN 1 (ptr r 0) (.slice a2 (l.length - n) c2) h = some (undef, h.set r [.slice a2 (l.length - n) c2, .int .i64 0]) := stN1_at h1 (by simp) R.n0 rfl rfl
  have kp : Kept h (h.set r [.slice a2 (l.length - n) c2, .int .i64 0]) (fun c => c = r) := Kept.set R.n0 h1 (.inr rfl)
  have hap := fun {a : Option Addr} {n : Nat} {l : List Nat} (e : sliceBytes a n h = some l) => bytes_apart e h1 (rd_apart _ _ _ _)
  rw [List.drop_zero, Nat.sub_zero] at e2
  rw [Nat.sub_zero] at e1 e3
  rw [List.take_of_length_le (by simp)] at f2
  refine ⟨a1, c1, h.set r [.slice a2 (l.length - n) c2, .int .i64 0], CW_body is93 R.g4 rfl ((t93_eq _ _ _ _).trans ?_), kp.bytes e2 (hap e2), e3, ⟨⟨a2, l.length - n, c2, Heap.get_set_same R.n0 h1 _, kp.bytes f2 (hap f2), f3, fun y hy => by
    obtain ⟨y0, q1, q2⟩ := f4 y hy
    rw [← q2]; exact hB y0 q1⟩, R.n0, by have := R.len; simp; omega, R.g4, R.pr⟩, kp, rfl⟩
  have g1 : ¬ ((n : Int) < 0) := by omega
  have g2 : ¬ ((n : Int) > (l.length : Int)) := by omega
  unfold t93
  simp -implicitDefEqProofs only [thenV_some, eql134, pu_some, bOf_bool, beq_self_eq_true, guardK_true, nilCheck_ptr, addP_ptr, Nat.zero_add, l1, bin28n0, bne_self_eq_false, Bool.false_eq_true, if_false, i64n, bin_lss, g1, decide_false, l0, lenL_slice, bin_gtr, g2]
  rw [show (Value.int .i64 (n : Int)) = i64n n from rfl, e1]
  simp -implicitDefEqProofs only [thenV_some, pu_some, l0, f1, hst]
theorem r92 {p r : Nat} {l : List Nat} {h : Heap} (R : IsR h p r l 0) {n : Nat} (hn : n ≤ l.length) (h8 : n ≤ 8) :
    ∃ h', CW 92 [ptr r 0, i64n n] h = some (.int .u64 (be (l.take n)), h') ∧ IsR h' p r (l.drop n) 0 ∧ Kept h h' (fun c => c = r) ∧ h'.next = h.next := by
  obtain ⟨a, c, h1, e1, e2, e3, e4, e5, e6⟩ := r93 R hn
  refine ⟨h1, CW_body is92 R.g4 rfl ((t92_eq _ _ _ _).trans ?_), e4, e5, e6⟩
  have hb : ∀ x ∈ l.take n, x < 256 := (sliceBytes_spec e2).2.1
  have hlen : (l.take n).length = n := (sliceBytes_spec e2).1
  unfold t92
  simp -implicitDefEqProofs only [thenV_some, e1, lenL_slice, pu_some]
  obtain ⟨ex, y, g, q1, q2⟩ := loop_inv (t92l92_11010_eq CW)
    (Inv := fun k y g => k ≤ n ∧ g = h1 ∧ y 10 = .slice a n c ∧ y 11 = i64n n ∧ y 12 = i64n (n - k) ∧ y 5 = .int .u64 (be ((l.take n).take (n - k))))
    (fin := fun ex y g => ex = .exit 0 ∧ g = h1 ∧ y 5 = .int .u64 (be (l.take n)))
    (by
      rintro k y g ⟨hk, rfl, i10, i11, i12, i5⟩
      unfold t92l92_11010
      simp -implicitDefEqProofs only [i11, i12, i64n, bin_lss, pu_some, thenV_some]
      by_cases hz : k = 0
      · subst hz
        simp -implicitDefEqProofs only [Nat.sub_zero, Int.lt_irrefl, decide_false]
        refine ⟨_, _, _, rfl, .inr ⟨by simp, rfl, rfl, ?_⟩⟩
        simp only [up_cons, up_nil, Nat.reduceEqDiff, if_false]
        rw [i5, Nat.sub_zero, List.take_of_length_le (by omega)]
      · have hlt : ((n - k : Nat) : Int) < (n : Int) := by omega
        obtain ⟨b, off, s, kb, hx, hkb, hoff, hat⟩ := (sliceBytes_spec e2).2.2 (by omega)
        subst hx
        have hidx : (0 : Int) ≤ ((n - k : Nat) : Int) ∧ ((n - k : Nat) : Int) < (n : Int) := by omega
        have hV := hat (n - k) (by omega)
        generalize hVd : (l.take n).getD (n - k) 0 = V at *
        have hV2 : (l.take n)[n - k]? = some V := by
          rw [← hVd, List.getD_eq_getElem?_getD, List.getElem?_eq_getElem (by omega)]; rfl
        have hV256 : V < 256 := hb V (List.mem_of_getElem? hV2)
        have hbe := be_lt (n - k) ((l.take n).take (n - k)) (by simp; omega) (fun x hx => hb x (List.mem_of_mem_take hx))
        have hbe2 : be ((l.take n).take (n - k)) < 72057594037927936 := Nat.lt_of_lt_of_le hbe (Nat.le_trans (Nat.pow_le_pow_right (by decide) (show n - k ≤ 7 by omega)) (by decide))
        obtain ⟨b1, b2⟩ := shl_or hbe2 hV256
        have hw : IntKind.wrap .u64 (V : Int) = (V : Int) := wrap_u64 (by omega) (by omega)
        have hw2 : IntKind.wrap .i64 (((n - k : Nat) : Int) + 1) = ((n - (k - 1) : Nat) : Int) := by rw [wrap_i64 (by omega) (by omega)]; omega
        simp -implicitDefEqProofs only [decide_eq_true hlt, i10, idxS, hidx, and_self, if_true, Int.toNat_natCast, Nat.mul_one, pu_some, thenV_some, ld1_at hkb hV, i5, b1, u8, cvI_int, hw, b2, bin_add, hw2]
        refine ⟨_, _, _, rfl, .inl ⟨rfl, k - 1, by omega, by omega, rfl, ?_, ?_, ?_, ?_⟩⟩
        · simp only [up_cons, up_nil, Nat.reduceEqDiff, if_false, i10]
        · simp only [up_cons, up_nil, Nat.reduceEqDiff, if_false, i11]
        · simp only [up_cons, up_nil, Nat.reduceEqDiff, if_false, if_true]
        · simp only [up_cons, up_nil, Nat.reduceEqDiff, if_false, if_true]
          rw [show n - (k - 1) = n - k + 1 by omega, List.take_add_one, hV2]
          show _ = Value.int .u64 ((be ((l.take n).take (n - k) ++ [V]) : Nat) : Int)
          rw [be_snoc])
    (k := n) (by have : rounds = 18446744073709551616 := rfl; omega)
    (x := up (bs [ptr r 0, i64n n]) [(4, .int .u64 0), (5, .int .u64 0), (8, ptr r 0), (9, i64n n), (10, .slice a n c), (11, i64n n), (12, .int .i64 0)]) (h := h1)
    ⟨Nat.le_refl _, rfl, rfl, rfl, by rw [Nat.sub_self]; rfl, by rw [Nat.sub_self]; rfl⟩
  obtain ⟨rfl, rfl, q3⟩ := q2
  rw [show (Value.int .i64 (n : Int)) = i64n n from rfl, q1]
  simp -implicitDefEqProofs only [endL_exit, b92_4, if_true, t92k92_2_eq]
  unfold t92k92_2
  simp -implicitDefEqProofs only [q3, thenV_some]
end
section
theorem IsR.byte {h : Heap} {p r : Nat} {l : List Nat} {e : Int} (R : IsR h p r l e) : ∀ x ∈ l, x < 256 := by
  obtain ⟨a, n, c, _, h2, _⟩ := R.ex
  exact (sliceBytes_spec h2).2.1
theorem be_take_lt {l : List Nat} (hb : ∀ x ∈ l, x < 256) {n : Nat} (hn : n ≤ l.length) : be (l.take n) < 256 ^ n := be_lt n _ (by simp; omega) fun x hx => hb x (List.mem_of_mem_take hx)
section
variable {p r : Nat} {l : List Nat} {h : Heap} (R : IsR h p r l 0)
include R
end
end
end Go.Proofs.YtdmnphocgfnlpaaGreatDoor

namespace Go.Proofs.YtdmnphocgfnlpaaGreatDoor
open Go Go.Abs
section
theorem getB_kill {h : Heap} {L : Nat} (h0 : h.n0 ≤ L) (hn : L < h.next) {c : Nat} (hc : c ≠ L) : (h.kill L).getB c = h.getB c := by
  unfold Heap.kill
  rw [Heap.getB_put h h0 hn, if_neg hc]
end
section
theorem IsR.lt {h : Heap} {p r : Nat} {l : List Nat} {e : Int} (R : IsR h p r l e) : r < h.next := by
  obtain ⟨a, n, c, h1, _, _⟩ := R.ex
  exact h.lt_of_get h1
end
section
theorem setPlain {h : Heap} {b : Nat} {k k' : Blk} (hk : h.get b = some k) (h0 : h.n0 ≤ b) : Kept h (h.set b k') (fun c => c = b) ∧ (h.set b k').get b = some k' := ⟨Kept.set h0 hk (.inr rfl), Heap.get_set_same h0 hk _⟩
end
section
def baseOf : Value → Option Nat
  | .slice (some a) _ _ => some a.block
  | _ => none
/-- A slice that grows: nothing yet, or a block of its own. -/
def OwnC (h : Heap) (N size : Nat) (v : Value) (len : Nat) (cells : List Value) : Prop :=
  cells.length = len * size ∧ Abs.noHoles cells = true ∧ oneCells cells = true ∧
  ((v = .slice none 0 0 ∧ len = 0) ∨ ∃ b s, v = .slice (some ⟨b, 0, s⟩) len len ∧ N ≤ b ∧ ((s = none ∧ len = 0) ∨ (s = some size ∧ h.get b = some cells)))
theorem OwnC.nil (h : Heap) (N size : Nat) : OwnC h N size (.slice none 0 0) 0 [] := ⟨by simp, rfl, rfl, .inl ⟨rfl, rfl⟩⟩
theorem OwnC.keep {h h' : Heap} {N size : Nat} {v : Value} {len : Nat} {cells : List Value} (o : OwnC h N size v len cells) {B : Nat → Prop} (k : Kept h h' B) (hB : ∀ b, baseOf v = some b → ¬ B b) : OwnC h' N size v len cells := by
  obtain ⟨h1, h2, h3, h4⟩ := o
  refine ⟨h1, h2, h3, ?_⟩
  rcases h4 with h4 | ⟨b, s, rfl, h5, h6 | ⟨h6, h7⟩⟩
  · exact .inl h4
  · exact .inr ⟨b, s, rfl, h5, .inl h6⟩
  · exact .inr ⟨b, s, rfl, h5, .inr ⟨h6, k.getE h7 (hB b rfl)⟩⟩
theorem noHoles_append (a b : List Value) (ha : Abs.noHoles a = true) (hb : Abs.noHoles b = true) : Abs.noHoles (a ++ b) = true := by
  unfold Abs.noHoles at *
  rw [List.all_append, ha, hb]; rfl
theorem oneCells_append (a b : List Value) (ha : oneCells a = true) (hb : oneCells b = true) : oneCells (a ++ b) = true := by
  unfold oneCells at *
  rw [List.all_append, ha, hb]; rfl
theorem append_own {h : Heap} {N size by_ len m : Nat} {v x : Value} {cells news : List Value} (o : OwnC h N size v len cells) (h0 : h.n0 ≤ N) (hN : N ≤ h.next) (hs : 0 < size) (hx : lenA x = some m) (hf : firstA size m x h = some news)
    (h1 : oneCells news = true) (h2 : Abs.noHoles news = true) (hl : news.length = m * size) (hb : (len + m) * by_ ≤ 140737488355328) (hc : len + m ≤ 4611686018427387904) :
    ∃ v' h', appendA size by_ v x h = some (v', h') ∧ OwnC h' N size v' (len + m) (cells ++ news) ∧ Kept h h' (fun c => baseOf v = some c ∧ h.get c = some cells) ∧ (v' = v ∨ (baseOf v' = some h.next ∧ h.next < h'.next)) := by
  have o' := o
  obtain ⟨o1, o2, o3, o4⟩ := o
  have hcond : ∀ len' : Nat, len' = len → (!(oneCells news) || !(decide ((len' + m) * by_ ≤ 140737488355328)) || !(decide (len' + m ≤ 4611686018427387904)) || decide (news.length ≠ m * size)) = false := by
    rintro _ rfl
    rw [h1, decide_eq_true hb, decide_eq_true hc, decide_eq_false (by omega)]; rfl
  by_cases hm : m = 0
  · subst hm
    have hn : news = [] := List.length_eq_zero_iff.1 (by omega)
    subst hn
    have ho : OwnC h N size v (len + 0) (cells ++ []) := by rw [List.append_nil]; exact o'
    refine ⟨v, h, ?_, ho, Kept.refl _ _, .inl rfl⟩
    rcases o4 with ⟨rfl, rfl⟩ | ⟨b, s, rfl, h5, h6⟩
    · unfold appendA
      simp only [hx, hf]
      rw [if_neg (by rw [hcond 0 rfl]; decide), if_pos (by omega), if_pos trivial]
    · unfold appendA
      simp only [hx, hf]
      rw [if_neg (by rw [hcond len rfl]; decide), if_pos (by omega), if_pos trivial]
  · have fresh : ∀ cs : List Value, cs = [] → len = 0 → OwnC (h.alloc news) N size (.slice (some ⟨h.next, 0, some size⟩) (len + m) (len + m)) (len + m) (cs ++ news) := by
      rintro _ rfl rfl
      exact ⟨by simpa using hl, by simpa using h2, by simpa using h1, .inr ⟨h.next, _, rfl, hN, .inr ⟨rfl, by rw [Heap.get_alloc, if_pos rfl]; rfl⟩⟩⟩
    rcases o4 with ⟨rfl, rfl⟩ | ⟨b, s, rfl, h5, ⟨rfl, rfl⟩ | ⟨rfl, h6⟩⟩
    · have hce : cells = [] := List.length_eq_zero_iff.1 (by simpa using o1)
      refine ⟨_, _, ?_, fresh cells hce rfl, Kept.alloc _ _ _, .inr ⟨rfl, by simp⟩⟩
      unfold appendA
      simp only [hx, hf]
      rw [if_neg (by rw [hcond 0 rfl]; decide), if_neg (by omega), if_pos trivial]
    · have hce : cells = [] := List.length_eq_zero_iff.1 (by simpa using o1)
      refine ⟨_, _, ?_, fresh cells hce rfl, Kept.alloc _ _ _, .inr ⟨rfl, by simp⟩⟩
      unfold appendA
      simp only [hx, hf]
      have f0 : firstA size 0 (.slice (some ⟨b, 0, none⟩) 0 0) h = some [] := by simp [firstA]
      rw [if_neg (by rw [hcond 0 rfl]; decide), if_neg (by omega)]
      simp only [f0]
      rw [if_neg (by simp)]; rfl
    · have hf2 : firstA size len (.slice (some ⟨b, 0, some size⟩) len len) h = some cells := by
        simp only [firstA]
        by_cases hz : len * size = 0
        · rw [if_pos hz]
          have : cells = [] := List.length_eq_zero_iff.1 (by omega)
          rw [this]
        · rw [if_neg hz]
          simp only [h6]
          have e : (cells.drop 0).take (len * size) = cells := by rw [List.drop_zero, List.take_of_length_le (by omega)]
          simp only [e]
          rw [if_pos ⟨by omega, o2⟩]
      have hlt := h.lt_of_get h6
      have hk : ∀ c, c < h.next → c ≠ b → ((h.kill b).alloc (cells ++ news)).getB c = h.getB c := by
        intro c hc hne
        rw [Heap.getB_alloc, if_neg (by rw [Heap.next_kill]; omega)]
        exact getB_kill (by omega) hlt hne
      refine ⟨.slice (some ⟨h.next, 0, some size⟩) (len + m) (len + m), (h.kill b).alloc (cells ++ news), ?_, ⟨by rw [List.length_append, o1, hl, Nat.add_mul], noHoles_append _ _ o2 h2, oneCells_append _ _ o3 h1, .inr ⟨h.next, _, rfl, hN, .inr ⟨rfl, ?_⟩⟩⟩, ⟨rfl, by simp, fun c hc hB => hk c hc (fun e => hB (by rw [e]; exact ⟨rfl, h6⟩))⟩, .inr ⟨rfl, by simp⟩⟩
      · unfold appendA
        simp only [hx, hf]
        rw [if_neg (by rw [hcond len rfl]; decide), if_neg (by omega)]
        simp only [hf2]
        rw [if_neg (by simp [o1]), if_pos (by simp [h6]; omega)]
      · rw [Heap.get_alloc, if_pos (by rw [Heap.next_kill])]
/-- Bytes that grow. -/
structure OwnB (h : Heap) (N : Nat) (v : Value) (l : List Nat) : Prop where
  own : OwnC h N 1 v l.length (l.map u8)
  byte : ∀ x ∈ l, x < 256
theorem OwnB.nil (h : Heap) (N : Nat) : OwnB h N (.slice none 0 0) [] := ⟨.nil h N 1, by simp⟩
theorem OwnB.keep {h h' : Heap} {N : Nat} {v : Value} {l : List Nat} (o : OwnB h N v l) {B : Nat → Prop} (k : Kept h h' B) (hB : ∀ b, baseOf v = some b → ¬ B b) : OwnB h' N v l := ⟨o.own.keep k hB, o.byte⟩
theorem OwnB.bytes {h : Heap} {N : Nat} {v : Value} {l : List Nat} (o : OwnB h N v l) : ∃ a c, v = .slice a l.length c ∧ sliceBytes a l.length h = some l ∧ goodS a l.length c = true ∧ (∀ y, a = some y → N ≤ y.block) ∧ (∀ y, a = some y → baseOf v = some y.block) := by
  obtain ⟨⟨o1, o2, o3, o4⟩, ob⟩ := o
  rcases o4 with ⟨rfl, h4⟩ | ⟨b, s, rfl, h5, ⟨rfl, h4⟩ | ⟨rfl, h6⟩⟩
  · have : l = [] := List.length_eq_zero_iff.1 h4
    subst this
    exact ⟨none, 0, rfl, rfl, rfl, fun y hy => (by cases hy), fun y hy => (by cases hy)⟩
  · have : l = [] := List.length_eq_zero_iff.1 h4
    subst this
    exact ⟨_, _, rfl, rfl, rfl, fun y hy => (by cases hy; exact h5), fun y hy => (by cases hy; rfl)⟩
  · refine ⟨_, _, rfl, ?_, ?_, fun y hy => by cases hy; exact h5, fun y hy => by cases hy; rfl⟩
    · have := sliceBytes_at (off := 0) (n := l.length) (s := some 1) h6 (by omega) ob
      rw [this, List.drop_zero, List.take_of_length_le (Nat.le_refl _)]
    · unfold goodS
      rw [Nat.ble_eq_true_of_le (Nat.le_refl _)]; rfl
theorem append_ownB {h : Heap} {N n c : Nat} {v : Value} {l m : List Nat} {a : Option Addr} (o : OwnB h N v l) (h0 : h.n0 ≤ N) (hN : N ≤ h.next) (hm : sliceBytes a n h = some m) (hb : l.length + n ≤ 100000000) :
    ∃ v' h', appendA 1 1 v (.slice a n c) h = some (v', h') ∧ OwnB h' N v' (l ++ m) ∧ Kept h h' (fun c => baseOf v = some c) ∧ (v' = v ∨ (baseOf v' = some h.next ∧ h.next < h'.next)) := by
  obtain ⟨hl, hbt, _⟩ := sliceBytes_spec hm
  have hf := firstA_of hm (Nat.le_refl n) (c := c)
  rw [List.take_of_length_le (by omega)] at hf
  obtain ⟨v', h', e1, e2, e3, e4⟩ := append_own (by_ := 1) o.own h0 hN (by decide) (show lenA (.slice a n c) = some n from rfl) hf (one_u8 _) (noHoles_u8 _) (by simp [hl]) (by omega) (by omega)
  refine ⟨v', h', e1, ⟨?_, ?_⟩, e3.mono (fun c _ hc => hc.1), e4⟩
  · rw [List.length_append, List.map_append, hl]; exact e2
  · intro x hx
    rcases List.mem_append.1 hx with hx | hx
    · exact o.byte x hx
    · exact hbt x hx
end
section
theorem sub3 {a b : Nat} (h : b ≤ a) (h2 : a ≤ 9223372036854775807) : bin Tryz.prog .sub 3 (i64n a) (i64n b) = some (i64n (a - b)) := by
  unfold i64n; rw [bin_sub, wrap_i64 (by omega) (by omega)]; exact congrArg (fun q => some (Value.int .i64 q)) (by omega)
end
section
/-- A Writer that has not failed: its limit and its bytes; all that is its own lies at N or above. -/
structure IsW (h : Heap) (N w lim : Nat) (l : List Nat) : Prop where
  ex : ∃ v, h.get w = some [i64n lim, .bool false, v] ∧ OwnB h N v l ∧ baseOf v ≠ some w ∧ ∀ b, baseOf v = some b → b < h.next
  n0 : h.n0 ≤ N
  Nw : N ≤ w
  small : lim ≤ 9223372036854775807
  g4 : 2 ≤ h.n0
/-- The block of a Writer's bytes. -/
noncomputable def wb (h : Heap) (w : Nat) : Option Nat := match h.get w with
  | some [_, _, v] => baseOf v
  | _ => none
/-- A block that a Writer does not own. -/
def Fr (h : Heap) (w b : Nat) : Prop := b < h.next ∧ b ≠ w ∧ wb h w ≠ some b
/-- All that the Writer does not own is as it was. -/
structure WS (w : Nat) (h h' : Heap) : Prop where
  n0 : h'.n0 = h.n0
  next : h.next ≤ h'.next
  getB : ∀ b, Fr h w b → h'.getB b = h.getB b
  fr : ∀ b, Fr h w b → Fr h' w b
theorem WS.get {w : Nat} {h h' : Heap} (x : WS w h h') (b : Nat) (f : Fr h w b) : h'.get b = h.get b := by
  unfold Heap.get
  rw [x.getB b f]
theorem WS.refl (w : Nat) (h : Heap) : WS w h h := ⟨rfl, Nat.le_refl _, fun _ _ => rfl, fun _ f => f⟩
theorem WS.trans {w : Nat} {a b c : Heap} (x : WS w a b) (y : WS w b c) : WS w a c := ⟨y.n0.trans x.n0, Nat.le_trans x.next y.next, fun d f => (y.getB d (x.fr d f)).trans (x.getB d f), fun d f => y.fr d (x.fr d f)⟩
theorem WS.of_old {w : Nat} {h h' : Heap} (hw : w < h.next) (o : Old h h') : WS w h h' := ⟨o.n0, o.next, fun b f => Kept.getB o b f.1 (fun h => h), fun b f => ⟨Nat.lt_of_lt_of_le f.1 o.next, f.2.1, by
  have : wb h' w = wb h w := by
    unfold wb
    rw [Kept.get o w hw (fun h => h)]
  rw [this]; exact f.2.2⟩⟩
theorem WS.bytes {w : Nat} {h h' : Heap} (k : WS w h h') {a : Option Addr} {n : Nat} {l : List Nat} (e : sliceBytes a n h = some l) (hb : ∀ y, a = some y → 0 < n → Fr h w y.block) : sliceBytes a n h' = some l := by
  by_cases h0 : n = 0
  · subst h0
    obtain ⟨hl, _, _⟩ := sliceBytes_spec e
    have : l = [] := List.length_eq_zero_iff.1 hl
    subst this
    cases a with
    | none => rfl
    | some x => unfold sliceBytes firstA; simp; rfl
  · obtain ⟨_, _, h3⟩ := sliceBytes_spec e
    obtain ⟨b, off, s, c, rfl, hc, _⟩ := h3 (by omega)
    rw [sliceBytes_congr (h := h) (fun y hy => by cases hy; exact k.get b (hb _ rfl (by omega)))]
    exact e
theorem IsW.lt {h : Heap} {N w lim : Nat} {l : List Nat} (W : IsW h N w lim l) : w < h.next := by
  obtain ⟨v, h1, _⟩ := W.ex
  exact h.lt_of_get h1
theorem OwnB.cell {h : Heap} {N : Nat} {v : Value} {l : List Nat} (o : OwnB h N v l) : v.cells = #[v] ∧ v.oneCell' = true ∧ isHole v = false := by
  obtain ⟨a, c, rfl, _⟩ := o.bytes
  exact ⟨rfl, rfl, rfl⟩
/-- Bytes are appended to what a Writer has. -/
theorem w_append {h : Heap} {N w lim : Nat} {l m : List Nat} {a : Option Addr} {n c : Nat} (W : IsW h N w lim l) (hm : sliceBytes a n h = some m) (hb : l.length + n ≤ 100000000) :
    ∃ v v' g g', ld1 (ptr w 2) h = some (v, h) ∧ appendA 1 1 v (.slice a n c) h = some (v', g) ∧ stN 1 (ptr w 2) v' g = some (undef, g') ∧ IsW g' N w lim (l ++ m) ∧ WS w h g' := by
  obtain ⟨v, h1, h2, h3, hbn⟩ := W.ex
  have hlt := W.lt
  have hNw := W.Nw
  obtain ⟨v', g, e1, e2, e3, e4⟩ := append_ownB (c := c) h2 W.n0 (by omega) hm (by omega)
  have hg := e3.getE h1 h3
  obtain ⟨c1, c2, c3⟩ := e2.cell
  have n0g : g.n0 ≤ w := by rw [e3.n0]; have := W.n0; omega
  have hst : stN 1 (ptr w 2) v' g = some (undef, g.set w [i64n lim, .bool false, v']) := stN1_at hg (by simp) n0g c1 c2
  obtain ⟨k2, k3⟩ := setPlain (k' := [i64n lim, .bool false, v']) hg n0g
  have hv' : baseOf v' ≠ some w := by
    rcases e4 with rfl | ⟨e4, _⟩
    · exact h3
    · rw [e4]; intro he; cases he; omega
  refine ⟨v, v', g, _, ld1_at h1 rfl (h2.cell.2.2), e1, hst, ⟨⟨v', k3, e2.keep k2 (fun b hb hc => by subst hc; exact hv' hb), hv', fun b hb => by
    rcases e4 with rfl | ⟨e4, e5⟩
    · exact Nat.lt_of_lt_of_le (hbn b hb) (Nat.le_trans e3.next k2.next)
    · rw [e4] at hb
      cases hb
      exact Nat.lt_of_lt_of_le e5 k2.next⟩, ?_, hNw, W.small, by rw [k2.n0, e3.n0]; exact W.g4⟩, ⟨k2.n0.trans e3.n0, Nat.le_trans e3.next k2.next, fun b f => ?_, fun b f => ⟨Nat.lt_of_lt_of_le f.1 (Nat.le_trans e3.next k2.next), f.2.1, ?_⟩⟩⟩
  · rw [k2.n0, e3.n0]; exact W.n0
  · have hwb : wb h w = baseOf v := by unfold wb; rw [h1]
    have f3 := f.2.2
    rw [hwb] at f3
    exact (k2.getB b (Nat.lt_of_lt_of_le f.1 e3.next) f.2.1).trans (e3.getB b f.1 f3)
  · have hwb : wb h w = baseOf v := by unfold wb; rw [h1]
    have f3 := f.2.2
    rw [hwb] at f3
    have hwb' : wb (g.set w [i64n lim, .bool false, v']) w = baseOf v' := by unfold wb; rw [k3]
    rw [hwb']
    rcases e4 with rfl | ⟨e4, _⟩
    · exact f3
    · rw [e4]
      intro he
      cases he
      have := f.1
      omega
theorem r36 (h : Heap) (hG : 2 ≤ h.n0) {lim : Nat} (hl : lim ≤ 9223372036854775807) : ∃ h', CW 36 [i64n lim] h = some (ptr h.next 0, h') ∧ IsW h' h.next h.next lim [] ∧ Old h h' ∧ ∀ b, b < h.next → Fr h' h.next b := by
  have hmx : minmax true (.int .i64 0) [i64n lim] = some (i64n lim) := by
    simp only [minmax, i64n, if_true]
    by_cases h0 : (lim : Int) > 0
    · rw [if_pos (by simpa using h0)]
    · have : lim = 0 := by omega
      subst this; rfl
  have hb : bldR [(.int .i64 0), (.bool false), (.slice none 0 0)] [(0, 1, i64n lim)] = some (.agg [i64n lim, .bool false, .slice none 0 0].toArray) := rfl
  refine ⟨h.alloc [i64n lim, .bool false, .slice none 0 0], CW_body is36 hG rfl ((t36_eq _ _ _).trans ?_), ⟨⟨.slice none 0 0, by rw [Heap.get_alloc, if_pos rfl], .nil _ _, (by intro h; cases h), (by intro b h; cases h)⟩, h.n0_le_next, Nat.le_refl _, hl, hG⟩, Kept.alloc _ _ _, fun b hb => ⟨by rw [Heap.next_alloc]; omega, by omega, by
    have : wb (h.alloc [i64n lim, .bool false, .slice none 0 0]) h.next = none := by unfold wb; rw [Heap.get_alloc, if_pos rfl]; rfl
    rw [this]; intro h; cases h⟩⟩
  unfold t36
  simp -implicitDefEqProofs only [thenV_some, hmx, pu_some, hb, box_at h [i64n lim, .bool false, .slice none 0 0] rfl]
theorem eql110 (b o : Nat) : bin Tryz.prog .eql 71 (ptr b o) (.pointer none) = some (.bool false) := by kernel_rfl
theorem r91 {h : Heap} {N w lim : Nat} {l : List Nat} (W : IsW h N w lim l) {n : Nat} (hn : l.length + n ≤ lim) : ∃ h', CW 91 [ptr w 0, i64n n] h = some (.bool true, h') ∧ IsW h' N w lim l ∧ WS w h h' := by
  obtain ⟨v, h1, h2, h3, hbn⟩ := W.ex
  obtain ⟨a, c, hv, h4, h5, h6, h7⟩ := h2.bytes
  have hNw := W.Nw
  have n0w : h.n0 ≤ w := by have := W.n0; omega
  have l0 : ld1 (ptr w 0) h = some (i64n lim, h) := ld1_at h1 rfl
  have l1 : ld1 (ptr w 1) h = some (.bool false, h) := ld1_at h1 rfl
  have l2 : ld1 (ptr w 2) h = some (.slice a l.length c, h) := by rw [← hv]; exact ld1_at h1 rfl (h2.cell.2.2)
  have hst : stN 1 (ptr w 1) (.bool false) h = some (undef, h.set w [i64n lim, .bool false, v]) := stN1_at h1 (by simp) n0w rfl rfl
  obtain ⟨k2, k3⟩ := setPlain (k' := [i64n lim, .bool false, v]) h1 n0w
  have hsm := W.small
  have hd : (decide (lim - l.length < n)) = false := decide_eq_false (by omega)
  refine ⟨_, CW_body is91 W.g4 rfl ((t91_eq _ _ _ _).trans ?_), ⟨⟨v, k3, h2.keep k2 (fun b hb hc => by subst hc; exact h3 hb), h3, fun b hb => Nat.lt_of_lt_of_le (hbn b hb) k2.next⟩, k2.n0 ▸ W.n0, hNw, hsm, k2.n0 ▸ W.g4⟩, ⟨k2.n0, k2.next, fun b f => k2.getB b f.1 f.2.1, fun b f => ⟨Nat.lt_of_lt_of_le f.1 k2.next, f.2.1, by
    have e1 : wb h w = baseOf v := by unfold wb; rw [h1]
    have e2 : wb (h.set w [i64n lim, .bool false, v]) w = baseOf v := by unfold wb; rw [k3]
    rw [e2, ← e1]; exact f.2.2⟩⟩⟩
  have l1' : ld1 (ptr w 1) (h.set w [i64n lim, .bool false, v]) = some (.bool false, h.set w [i64n lim, .bool false, v]) := ld1_at k3 rfl
  unfold t91
  simp -implicitDefEqProofs only [thenV_some, eql110, pu_some, bOf_bool, beq_self_eq_true, guardK_true, nilCheck_ptr, addP_ptr, Nat.zero_add, l1, Bool.false_eq_true, if_false, l0, l2, lenL_slice]
  rw [show (Value.int .i64 (l.length : Int)) = i64n l.length from rfl]
  simp -implicitDefEqProofs only [sub3 (show l.length ≤ lim by omega) (show lim ≤ 9223372036854775807 by omega), pu_some, thenV_some, gtr3, hd, hst, nilCheck_ptr, addP_ptr, Nat.zero_add, l1', unA_not, Bool.not_false]
/-- A number in so many bytes, the highest first. -/
def beB : Nat → Nat → List Nat
  | 0, _ => []
  | n + 1, v => (v / 256 ^ n % 256) :: beB n v
theorem beB_length : ∀ n v, (beB n v).length = n
  | 0, _ => rfl
  | n + 1, v => by rw [beB, List.length_cons, beB_length]
theorem is90 : IsFn Tryz.prog 90 Tryz.f90 := ⟨by kernel_rfl, by kernel_rfl, by kernel_rfl, by kernel_rfl⟩
theorem bsl1 (h : Heap) (x : Nat) : bslR 1 (.int .u8 0) 1 [(0, u8 x)] h = some (.slice (some ⟨h.next, 0, none⟩) 1 1, h.alloc [u8 x]) := rfl
theorem bytes1 (h : Heap) {x : Nat} (hx : x < 256) : sliceBytes (some ⟨h.next, 0, none⟩) 1 (h.alloc [u8 x]) = some [x] := by
  have := sliceBytes_at (h := h.alloc [u8 x]) (b := h.next) (off := 0) (n := 1) (s := none) (l := [x]) (by rw [Heap.get_alloc, if_pos rfl]; rfl) (by simp) (by simpa using hx)
  rw [this]; rfl
theorem IsW.old {h h' : Heap} {N w lim : Nat} {l : List Nat} (W : IsW h N w lim l) (o : Old h h') : IsW h' N w lim l := by
  obtain ⟨v, h1, h2, h3, h4⟩ := W.ex
  exact ⟨⟨v, o.getE h1 (fun h => h), h2.keep o (fun _ _ h => h), h3, fun b hb => Nat.lt_of_lt_of_le (h4 b hb) o.next⟩, by rw [o.n0]; exact W.n0, W.Nw, W.small, by rw [o.n0]; exact W.g4⟩
theorem IsW.alloc {h : Heap} {N w lim : Nat} {l : List Nat} (W : IsW h N w lim l) (k : Blk) : IsW (h.alloc k) N w lim l := W.old (Kept.alloc _ _ _)
theorem r90 {h : Heap} {N w lim : Nat} {l : List Nat} (W : IsW h N w lim l) {v n : Nat} (h1n : 1 ≤ n) (hn : n ≤ 8) (hfit : l.length + n ≤ lim) (hsz : l.length + 8 ≤ 100000000) (hv : v < 18446744073709551616) :
    ∃ h', CW 90 [ptr w 0, .int .u64 v, i64n n] h = some (.tuple #[], h') ∧ IsW h' N w lim (l ++ beB n v) ∧ WS w h h' := by
  obtain ⟨h1, e1, W1, k1⟩ := r91 W hfit
  have hsm := W.small
  have key : Fin 30 (fun ex y g => ex = .exit 0 ∧ IsW g N w lim (l ++ beB n v) ∧ WS w h g)
      (iter (codeA Tryz.prog CW (partOf Tryz.f90 [1, 0, 1, 0, 0])) rounds (mkF 30 (up (bs [ptr w 0, .int .u64 v, i64n n]) [(6, i64n (n - 1)), (7, ptr w 0), (8, i64n n), (9, .bool true), (10, i64n n), (11, i64n (n - 1))])) h1) := by
    refine loop_fin (t90l90_1010_eq CW) (Inv := fun k y g => k ≤ n ∧ y 0 = ptr w 0 ∧ y 1 = .int .u64 v ∧ y 6 = .int .i64 ((k : Int) - 1) ∧ WS w h g ∧ ∃ cur, IsW g N w lim cur ∧ cur ++ beB k v = l ++ beB n v) ?_ n (by have : rounds = 18446744073709551616 := rfl; omega)
      ⟨Nat.le_refl _, rfl, rfl, by show i64n (n - 1) = _; unfold i64n; exact congrArg _ (by omega), k1, l, W1, rfl⟩
    rintro k y g ⟨hk, i0, i1, i6, hkept, cur, Wc, hcur⟩
    have hclen : cur.length + k = l.length + n := by
      have := congrArg List.length hcur
      simpa [beB_length] using this
    unfold t90l90_1010
    simp -implicitDefEqProofs only [i6, thenV_some, bin_geq, pu_some]
    by_cases hz : k = 0
    · subst hz
      have hd : decide ((((0 : Nat) : Int) - 1) ≥ 0) = false := by decide
      simp -implicitDefEqProofs only [hd]
      refine Rnd.out 0 ⟨rfl, ?_, hkept⟩
      have : cur = l ++ beB n v := by simpa [beB] using hcur
      rw [← this]; exact Wc
    · obtain ⟨q, rfl⟩ : ∃ q, k = q + 1 := ⟨k - 1, by omega⟩
      have hd : decide ((((q + 1 : Nat) : Int) - 1) ≥ 0) = true := decide_eq_true (by omega)
      have hm8 : bin Tryz.prog .mul 3 (.int .i64 8) (.int .i64 (((q + 1 : Nat) : Int) - 1)) = some (.int .i64 ((8 * q : Nat) : Int)) := by
        rw [bin_mul, wrap_i64 (by omega) (by omega)]
        exact congrArg (fun z => some (Value.int .i64 z)) (by omega)
      have hsh : bin Tryz.prog .shr 27 (.int .u64 (v : Int)) (.int .i64 ((8 * q : Nat) : Int)) = some (.int .u64 ((v / 256 ^ q : Nat) : Int)) := by
        rw [bin_shr_nat Tryz.prog 27 (k := .u64) (k' := .i64) (b := 8 * q) (by show 8 * q ≤ 64; omega)]
        rw [show (2 : Nat) ^ (8 * q) = 256 ^ q by rw [Nat.pow_mul]]
      have hcv : IntKind.wrap .u8 ((v / 256 ^ q : Nat) : Int) = ((v / 256 ^ q % 256 : Nat) : Int) := by
        rw [wrap_u8_mod]; omega
      have hlt8 : v / 256 ^ q % 256 < 256 := Nat.mod_lt _ (by decide)
      generalize hx : v / 256 ^ q % 256 = x at *
      obtain ⟨v1, v2, g1, g2, f1, f2, f3, f4, f5⟩ := w_append (c := 1) (Wc.alloc [u8 x]) (bytes1 g hlt8) (by omega)
      have hl2 : ld1 (ptr w 2) g = some (v1, g) := by
        obtain ⟨vv, q1, q2, q3⟩ := Wc.ex
        have e1 : ld1 (ptr w 2) g = some (vv, g) := ld1_at q1 rfl (q2.cell.2.2)
        have e2 : ld1 (ptr w 2) (g.alloc [u8 x]) = some (vv, g.alloc [u8 x]) := ld1_at (Heap.get_alloc_some q1 _) rfl (q2.cell.2.2)
        rw [e2] at f1
        simp only [Option.some.injEq, Prod.mk.injEq, and_true] at f1
        rw [← f1]; exact e1
      have hsub : bin Tryz.prog .sub 3 (.int .i64 (((q + 1 : Nat) : Int) - 1)) (.int .i64 1) = some (.int .i64 ((q : Int) - 1)) := by
        rw [bin_sub, wrap_i64 (by omega) (by omega)]
        exact congrArg (fun z => some (Value.int .i64 z)) (by omega)
      simp -implicitDefEqProofs only [hd, i0, i1, thenV_some, pu_some, nilCheck_ptr, addP_ptr, Nat.zero_add, hl2, hm8, hsh, cvI_int, hcv]
      rw [show (Value.int .u8 (x : Int)) = u8 x from rfl, bsl1]
      simp -implicitDefEqProofs only [thenV_some, f2, pu_some, nilCheck_ptr, addP_ptr, Nat.zero_add, f3, hsub]
      refine Rnd.next q (by omega) ⟨by omega, i0, i1, rfl, ?_, cur ++ [x], f4, ?_⟩
      · exact (hkept.trans (WS.of_old Wc.lt (Kept.alloc g _ _))).trans f5
      · rw [← hcur, beB, hx, List.append_assoc]; rfl
  obtain ⟨ex, y, g, q1, rfl, q2, q3⟩ := key
  refine ⟨g, CW_body is90 W.g4 rfl ((t90_eq _ _ _ _ _).trans ?_), q2, q3⟩
  unfold t90
  have hs1 : bin Tryz.prog .sub 3 (i64n n) (.int .i64 1) = some (i64n (n - 1)) := sub3 (b := 1) h1n (by omega)
  simp -implicitDefEqProofs only [thenV_some, e1, hs1, pu_some]
  rw [q1]
  simp -implicitDefEqProofs only [endL_exit, b90_2, if_true]
  have hr : Tryz.f90.results.toList = [] := by kernel_rfl
  rw [hr]; rfl
end
section
theorem is41 : IsFn Tryz.prog 41 Tryz.f41 := ⟨by kernel_rfl, by kernel_rfl, by kernel_rfl, by kernel_rfl⟩
theorem is38 : IsFn Tryz.prog 38 Tryz.f38 := ⟨by kernel_rfl, by kernel_rfl, by kernel_rfl, by kernel_rfl⟩
theorem is39 : IsFn Tryz.prog 39 Tryz.f39 := ⟨by kernel_rfl, by kernel_rfl, by kernel_rfl, by kernel_rfl⟩
theorem is37 : IsFn Tryz.prog 37 Tryz.f37 := ⟨by kernel_rfl, by kernel_rfl, by kernel_rfl, by kernel_rfl⟩
section
variable {h : Heap} {N w lim : Nat} {l : List Nat} (W : IsW h N w lim l)
include W
theorem r41 {v : Nat} (hfit : l.length + 8 ≤ lim) (hsz : l.length + 8 ≤ 100000000) (hv : v < 18446744073709551616) : ∃ h', CW 41 [ptr w 0, .int .u64 v] h = some (.tuple #[], h') ∧ IsW h' N w lim (l ++ beB 8 v) ∧ WS w h h' := by
  obtain ⟨h1, e1, e2, e3⟩ := r90 W (v := v) (n := 8) (by decide) (by decide) hfit hsz (by omega)
  have e1 : CW 90 [ptr w 0, .int .u64 v, .int .i64 8] h = _ := e1
  refine ⟨h1, CW_body is41 W.g4 rfl ((t41_eq _ _ _ _).trans ?_), e2, e3⟩
  unfold t41
  simp -implicitDefEqProofs only [thenV_some, e1]
theorem r37 {v : Nat} (hfit : l.length + 1 ≤ lim) (hsz : l.length + 8 ≤ 100000000) (hv : v < 256) : ∃ h', CW 37 [ptr w 0, .int .u8 v] h = some (.tuple #[], h') ∧ IsW h' N w lim (l ++ beB 1 v) ∧ WS w h h' := by
  obtain ⟨h1, e1, e2, e3⟩ := r90 W (v := v) (n := 1) (by decide) (by decide) hfit hsz (by omega)
  have e1 : CW 90 [ptr w 0, .int .u64 v, .int .i64 1] h = _ := e1
  have hw : IntKind.wrap .u64 (v : Int) = (v : Int) := wrap_u64 (by omega) (by omega)
  refine ⟨h1, CW_body is37 W.g4 rfl ((t37_eq _ _ _ _).trans ?_), e2, e3⟩
  unfold t37
  simp -implicitDefEqProofs only [thenV_some, cvI_int, hw, e1]
theorem r38 {v : Nat} (hfit : l.length + 2 ≤ lim) (hsz : l.length + 8 ≤ 100000000) (hv : v < 65536) : ∃ h', CW 38 [ptr w 0, .int .u16 v] h = some (.tuple #[], h') ∧ IsW h' N w lim (l ++ beB 2 v) ∧ WS w h h' := by
  obtain ⟨h1, e1, e2, e3⟩ := r90 W (v := v) (n := 2) (by decide) (by decide) hfit hsz (by omega)
  have e1 : CW 90 [ptr w 0, .int .u64 v, .int .i64 2] h = _ := e1
  have hw : IntKind.wrap .u64 (v : Int) = (v : Int) := wrap_u64 (by omega) (by omega)
  refine ⟨h1, CW_body is38 W.g4 rfl ((t38_eq _ _ _ _).trans ?_), e2, e3⟩
  unfold t38
  simp -implicitDefEqProofs only [thenV_some, cvI_int, hw, e1]
theorem r39 {v : Nat} (hfit : l.length + 4 ≤ lim) (hsz : l.length + 8 ≤ 100000000) (hv : v < 4294967296) : ∃ h', CW 39 [ptr w 0, .int .u32 v] h = some (.tuple #[], h') ∧ IsW h' N w lim (l ++ beB 4 v) ∧ WS w h h' := by
  obtain ⟨h1, e1, e2, e3⟩ := r90 W (v := v) (n := 4) (by decide) (by decide) hfit hsz (by omega)
  have e1 : CW 90 [ptr w 0, .int .u64 v, .int .i64 4] h = _ := e1
  have hw : IntKind.wrap .u64 (v : Int) = (v : Int) := wrap_u64 (by omega) (by omega)
  refine ⟨h1, CW_body is39 W.g4 rfl ((t39_eq _ _ _ _).trans ?_), e2, e3⟩
  unfold t39
  simp -implicitDefEqProofs only [thenV_some, cvI_int, hw, e1]
/-- Bytes: a copy of what was written. -/
theorem r43 (hl : l.length ≤ 100000000) : ∃ a c h', CW 43 [ptr w 0] h = some (.tuple #[.slice a l.length c, .int .i64 0], h') ∧ sliceBytes a l.length h' = some l ∧ goodS a l.length c = true ∧ Old h h' ∧ (∀ y, a = some y → h.next ≤ y.block) := by
  obtain ⟨v, h1, h2, h3⟩ := W.ex
  obtain ⟨a, c, hv, h4, h5, h6, h7⟩ := h2.bytes
  obtain ⟨a', c', h', e1, e2, e3, e4, e5, _⟩ := r69b (c := c) W.g4 h4 hl
  have l1 : ld1 (ptr w 1) h = some (.bool false, h) := ld1_at h1 rfl
  have l2 : ld1 (ptr w 2) h = some (.slice a l.length c, h) := by rw [← hv]; exact ld1_at h1 rfl (h2.cell.2.2)
  refine ⟨a', c', h', CW_body is43 W.g4 rfl ((t43_eq _ _ _).trans ?_), e2, e3, e4, fun y hy => (e5 y hy).1⟩
  unfold t43
  simp -implicitDefEqProofs only [thenV_some, eql110, pu_some, nilCheck_ptr, addP_ptr, Nat.zero_add, l1, l2, e1]
end

end
end Go.Proofs.YtdmnphocgfnlpaaGreatDoor

namespace Go.Proofs.YtdmnphocgfnlpaaGreatDoor
open Go Go.Abs
attribute [local congr] thenV_congr
end Go.Proofs.YtdmnphocgfnlpaaGreatDoor

namespace Go.Proofs.YtdmnphocgfnlpaaGreatDoor
open Go Go.Abs
noncomputable section
/-- What a Reader has left, and its error (0: none). -/
structure Rd where
  l : List Nat
  e : Int
abbrev Rd.ok (s : Rd) (n : Nat) : Prop := s.e = 0 ∧ n ≤ s.l.length
def Rd.num (s : Rd) (n : Nat) : Nat := if s.ok n then be (s.l.take n) else 0
def Rd.skip (s : Rd) (n : Nat) : Rd := if s.ok n then ⟨s.l.drop n, 0⟩ else if s.e = 0 then ⟨s.l, 4⟩ else s
/-- A Reader in this state. -/
abbrev IsRd (h : Heap) (p r : Nat) (s : Rd) : Prop := IsR h p r s.l s.e
/-- What a read leaves. -/
structure RdK (h : Heap) (p r : Nat) (s : Rd) (h' : Heap) : Prop where
  rd : IsRd h' p r s
  kept : Kept h h' (fun c => c = r)
  next : h'.next = h.next
section
variable {p r : Nat} {h : Heap}
theorem r93_err {l : List Nat} {e : Int} (R : IsR h p r l e) (he : e ≠ 0) (v : Value) : CW 93 [ptr r 0, v] h = some (.slice none 0 0, h) := by
  obtain ⟨a, m, c, h1, h2, h3, hB⟩ := R.ex
  have l1 : ld1 (ptr r 1) h = some (.int .i64 e, h) := ld1_at h1 rfl
  have hne : (e != 0) = true := by simpa using he
  refine CW_body is93 R.g4 rfl ((t93_eq _ _ _ _).trans ?_)
  unfold t93
  simp -implicitDefEqProofs only [thenV_some, eql134, pu_some, bOf_bool, beq_self_eq_true, guardK_true, nilCheck_ptr, addP_ptr, Nat.zero_add, l1, bin28n0, hne, Bool.false_eq_true, if_false]
theorem r93_short {l : List Nat} (R : IsR h p r l 0) {n : Nat} (hn : l.length < n) :
    ∃ h', CW 93 [ptr r 0, i64n n] h = some (.slice none 0 0, h') ∧ RdK h p r ⟨l, 4⟩ h' := by
  obtain ⟨a, m, c, h1, h2, h3, hB⟩ := R.ex
  have hm := (sliceBytes_spec h2).1
  subst hm
  have l0 : ld1 (ptr r 0) h = some (.slice a l.length c, h) := ld1_at h1 rfl
  have l1 : ld1 (ptr r 1) h = some (.int .i64 0, h) := ld1_at h1 rfl
  have hst : stN 1 (ptr r 1) (.int .i64 4) h = some (undef, h.set r [.slice a l.length c, .int .i64 4]) := stN1_at h1 (by simp) R.n0 rfl rfl
  have kp : Kept h (h.set r [.slice a l.length c, .int .i64 4]) (fun c => c = r) := Kept.set R.n0 h1 (.inr rfl)
  refine ⟨h.set r [.slice a l.length c, .int .i64 4], CW_body is93 R.g4 rfl ((t93_eq _ _ _ _).trans ?_), ⟨⟨a, l.length, c, Heap.get_set_same R.n0 h1 _, kp.bytes h2 (bytes_apart h2 h1 (rd_apart _ _ _ _)), h3, hB⟩, R.n0, R.len, R.g4, R.pr⟩, kp, rfl⟩
  have g1 : ¬ ((n : Int) < 0) := by omega
  have g2 : ((n : Int) > (l.length : Int)) := by omega
  unfold t93
  simp -implicitDefEqProofs only [thenV_some, eql134, pu_some, bOf_bool, beq_self_eq_true, guardK_true, nilCheck_ptr, addP_ptr, Nat.zero_add, l1, bin28n0, bne_self_eq_false, Bool.false_eq_true, if_false, i64n, bin_lss, g1, decide_false, l0, lenL_slice, bin_gtr, g2, decide_true, hst]
theorem r92_nil {n : Value} {h1 : Heap} (hg : 2 ≤ h.n0) (e1 : CW 93 [ptr r 0, n] h = some (.slice none 0 0, h1)) : CW 92 [ptr r 0, n] h = some (.int .u64 0, h1) := by
  refine CW_body is92 hg rfl ((t92_eq _ _ _ _).trans ?_)
  unfold t92
  simp -implicitDefEqProofs only [thenV_some, e1, lenL_slice, pu_some]
  obtain ⟨ex, y, g, q1, q2⟩ := loop_inv (t92l92_11010_eq CW)
    (Inv := fun k y g => g = h1 ∧ y 11 = i64n 0 ∧ y 12 = i64n 0 ∧ y 5 = .int .u64 0)
    (fin := fun ex y g => ex = .exit 0 ∧ g = h1 ∧ y 5 = .int .u64 0)
    (by
      rintro k y g ⟨rfl, i11, i12, i5⟩
      unfold t92l92_11010
      simp -implicitDefEqProofs only [i11, i12, i64n, bin_lss, pu_some, thenV_some, Int.lt_irrefl, decide_false]
      refine ⟨_, _, _, rfl, .inr ⟨by simp, rfl, rfl, ?_⟩⟩
      simp only [up_cons, up_nil, Nat.reduceEqDiff, if_false]
      exact i5)
    (k := 0) (by have : rounds = 18446744073709551616 := rfl; omega)
    (x := up (bs [ptr r 0, n]) [(4, .int .u64 0), (5, .int .u64 0), (8, ptr r 0), (9, n), (10, .slice none 0 0), (11, i64n 0), (12, .int .i64 0)]) (h := h1)
    ⟨rfl, rfl, rfl, rfl⟩
  obtain ⟨rfl, rfl, q3⟩ := q2
  rw [show (Value.int .i64 ((0 : Nat) : Int)) = i64n 0 from rfl, q1]
  simp -implicitDefEqProofs only [endL_exit, b92_4, if_true, t92k92_2_eq]
  unfold t92k92_2
  simp -implicitDefEqProofs only [q3, thenV_some]
theorem rNum {s : Rd} (R : IsRd h p r s) {n : Nat} (h8 : n ≤ 8) : ∃ h', CW 92 [ptr r 0, i64n n] h = some (.int .u64 (s.num n), h') ∧ RdK h p r (s.skip n) h' := by
  by_cases hk : s.ok n
  · obtain ⟨l, e⟩ := s
    obtain ⟨he, hn⟩ := hk
    have he : e = 0 := he
    have hn : n ≤ l.length := hn
    subst he
    obtain ⟨h', e1, e2, e3, e4⟩ := r92 R hn h8
    have q1 : (Rd.mk l 0).num n = be (l.take n) := if_pos ⟨rfl, hn⟩
    have q2 : (Rd.mk l 0).skip n = ⟨l.drop n, 0⟩ := if_pos ⟨rfl, hn⟩
    rw [q1, q2]
    exact ⟨h', e1, e2, e3, e4⟩
  · have q1 : s.num n = 0 := if_neg hk
    have q2 : s.skip n = if s.e = 0 then ⟨s.l, 4⟩ else s := if_neg hk
    rw [q1, q2]
    by_cases he : s.e = 0
    · rw [if_pos he]
      have R' : IsR h p r s.l 0 := he ▸ R
      obtain ⟨h', e1, e2⟩ := r93_short R' (Nat.lt_of_not_le fun hn => hk ⟨he, hn⟩)
      exact ⟨h', r92_nil R.g4 e1, e2⟩
    · rw [if_neg he]
      exact ⟨h, r92_nil R.g4 (r93_err R he _), R, Kept.refl _ _, rfl⟩
theorem Rd.num_lt {s : Rd} (R : IsRd h p r s) (n : Nat) : s.num n < 256 ^ n := by
  unfold Rd.num
  split
  · rename_i hk
    exact be_take_lt R.byte hk.2
  · exact Nat.pow_pos (by decide)
theorem rU8 {s : Rd} (R : IsRd h p r s) : ∃ h', CW 46 [ptr r 0] h = some (.int .u8 (s.num 1), h') ∧ RdK h p r (s.skip 1) h' := by
  obtain ⟨h1, e1, e2⟩ := rNum R (n := 1) (by decide)
  refine ⟨h1, CW_body is46 R.g4 rfl ((t46_eq _ _ _).trans ?_), e2⟩
  have e1 : CW 92 [ptr r 0, .int .i64 1] h = _ := e1
  have hb := Rd.num_lt R 1
  have hw : IntKind.wrap .u8 ((s.num 1 : Nat) : Int) = (s.num 1 : Nat) := wrap_u8 (by omega) (by omega)
  unfold t46
  simp -implicitDefEqProofs only [thenV_some, e1, cvI_int, hw]
theorem rU16 {s : Rd} (R : IsRd h p r s) : ∃ h', CW 47 [ptr r 0] h = some (.int .u16 (s.num 2), h') ∧ RdK h p r (s.skip 2) h' := by
  obtain ⟨h1, e1, e2⟩ := rNum R (n := 2) (by decide)
  refine ⟨h1, CW_body is47 R.g4 rfl ((t47_eq _ _ _).trans ?_), e2⟩
  have e1 : CW 92 [ptr r 0, .int .i64 2] h = _ := e1
  have hb := Rd.num_lt R 2
  have hw : IntKind.wrap .u16 ((s.num 2 : Nat) : Int) = (s.num 2 : Nat) := wrap_u16 (by omega) (by omega)
  unfold t47
  simp -implicitDefEqProofs only [thenV_some, e1, cvI_int, hw]
theorem rU32 {s : Rd} (R : IsRd h p r s) : ∃ h', CW 48 [ptr r 0] h = some (.int .u32 (s.num 4), h') ∧ RdK h p r (s.skip 4) h' := by
  obtain ⟨h1, e1, e2⟩ := rNum R (n := 4) (by decide)
  refine ⟨h1, CW_body is48 R.g4 rfl ((t48_eq _ _ _).trans ?_), e2⟩
  have e1 : CW 92 [ptr r 0, .int .i64 4] h = _ := e1
  have hb := Rd.num_lt R 4
  have hw : IntKind.wrap .u32 ((s.num 4 : Nat) : Int) = (s.num 4 : Nat) := wrap_u32 (by omega) (by omega)
  unfold t48
  simp -implicitDefEqProofs only [thenV_some, e1, cvI_int, hw]
theorem rU64 {s : Rd} (R : IsRd h p r s) : ∃ h', CW 50 [ptr r 0] h = some (.int .u64 (s.num 8), h') ∧ RdK h p r (s.skip 8) h' := by
  obtain ⟨h1, e1, e2⟩ := rNum R (n := 8) (by decide)
  refine ⟨h1, CW_body is50 R.g4 rfl ((t50_eq _ _ _).trans ?_), e2⟩
  have e1 : CW 92 [ptr r 0, .int .i64 8] h = _ := e1
  unfold t50
  simp -implicitDefEqProofs only [thenV_some, e1]
theorem rErr {s : Rd} (R : IsRd h p r s) : CW 49 [ptr r 0] h = some (.int .i64 s.e, h) := by
  obtain ⟨a, n, c, h1, _, _⟩ := R.ex
  have l1 : ld1 (ptr r 1) h = some (.int .i64 s.e, h) := ld1_at h1 rfl
  refine CW_body is49 R.g4 rfl ((t49_eq _ _ _).trans ?_)
  unfold t49
  simp -implicitDefEqProofs only [thenV_some, eql134, pu_some, nilCheck_ptr, addP_ptr, Nat.zero_add, l1]
end
end
end Go.Proofs.YtdmnphocgfnlpaaGreatDoor

namespace Go.Proofs.YtdmnphocgfnlpaaGreatDoor
open Go Go.Abs
noncomputable section
abbrev Rd.has (s : Rd) : Prop := s.e = 0 ∧ 2 ≤ s.l.length ∧ be (s.l.take 2) ≤ s.l.length - 2
def Rd.text (s : Rd) : List Nat := if s.has then (s.l.drop 2).take (be (s.l.take 2)) else []
def Rd.after (s : Rd) : Rd := if s.has then ⟨(s.l.drop 2).drop (be (s.l.take 2)), 0⟩ else if s.e = 0 then ⟨s.l, 4⟩ else s
theorem is51' : IsFn Tryz.prog 51 Tryz.f51 := ⟨by kernel_rfl, by kernel_rfl, by kernel_rfl, by kernel_rfl⟩
section
variable {p r : Nat} {h : Heap}
/-- The text's way where it fails behind the length. -/
theorem text_fail {l : List Nat} (R : IsR h p r l 0) {v : Nat} {h1 h2 : Heap} {s1 s2 : Rd} (hv : v < 65536) (e1 : CW 92 [ptr r 0, .int .i64 2] h = some (.int .u64 (v : Int), h1)) (k1 : RdK h p r s1 h1)
    (e2 : CW 93 [ptr r 0, i64n v] h1 = some (.slice none 0 0, h2)) (k2 : RdK h1 p r s2 h2) (hs : s2.e = 4) :
    ∃ h', CW 51 [ptr r 0] h = some (.slice none 0 0, h') ∧ RdK h p r ⟨l, 4⟩ h' := by
  obtain ⟨a, m, c, g1, g2, g3, gB⟩ := R.ex
  have l0 : ld1 (ptr r 0) h = some (.slice a m c, h) := ld1_at g1 rfl
  have l1 : ld1 (ptr r 1) h = some (.int .i64 0, h) := ld1_at g1 rfl
  have k12 : Kept h h2 (fun c => c = r) := k1.kept.also k2.kept (fun _ _ h => h)
  obtain ⟨b, m2, c2, q1, q2, q3, qB⟩ := k2.rd.ex
  have m1 : ld1 (ptr r 1) h2 = some (.int .i64 4, h2) := by rw [← hs]; exact ld1_at q1 rfl
  have hst : stN 1 (ptr r 0) (.slice a m c) h2 = some (undef, h2.set r [.slice a m c, .int .i64 s2.e]) := stN1_at q1 (by simp) k2.rd.n0 rfl rfl
  have hap := bytes_apart g2 g1 (rd_apart _ _ _ _)
  have kp : Kept h2 (h2.set r [.slice a m c, .int .i64 s2.e]) (fun c => c = r) := Kept.set k2.rd.n0 q1 (.inr rfl)
  have hw : IntKind.wrap .i64 (v : Int) = (v : Int) := wrap_i64 (by omega) (by omega)
  refine ⟨h2.set r [.slice a m c, .int .i64 s2.e], CW_body is51' R.g4 rfl ((t51_eq _ _ _).trans ?_), ⟨⟨⟨a, m, c, by rw [← hs]; exact Heap.get_set_same k2.rd.n0 q1 _, kp.bytes (k12.bytes g2 hap) hap, g3, gB⟩, by rw [Heap.n0_set]; exact k2.rd.n0, R.len, by rw [Heap.n0_set]; exact k2.rd.g4, R.pr⟩, k12.also kp (fun _ _ h => h), ?_⟩⟩
  · unfold t51
    simp -implicitDefEqProofs only [thenV_some, eql134, pu_some, bOf_bool, beq_self_eq_true, guardK_true, nilCheck_ptr, addP_ptr, Nat.zero_add, l1, bin28n0, bne_self_eq_false, Bool.false_eq_true, if_false, l0, e1, cvI_int, hw, show (Value.int .i64 (v : Int)) = i64n v from rfl, e2, m1, show ((4 : Int) != 0) = true from rfl, hst]
  · show (h2.set r _).next = h.next
    rw [Heap.next_set, k2.next, k1.next]
theorem rText {s : Rd} (R : IsRd h p r s) (he : s.e = 0 ∨ s.e = 4) : ∃ a c h', CW 51 [ptr r 0] h = some (.slice a s.text.length c, h') ∧ sliceBytes a s.text.length h' = some s.text ∧ goodS a s.text.length c = true ∧ IsRd h' p r s.after ∧ Kept h h' (fun c => c = r) ∧
    (∀ y, a = some y → h.next ≤ y.block ∧ y.block < h'.next) := by
  have fail : ∀ {h'}, ¬ s.has → CW 51 [ptr r 0] h = some (.slice none 0 0, h') → RdK h p r (if s.e = 0 then ⟨s.l, 4⟩ else s) h' → ∃ a c h', CW 51 [ptr r 0] h = some (.slice a s.text.length c, h') ∧ sliceBytes a s.text.length h' = some s.text ∧ goodS a s.text.length c = true ∧ IsRd h' p r s.after ∧ Kept h h' (fun c => c = r) ∧
    (∀ y, a = some y → h.next ≤ y.block ∧ y.block < h'.next) := by
    intro h' hn e k
    have q1 : s.text = [] := if_neg hn
    have q2 : s.after = _ := if_neg hn
    rw [q1, q2]
    exact ⟨none, 0, h', e, rfl, rfl, k.rd, k.kept, fun y hy => by cases hy⟩
  rcases he with he | he
  · obtain ⟨l, e⟩ := s
    have he : e = 0 := he
    subst he
    obtain ⟨h1, e1, k1⟩ := rNum R (n := 2) (by decide)
    have hv := Rd.num_lt R 2
    have hv : Rd.num ⟨l, 0⟩ 2 < 65536 := hv
    have e1' : CW 92 [ptr r 0, .int .i64 2] h = _ := e1
    by_cases h2 : 2 ≤ l.length
    · have q1 : Rd.num ⟨l, 0⟩ 2 = be (l.take 2) := if_pos ⟨rfl, h2⟩
      have q2 : Rd.skip ⟨l, 0⟩ 2 = ⟨l.drop 2, 0⟩ := if_pos ⟨rfl, h2⟩
      rw [q2] at k1
      have R1 : IsR h1 p r (l.drop 2) 0 := k1.rd
      rw [q1] at e1' hv
      by_cases hn : be (l.take 2) ≤ l.length - 2
      · obtain ⟨a, c, h2', f1, f2, f3, f4, f5, f6⟩ := r93 R1 (n := be (l.take 2)) (by simpa using hn)
        obtain ⟨a', c', h3, d1, d2, d3, d4, d5, _⟩ := r69b (c := c) f4.g4 f2 (by have := R1.len; simp at this; omega)
        have hh : Rd.has ⟨l, 0⟩ := ⟨rfl, h2, hn⟩
        have w1 : Rd.text ⟨l, 0⟩ = (l.drop 2).take (be (l.take 2)) := if_pos hh
        have w2 : Rd.after ⟨l, 0⟩ = ⟨(l.drop 2).drop (be (l.take 2)), 0⟩ := if_pos hh
        have w3 : ((l.drop 2).take (be (l.take 2))).length = be (l.take 2) := by simp; omega
        rw [w1, w2, w3]
        have k13 : Kept h h2' (fun c => c = r) := k1.kept.also f5 (fun _ _ h => h)
        refine ⟨a', c', h3, CW_body is51' R.g4 rfl ((t51_eq _ _ _).trans ?_), d2, d3, IsR.keep (B := fun _ => False) f4 d4, k13.also d4 (fun _ _ h => h.elim), fun y hy => by have := d5 y hy; rw [f6, k1.next] at this; exact this⟩
        obtain ⟨b, m, cc, g1, g2, g3, gB⟩ := R.ex
        have l0 : ld1 (ptr r 0) h = some (.slice b m cc, h) := ld1_at g1 rfl
        have l1 : ld1 (ptr r 1) h = some (.int .i64 0, h) := ld1_at g1 rfl
        obtain ⟨b2, m2, cc2, p1, _⟩ := f4.ex
        have m1 : ld1 (ptr r 1) h2' = some (.int .i64 0, h2') := ld1_at p1 rfl
        have hw : IntKind.wrap .i64 ((be (l.take 2) : Nat) : Int) = (be (l.take 2) : Nat) := wrap_i64 (by omega) (by omega)
        unfold t51
        simp -implicitDefEqProofs only [thenV_some, eql134, pu_some, bOf_bool, beq_self_eq_true, guardK_true, nilCheck_ptr, addP_ptr, Nat.zero_add, l1, bin28n0, bne_self_eq_false, Bool.false_eq_true, if_false, l0, e1', cvI_int, hw, show (Value.int .i64 ((be (l.take 2) : Nat) : Int)) = i64n (be (l.take 2)) from rfl, f1, m1, d1]
      · obtain ⟨h2', f1, f2⟩ := r93_short R1 (n := be (l.take 2)) (by simpa using hn)
        obtain ⟨h', z1, z2⟩ := text_fail R hv e1' k1 f1 f2 rfl
        exact fail (fun hh => hn hh.2.2) z1 z2
    · have q1 : Rd.num ⟨l, 0⟩ 2 = 0 := if_neg fun hh => h2 hh.2
      have q2 : Rd.skip ⟨l, 0⟩ 2 = ⟨l, 4⟩ := (if_neg fun hh => h2 hh.2).trans (if_pos rfl)
      rw [q2] at k1
      rw [q1] at e1'
      have f1 := r93_err k1.rd (show (4 : Int) ≠ 0 by decide) (i64n 0)
      obtain ⟨h', z1, z2⟩ := text_fail R (v := 0) (by decide) e1' k1 f1 ⟨k1.rd, Kept.refl _ _, rfl⟩ rfl
      exact fail (fun hh => h2 hh.2.1) z1 z2
  · have hn : ¬ s.has := fun hh => by have := hh.1; omega
    have hz : (if s.e = 0 then (⟨s.l, 4⟩ : Rd) else s) = s := if_neg (by omega)
    obtain ⟨a, n, c, h1, _, _⟩ := R.ex
    have l1 : ld1 (ptr r 1) h = some (.int .i64 4, h) := by rw [← he]; exact ld1_at h1 rfl
    refine fail hn (h' := h) ?_ (by rw [hz]; exact ⟨R, Kept.refl _ _, rfl⟩)
    refine CW_body is51' R.g4 rfl ((t51_eq _ _ _).trans ?_)
    unfold t51
    simp -implicitDefEqProofs only [thenV_some, eql134, pu_some, bOf_bool, beq_self_eq_true, guardK_true, nilCheck_ptr, addP_ptr, Nat.zero_add, l1, bin28n0, show ((4 : Int) != 0) = true from rfl, Bool.false_eq_true, if_false]
end
end
end Go.Proofs.YtdmnphocgfnlpaaGreatDoor

namespace Go.Proofs.YtdmnphocgfnlpaaGreatDoor
open Go Go.Abs
theorem mid {k A B C : List Value} {p n : Nat} (h : k = A ++ (B ++ C)) (hA : A.length = p) (hB : B.length = n) : (k.drop p).take n = B := by
  subst h hA hB
  rw [List.drop_left, List.take_left]
theorem ldN_mid {h : Heap} {b p n : Nat} {k A B C : List Value} (g : h.get b = some k) (e : k = A ++ (B ++ C)) (hA : A.length = p) (hB : B.length = n) (nh : Abs.noHoles B = true) : ldN n (ptr b p) h = some (.agg B.toArray, h) := by
  have hm := mid e hA hB
  have hl : p + n ≤ k.length := by rw [e, List.length_append, List.length_append]; omega
  have := ldN_at g (o := p) (n := n) hl (by rw [hm]; exact nh)
  rw [hm] at this
  exact this
theorem ldN_all {h : Heap} {b n : Nat} {k : List Value} (g : h.get b = some k) (hl : k.length = n) (nh : Abs.noHoles k = true) : ldN n (ptr b 0) h = some (.agg k.toArray, h) := ldN_mid g (A := []) (B := k) (C := []) (by simp) rfl hl nh
theorem newC_eq (cs : List Value) (h : Heap) : newC cs h = some (ptr h.next 0, h.alloc cs) := rfl
theorem stN_whole {h : Heap} {b : Nat} {k k' : Blk} (hk : h.get b = some k) (h0 : h.n0 ≤ b) {n : Nat} (hn : k.length = n) (hn' : k'.length = n) (ho : oneCells k' = true) : stN n (ptr b 0) (.agg k'.toArray) h = some (undef, h.set b k') := by
  unfold stN ptr
  have hc : (Value.agg k'.toArray).cells = k'.toArray := rfl
  simp only [hc, List.size_toArray, hn', if_true]
  unfold stL
  simp only [hk]
  rw [if_pos (by simp [ho, h0, hn, hn'])]
  have : splice k 0 k' = k' := by simp [splice, hn, hn']
  simp [this]
theorem ld_agg {t n : Nat} (h1 : aggT Tryz.prog t = some true) (h2 : sizeT Tryz.prog t = some n) (v : Value) (h : Heap) : ld Tryz.prog t v h = ldN n v h := by
  unfold ld
  rw [h1, h2]
theorem getD_mkF {n k : Nat} (hk : k < n) (x : Nat → Value) : (mkF n x).getD k undef = x k := by
  unfold mkF
  simp [hk]
/-- The results of a function with a cell and two slots. -/
theorem res_cell_two {rs : List ResultVar} {n k t z i j : Nat} (hr : rs = [.cell k t, .tmp i, .tmp j]) (h1 : aggT Tryz.prog t = some true) (h2 : sizeT Tryz.prog t = some z) (hk : k < n) (hi : i < n) (hj : j < n) (x : Nat → Value) {h : Heap} {v : Value} (e : ldN z (x k) h = some (v, h)) :
    resultsA Tryz.prog rs (mkF n x) h = some (.tuple #[v, x i, x j], h) := by
  subst hr
  simp only [resultsA, List.mapM_cons, List.mapM_nil, resultA, getD_mkF hk, getD_mkF hi, getD_mkF hj, ld_agg h1 h2, e]
  rfl
end Go.Proofs.YtdmnphocgfnlpaaGreatDoor

namespace Go.Proofs.YtdmnphocgfnlpaaGreatDoor
open Go Go.Abs
noncomputable section
structure Ev where
  kind : Int
  peer : Int
  a : Int
  b : Int
  draw : Int
  data : List Nat
def evc (e : Ev) (v : Value) : List Value := [.int .u8 e.kind, .int .i64 e.peer, .int .i64 e.a, .int .i64 e.b, .int .u64 e.draw, v]
/-- An event's cells; its data lie in blocks of Q. -/
def EvAt (h : Heap) (Q : Nat → Prop) (cs : List Value) (e : Ev) : Prop :=
  ∃ a c, cs = evc e (.slice a e.data.length c) ∧ sliceBytes a e.data.length h = some e.data ∧ (0 < e.data.length → goodS a e.data.length c = true) ∧ ∀ y, a = some y → Q y.block
theorem EvAt.keep {h h' : Heap} {Q B : Nat → Prop} {cs : List Value} {e : Ev} (x : EvAt h Q cs e) (k : Kept h h' B) (hB : ∀ b, Q b → ¬ B b) : EvAt h' Q cs e := by
  obtain ⟨a, c, h1, h2, h3, h4⟩ := x
  exact ⟨a, c, h1, k.bytes h2 fun y hy _ => hB _ (h4 y hy), h3, h4⟩
theorem EvAt.mono {h : Heap} {Q Q' : Nat → Prop} {cs : List Value} {e : Ev} (x : EvAt h Q cs e) (hQ : ∀ b, Q b → Q' b) : EvAt h Q' cs e := by
  obtain ⟨a, c, h1, h2, h3, h4⟩ := x
  exact ⟨a, c, h1, h2, h3, fun y hy => hQ _ (h4 y hy)⟩
/-- The cells of a list of events. -/
structure EvL (h : Heap) (Q : Nat → Prop) (cells : List Value) (es : List Ev) : Prop where
  len : cells.length = es.length * 6
  ev : ∀ i e, es[i]? = some e → EvAt h Q ((cells.drop (6 * i)).take 6) e
theorem EvL.keep {h h' : Heap} {Q B : Nat → Prop} {cs : List Value} {es : List Ev} (x : EvL h Q cs es) (k : Kept h h' B) (hB : ∀ b, Q b → ¬ B b) : EvL h' Q cs es :=
  ⟨x.len, fun i e he => (x.ev i e he).keep k hB⟩
theorem EvL.mono {h : Heap} {Q Q' : Nat → Prop} {cs : List Value} {es : List Ev} (x : EvL h Q cs es) (hQ : ∀ b, Q b → Q' b) : EvL h Q' cs es :=
  ⟨x.len, fun i e he => (x.ev i e he).mono hQ⟩
theorem EvL.nil (h : Heap) (Q : Nat → Prop) : EvL h Q [] [] := ⟨rfl, fun i e he => by cases i <;> cases he⟩
theorem EvL.snoc {h : Heap} {Q : Nat → Prop} {cells cs : List Value} {es : List Ev} {e : Ev} (x : EvL h Q cells es) (y : EvAt h Q cs e) : EvL h Q (cells ++ cs) (es ++ [e]) := by
  have hl : cs.length = 6 := by obtain ⟨a, c, h1, _⟩ := y; rw [h1]; rfl
  refine ⟨by rw [List.length_append, x.len, hl, List.length_append]; simp; omega, fun i f hf => ?_⟩
  rcases Nat.lt_or_ge i es.length with hi | hi
  · rw [List.getElem?_append_left hi] at hf
    have hq := x.ev i f hf
    have h6 : 6 * i + 6 ≤ cells.length := by rw [x.len]; omega
    rw [List.drop_append_of_le_length (by omega), List.take_append_of_le_length (by simp; omega)]
    exact hq
  · have : i = es.length := by
      have := (List.getElem?_eq_some_iff.1 hf).1
      simp at this; omega
    subst this
    rw [List.getElem?_append_right (Nat.le_refl _), Nat.sub_self] at hf
    have hf : e = f := Option.some.inj hf
    subst hf
    have hlen : 6 * es.length = cells.length := by rw [x.len]; omega
    rw [hlen, List.drop_left, List.take_of_length_le (by omega)]
    exact y
def ev0 : List Value := [.int .u8 0, .int .i64 0, .int .i64 0, .int .i64 0, .int .u64 0, .slice none 0 0]
theorem bld_ev (x1 x2 x3 x4 x5 : Int) (a : Option Addr) (n c : Nat) :
    bldR ev0 [(0, 1, .int .u8 x1), (1, 1, .int .i64 x2), (2, 1, .int .i64 x3), (3, 1, .int .i64 x4), (4, 1, .int .u64 x5), (5, 1, .slice a n c)] = some (.agg [.int .u8 x1, .int .i64 x2, .int .i64 x3, .int .i64 x4, .int .u64 x5, .slice a n c].toArray) := rfl
theorem bsl_ev (g : Heap) (x1 x2 x3 x4 x5 : Int) (a : Option Addr) (n c : Nat) :
    bslR 6 (.agg ev0.toArray) 1 [(0, .agg [.int .u8 x1, .int .i64 x2, .int .i64 x3, .int .i64 x4, .int .u64 x5, .slice a n c].toArray)] g = some (.slice (some ⟨g.next, 0, none⟩) 1 1, g.alloc [.int .u8 x1, .int .i64 x2, .int .i64 x3, .int .i64 x4, .int .u64 x5, .slice a n c]) := by
  have hz : zeros (Value.agg ev0.toArray).cells.toList 1 = ev0 := rfl
  unfold bslR
  rw [hz]
  rfl
end
end Go.Proofs.YtdmnphocgfnlpaaGreatDoor

namespace Go.Proofs.YtdmnphocgfnlpaaGreatDoor
open Go Go.Abs
noncomputable section
theorem Rd.skip_cases (s : Rd) (n : Nat) : (s.ok n ∧ s.skip n = ⟨s.l.drop n, 0⟩) ∨ (¬ s.ok n ∧ (s.skip n).e ≠ 0 ∧ (s.skip n).l = s.l) := by
  by_cases hk : s.ok n
  · exact .inl ⟨hk, if_pos hk⟩
  · refine .inr ⟨hk, ?_⟩
    have q : s.skip n = if s.e = 0 then ⟨s.l, 4⟩ else s := if_neg hk
    rw [q]
    by_cases he : s.e = 0
    · rw [if_pos he]; exact ⟨show (4 : Int) ≠ 0 by decide, rfl⟩
    · rw [if_neg he]; exact ⟨he, rfl⟩
theorem Rd.skip_e {s : Rd} (he : s.e = 0 ∨ s.e = 4) (n : Nat) : (s.skip n).e = 0 ∨ (s.skip n).e = 4 := by
  unfold Rd.skip
  split
  · exact .inl rfl
  · split
    · exact .inr rfl
    · exact he
theorem Rd.after_e {s : Rd} (he : s.e = 0 ∨ s.e = 4) : s.after.e = 0 ∨ s.after.e = 4 := by
  unfold Rd.after
  split
  · exact .inl rfl
  · split
    · exact .inr rfl
    · exact he
theorem Rd.after_cases (s : Rd) : (s.has ∧ s.after = ⟨(s.l.drop 2).drop (be (s.l.take 2)), 0⟩) ∨ (¬ s.has ∧ s.after.e ≠ 0) := by
  by_cases hk : s.has
  · exact .inl ⟨hk, if_pos hk⟩
  · refine .inr ⟨hk, ?_⟩
    have q : s.after = if s.e = 0 then ⟨s.l, 4⟩ else s := if_neg hk
    rw [q]
    by_cases he : s.e = 0
    · rw [if_pos he]; show (4 : Int) ≠ 0; decide
    · rw [if_neg he]; exact he
/-- The Reader's states within an event. -/
def q1 (l : List Nat) : Rd := Rd.skip ⟨l, 0⟩ 1
def q2 (l : List Nat) : Rd := (q1 l).skip 1
def q3 (l : List Nat) : Rd := (q2 l).skip 2
def q4 (l : List Nat) : Rd := (q3 l).skip 2
def q5 (l : List Nat) : Rd := (q4 l).skip 8
def q6 (l : List Nat) : Rd := (q5 l).after
def evOf (l : List Nat) : Ev := ⟨(Rd.num ⟨l, 0⟩ 1 : Nat), ((q1 l).num 1 : Nat), ((q2 l).num 2 : Nat), ((q3 l).num 2 : Nat), ((q4 l).num 8 : Nat), (q5 l).text⟩
theorem q5_e (l : List Nat) : (q5 l).e = 0 ∨ (q5 l).e = 4 := Rd.skip_e (Rd.skip_e (Rd.skip_e (Rd.skip_e (Rd.skip_e (.inl rfl) 1) 1) 2) 2) 8
theorem q6_e (l : List Nat) : (q6 l).e = 0 ∨ (q6 l).e = 4 := Rd.after_e (q5_e l)
/-- An event is there where sixteen bytes and its data are. -/
theorem q6_ok (l : List Nat) : ((q6 l).e = 0 ∧ 16 ≤ l.length ∧ be ((l.drop 14).take 2) ≤ l.length - 16 ∧ (q6 l).l = l.drop (16 + be ((l.drop 14).take 2)) ∧
      evOf l = ⟨(be (l.take 1) : Nat), (be ((l.drop 1).take 1) : Nat), (be ((l.drop 2).take 2) : Nat), (be ((l.drop 4).take 2) : Nat), (be ((l.drop 6).take 8) : Nat), (l.drop 16).take (be ((l.drop 14).take 2))⟩) ∨
    ((q6 l).e = 4 ∧ ¬ (16 ≤ l.length ∧ be ((l.drop 14).take 2) ≤ l.length - 16)) := by
  have bad : (q6 l).e ≠ 0 → (q6 l).e = 4 := fun h => (q6_e l).resolve_left h
  have fall : ∀ {s : Rd} {n : Nat}, s.e ≠ 0 → (s.skip n).e ≠ 0 := by
    intro s n hs
    rcases s.skip_cases n with ⟨h, _⟩ | ⟨_, h, _⟩
    · exact absurd h.1 hs
    · exact h
  have fall6 : ∀ {s : Rd}, s.e ≠ 0 → s.after.e ≠ 0 := by
    intro s hs
    rcases s.after_cases with ⟨h, _⟩ | ⟨_, h⟩
    · exact absurd h.1 hs
    · exact h
  rcases Rd.skip_cases ⟨l, 0⟩ 1 with ⟨⟨_, c1⟩, d1⟩ | ⟨c1, d1, _⟩
  rotate_left
  · refine .inr ⟨bad (fall6 (fall (fall (fall (fall d1))))), fun h => c1 ⟨rfl, show 1 ≤ l.length by omega⟩⟩
  have e1 : q1 l = ⟨l.drop 1, 0⟩ := d1
  rcases (q1 l).skip_cases 1 with ⟨⟨_, c2⟩, d2⟩ | ⟨c2, d2, _⟩
  rotate_left
  · refine .inr ⟨bad (fall6 (fall (fall (fall d2)))), fun h => c2 ⟨by rw [e1], by rw [e1]; show 1 ≤ (l.drop 1).length; simp; omega⟩⟩
  have e2 : q2 l = ⟨l.drop 2, 0⟩ := by
    show (q1 l).skip 1 = _
    rw [d2, e1]; simp
  rcases (q2 l).skip_cases 2 with ⟨⟨_, c3⟩, d3⟩ | ⟨c3, d3, _⟩
  rotate_left
  · refine .inr ⟨bad (fall6 (fall (fall d3))), fun h => c3 ⟨by rw [e2], by rw [e2]; show 2 ≤ (l.drop 2).length; simp; omega⟩⟩
  have e3 : q3 l = ⟨l.drop 4, 0⟩ := by
    show (q2 l).skip 2 = _
    rw [d3, e2]; simp
  rcases (q3 l).skip_cases 2 with ⟨⟨_, c4⟩, d4⟩ | ⟨c4, d4, _⟩
  rotate_left
  · refine .inr ⟨bad (fall6 (fall d4)), fun h => c4 ⟨by rw [e3], by rw [e3]; show 2 ≤ (l.drop 4).length; simp; omega⟩⟩
  have e4 : q4 l = ⟨l.drop 6, 0⟩ := by
    show (q3 l).skip 2 = _
    rw [d4, e3]; simp
  rcases (q4 l).skip_cases 8 with ⟨⟨_, c5⟩, d5⟩ | ⟨c5, d5, _⟩
  rotate_left
  · refine .inr ⟨bad (fall6 d5), fun h => c5 ⟨by rw [e4], by rw [e4]; show 8 ≤ (l.drop 6).length; simp; omega⟩⟩
  have e5 : q5 l = ⟨l.drop 14, 0⟩ := by
    show (q4 l).skip 8 = _
    rw [d5, e4]; simp
  rw [e1] at c2; rw [e2] at c3; rw [e3] at c4; rw [e4] at c5
  have c2 : 1 ≤ (l.drop 1).length := c2
  have c3 : 2 ≤ (l.drop 2).length := c3
  have c4 : 2 ≤ (l.drop 4).length := c4
  have c5 : 8 ≤ (l.drop 6).length := c5
  simp only [List.length_drop] at c2 c3 c4 c5
  rcases (q5 l).after_cases with ⟨c6, d6⟩ | ⟨c6, d6⟩
  · rw [e5] at c6 d6
    obtain ⟨_, c7, c8⟩ := c6
    have c7 : 2 ≤ (l.drop 14).length := c7
    have c8 : be ((l.drop 14).take 2) ≤ (l.drop 14).length - 2 := c8
    have t6 : (q5 l).text = (l.drop 16).take (be ((l.drop 14).take 2)) := by
      rw [e5]
      have : Rd.text ⟨l.drop 14, 0⟩ = ((l.drop 14).drop 2).take (be ((l.drop 14).take 2)) := if_pos ⟨rfl, c7, c8⟩
      rw [this]; simp
    simp only [List.length_drop] at c7 c8
    have d7 : q6 l = ⟨((l.drop 14).drop 2).drop (be ((l.drop 14).take 2)), 0⟩ := by
      show (q5 l).after = _
      rw [e5]; exact d6
    have h2 : 2 ≤ (l.drop 14).length := by simp; omega
    refine .inl ⟨by rw [d7], by omega, by omega, by rw [d7]; simp [Nat.add_comm, Nat.add_left_comm], ?_⟩
    have n0 : Rd.num ⟨l, 0⟩ 1 = be (l.take 1) := if_pos ⟨rfl, c1⟩
    have n1 : (q1 l).num 1 = be ((l.drop 1).take 1) := by rw [e1]; exact if_pos ⟨rfl, by show 1 ≤ (l.drop 1).length; simp; omega⟩
    have n2 : (q2 l).num 2 = be ((l.drop 2).take 2) := by rw [e2]; exact if_pos ⟨rfl, by show 2 ≤ (l.drop 2).length; simp; omega⟩
    have n3 : (q3 l).num 2 = be ((l.drop 4).take 2) := by rw [e3]; exact if_pos ⟨rfl, by show 2 ≤ (l.drop 4).length; simp; omega⟩
    have n4 : (q4 l).num 8 = be ((l.drop 6).take 8) := by rw [e4]; exact if_pos ⟨rfl, by show 8 ≤ (l.drop 6).length; simp; omega⟩
    unfold evOf
    rw [n0, n1, n2, n3, n4, t6]
  · refine .inr ⟨bad d6, fun h => c6 ?_⟩
    rw [e5]
    refine ⟨rfl, by show 2 ≤ (l.drop 14).length; simp; omega, ?_⟩
    show be ((l.drop 14).take 2) ≤ (l.drop 14).length - 2
    have := h.2
    simp only [List.length_drop]
    omega
/-- The events of bytes, by fuel. -/
def parseE : Nat → List Nat → List Ev
  | 0, _ => []
  | f + 1, l => if (q6 l).e = 0 then evOf l :: parseE f (q6 l).l else []
end
end Go.Proofs.YtdmnphocgfnlpaaGreatDoor

namespace Go.Proofs.YtdmnphocgfnlpaaGreatDoor
open Go Go.Abs
noncomputable section
theorem OwnC.base {h : Heap} {N size : Nat} {v : Value} {len : Nat} {cells : List Value} (o : OwnC h N size v len cells) {b : Nat} (hb : baseOf v = some b) : N ≤ b := by
  obtain ⟨_, _, _, h4⟩ := o
  rcases h4 with ⟨rfl, _⟩ | ⟨b', s, rfl, h5, _⟩
  · cases hb
  · cases hb; exact h5
theorem firstA_one {h : Heap} {b : Nat} {cs : List Value} {n : Nat} (g : h.get b = some cs) (hl : cs.length = n) (h0 : 0 < n) (nh : Abs.noHoles cs = true) : firstA n 1 (.slice (some ⟨b, 0, none⟩) 1 1) h = some cs := by
  have e : (cs.drop 0).take (1 * n) = cs := by rw [List.drop_zero, List.take_of_length_le (by omega)]
  simp only [firstA]
  rw [if_neg (by omega)]
  simp only [g, e]
  rw [if_pos ⟨by omega, nh⟩]
/-- What stands before a round of Parse's loop. -/
structure PL (h0 : Heap) (p r sb q N : Nat) (T : List Ev) (S Z : List Value) (k : Nat) (y : Nat → Value) (g : Heap) : Prop where
  y5 : y 5 = ptr r 0
  y6 : y 6 = ptr sb 0
  y2 : y 2 = ptr q 0
  ex : ∃ (l : List Nat) (done : List Ev) (cells : List Value), IsR g p r l 0 ∧ OwnC g N 6 (y 8) done.length cells ∧ EvL g (fun b => b < g.next ∧ baseOf (y 8) ≠ some b ∧ b ≠ r ∧ b ≠ q) cells done ∧
    done ++ parseE (k + 1) l = T ∧ l.length ≤ k ∧ done.length + l.length ≤ 100000000 ∧ (∀ b, baseOf (y 8) = some b → b < g.next)
  sbC : g.get sb = some S
  qC : g.get q = some Z
  S3 : S.length = 3 ∧ Abs.noHoles S = true ∧ oneCells S = true
  Z3 : Z.length = 3
  n0 : g.n0 ≤ N
  Nn : N ≤ g.next
  rN : r < N
  sN : sb < N
  qN : q < N
  q0 : g.n0 ≤ q
  ne : sb ≠ r ∧ q ≠ r ∧ q ≠ sb
  old : Old h0 g
  hr : h0.next ≤ r
  hq : h0.next ≤ q
/-- What stands behind Parse's loop. -/
structure PF (h0 : Heap) (q N : Nat) (T : List Ev) (S : List Value) (ex : Ex) (y : Nat → Value) (g : Heap) : Prop where
  ret : ex = .ret
  y2 : y 2 = ptr q 0
  qC : g.get q = some S
  y4 : y 4 = .int .i64 0
  ev : ∃ cells, OwnC g N 6 (y 3) T.length cells ∧ EvL g (fun b => b < g.next ∧ baseOf (y 3) ≠ some b) cells T
  old : Old h0 g
  n0 : g.n0 ≤ N
theorem nat_i64 {n m : Nat} (h : n < m) (hm : m ≤ 9223372036854775808) : IntKind.wrap .i64 (n : Int) = (n : Int) := wrap_i64 (by omega) (by omega)
theorem neq31 (a : Int) : bin Tryz.prog .neq 31 (.int .i64 a) (.int .i64 0) = some (.bool (a != 0)) := bin_neq ..
set_option maxRecDepth 100000 in
theorem parse_round {h0 : Heap} {p r sb q N : Nat} {T : List Ev} {S Z : List Value} {k : Nat} {y : Nat → Value} {g : Heap} (I : PL h0 p r sb q N T S Z k y g) :
    ∃ ex x' h', t14l14_1111110 CW y g = some (ex, mkF 57 x', h') ∧ ((ex = .normal ∧ ∃ j, j < k ∧ PL h0 p r sb q N T S Z j x' h') ∨ (ex ≠ .normal ∧ PF h0 q N T S ex x' h')) := by
  obtain ⟨l, done, cells, R, oc, el, hT, hk, hd, hbv⟩ := I.ex
  have R0 : IsRd g p r ⟨l, 0⟩ := R
  obtain ⟨h1, e1, k1⟩ := rU8 R0
  have k1 : RdK g p r (q1 l) h1 := k1
  obtain ⟨h2, e2, k2⟩ := rU8 k1.rd
  have k2 : RdK h1 p r (q2 l) h2 := k2
  obtain ⟨h3, e3, k3⟩ := rU16 k2.rd
  have k3 : RdK h2 p r (q3 l) h3 := k3
  obtain ⟨h4, e4, k4⟩ := rU16 k3.rd
  have k4 : RdK h3 p r (q4 l) h4 := k4
  obtain ⟨h5, e5, k5⟩ := rU64 k4.rd
  have k5 : RdK h4 p r (q5 l) h5 := k5
  obtain ⟨a, c, h6, e6, f1, f2, f3, f4, f5⟩ := rText k5.rd (q5_e l)
  have f3 : IsRd h6 p r (q6 l) := f3
  have w2 := nat_i64 (Rd.num_lt k1.rd 1) (by decide)
  have w3 := nat_i64 (Rd.num_lt k2.rd 2) (by decide)
  have w4 := nat_i64 (Rd.num_lt k3.rd 2) (by decide)
  generalize hev : evOf l = E at *
  have hE : E = ⟨(Rd.num ⟨l, 0⟩ 1 : Nat), ((q1 l).num 1 : Nat), ((q2 l).num 2 : Nat), ((q3 l).num 2 : Nat), ((q4 l).num 8 : Nat), (q5 l).text⟩ := hev.symm
  have kg5 : Kept g h5 (fun c => c = r) := (((k1.kept.also k2.kept (fun _ _ h => h)).also k3.kept (fun _ _ h => h)).also k4.kept (fun _ _ h => h)).also k5.kept (fun _ _ h => h)
  have n5 : h5.next = g.next := by rw [k5.next, k4.next, k3.next, k2.next, k1.next]
  have kg6 : Kept g h6 (fun c => c = r) := kg5.also f4 (fun _ _ h => h)
  generalize hcs : evc E (.slice a (q5 l).text.length c) = cs at *
  have hcs' : [Value.int .u8 (Rd.num ⟨l, 0⟩ 1 : Nat), .int .i64 ((q1 l).num 1 : Nat), .int .i64 ((q2 l).num 2 : Nat), .int .i64 ((q3 l).num 2 : Nat), .int .u64 ((q4 l).num 8 : Nat), .slice a (q5 l).text.length c] = cs := by
    rw [← hcs, hE]; rfl
  have hb := bld_ev (Rd.num ⟨l, 0⟩ 1 : Nat) ((q1 l).num 1 : Nat) ((q2 l).num 2 : Nat) ((q3 l).num 2 : Nat) ((q4 l).num 8 : Nat) a (q5 l).text.length c
  have hbs := fun g => bsl_ev g (Rd.num ⟨l, 0⟩ 1 : Nat) ((q1 l).num 1 : Nat) ((q2 l).num 2 : Nat) ((q3 l).num 2 : Nat) ((q4 l).num 8 : Nat) a (q5 l).text.length c
  rw [hcs'] at hb hbs
  have csl : cs.length = 6 := by rw [← hcs']; rfl
  have cso : Abs.noHoles cs = true ∧ oneCells cs = true := by rw [← hcs']; exact ⟨rfl, rfl⟩
  have n06 : h6.n0 ≤ h6.next := h6.n0_le_next
  let h7 := h6.alloc ev0
  have g7 : h7.get h6.next = some ev0 := by rw [Heap.get_alloc, if_pos rfl]
  let h8 := h7.set h6.next cs
  have st8 : stN 6 (ptr h6.next 0) (.agg cs.toArray) h7 = some (undef, h8) := stN_whole g7 (by rw [Heap.n0_alloc]; exact n06) rfl csl cso.2
  have g8 : h8.get h6.next = some cs := Heap.get_set_same (by rw [Heap.n0_alloc]; exact n06) g7 _
  have k68 : Old h6 h8 := (Kept.alloc h6 ev0 _).also (Kept.set (B := fun c => c = h6.next) (by rw [Heap.n0_alloc]; exact n06) g7 (.inr rfl)) (fun d hd hh => by have hh : d = h6.next := hh; omega)
  have f8 : IsRd h8 p r (q6 l) := IsR.keep (B := fun _ => False) f3 k68
  have er := rErr f8
  have kg8 : Kept g h8 (fun c => c = r) := kg6.also k68 (fun _ _ h => h.elim)
  have ld8 : ldN 6 (ptr h6.next 0) h8 = some (.agg cs.toArray, h8) := ldN_all g8 csl cso.1
  have sb8 : h8.get sb = some S := kg8.getE I.sbC I.ne.1
  have q8 : h8.get q = some Z := kg8.getE I.qC I.ne.2.1
  have n08 : h8.n0 = g.n0 := kg8.n0
  have nx8 : h6.next < h8.next := by
    show _ < (h7.set _ _).next
    rw [Heap.next_set, Heap.next_alloc]; omega
  have n6 : g.next ≤ h6.next := kg6.next
  unfold t14l14_1111110
  simp -implicitDefEqProofs only [thenV_some, I.y5, e1, e2, e3, e4, e5, e6, cvI_int, w2, w3, w4, show [Value.int .u8 0, .int .i64 0, .int .i64 0, .int .i64 0, .int .u64 0, .slice none 0 0] = ev0 from rfl, hb, pu_some, newC_eq, show h6.alloc ev0 = h7 from rfl, st8, er, neq31]
  rcases q6_ok l with ⟨z1, z2, z3, z4, z5⟩ | ⟨z1, z2⟩
  · simp -implicitDefEqProofs only [z1, bne_self_eq_false]
    have hag : (Value.agg #[.int .u8 0, .int .i64 0, .int .i64 0, .int .i64 0, .int .u64 0, .slice none 0 0]) = .agg ev0.toArray := rfl
    simp -implicitDefEqProofs only [ld8, thenV_some, hag, hbs]
    have g9 : (h8.alloc cs).get h8.next = some cs := by rw [Heap.get_alloc, if_pos rfl]
    have k89 : Old h8 (h8.alloc cs) := Kept.alloc _ _ _
    have kg9 : Kept g (h8.alloc cs) (fun c => c = r) := kg8.also k89 (fun _ _ h => h.elim)
    have oc9 : OwnC (h8.alloc cs) N 6 (y 8) done.length cells := oc.keep kg9 (fun b hb hbr => by have hbr : b = r := hbr; have := oc.base hb; have := I.rN; omega)
    obtain ⟨v', hA, a1, a2, a3, a4⟩ := append_own (by_ := 64) (m := 1) oc9 (by rw [Heap.n0_alloc, n08]; exact I.n0) (by rw [Heap.next_alloc]; have := I.Nn; have := kg8.next; omega) (by decide) (x := .slice (some ⟨h8.next, 0, none⟩) 1 1) rfl (firstA_one g9 csl (by decide) cso.1) cso.2 cso.1 (by omega) (by omega) (by omega)
    simp -implicitDefEqProofs only [a1, thenV_some]
    have hk1 : 1 ≤ k := by omega
    have kA : Kept (h8.alloc cs) hA (fun c => baseOf (y 8) = some c) := a3.mono fun _ _ h => h.1
    refine ⟨_, _, _, rfl, .inl ⟨rfl, k - 1, by omega, ?_⟩⟩
    have base' : ∀ b, baseOf v' = some b → b < hA.next := by
      intro b hb'
      rcases a4 with rfl | ⟨h1', h2'⟩
      · have := hbv b hb'; have := kg9.next; have := kA.next; omega
      · rw [h1'] at hb'; cases hb'; exact h2'
    have hl' : (q6 l).l.length < l.length := by rw [z4]; simp; omega
    have data : EvAt hA (fun b => b < hA.next ∧ baseOf v' ≠ some b ∧ b ≠ r ∧ b ≠ q) cs E := by
      have d6 : EvAt h6 (fun b => g.next ≤ b ∧ b < h6.next) cs E := by
        refine ⟨a, c, ?_, ?_, ?_, ?_⟩
        · rw [← hcs, hE]
        · rw [hE]; exact f1
        · rw [hE]; exact fun _ => f2
        · intro y0 hy
          have := f5 y0 hy
          rw [n5] at this; exact this
      have dA := (d6.keep (k68.trans k89) (fun _ _ h => h)).keep kA (fun b hb1 hb2 => by have := hbv b hb2; omega)
      refine dA.mono fun b hb1 => ⟨?_, ?_, ?_, ?_⟩
      · have := k68.next; have := k89.next; have := kA.next; omega
      · intro hb2
        rcases a4 with rfl | ⟨h1', _⟩
        · have := hbv b hb2; omega
        · rw [h1'] at hb2; cases hb2
          have : (h8.alloc cs).next = h8.next + 1 := Heap.next_alloc ..
          omega
      · have := R.lt; omega
      · have := g.lt_of_get I.qC; omega
    have prev : EvL hA (fun b => b < hA.next ∧ baseOf v' ≠ some b ∧ b ≠ r ∧ b ≠ q) cells done := by
      refine ((el.keep kg9 (fun b hb1 hb2 => hb1.2.2.1 hb2)).keep kA (fun b hb1 hb2 => hb1.2.1 hb2)).mono fun b hb1 => ⟨?_, ?_, hb1.2.2⟩
      · have := kg9.next; have := kA.next; omega
      · intro hb2
        rcases a4 with rfl | ⟨h1', _⟩
        · exact hb1.2.1 hb2
        · rw [h1'] at hb2; cases hb2; have := kg9.next; omega
    have apart : ∀ b, b < N → ¬ baseOf (y 8) = some b := fun b hb hb' => by have := oc.base hb'; omega
    refine ⟨?_, ?_, ?_, ?_, kA.getE (k89.getE sb8 (fun h => h)) (apart _ I.sN), kA.getE (k89.getE q8 (fun h => h)) (apart _ I.qN), I.S3, I.Z3, ?_, ?_, I.rN, I.sN, I.qN, ?_, I.ne, ?_, I.hr, I.hq⟩
    · simp only [up_cons, up_nil, Nat.reduceEqDiff, if_false, I.y5]
    · simp only [up_cons, up_nil, Nat.reduceEqDiff, if_false, I.y6]
    · simp only [up_cons, up_nil, Nat.reduceEqDiff, if_false, I.y2]
    · simp only [up_cons, up_nil, Nat.reduceEqDiff, if_false, if_true]
      refine ⟨(q6 l).l, done ++ [E], cells ++ cs, ?_, by rw [List.length_append]; exact a2, prev.snoc data, ?_, by omega, by rw [List.length_append]; simp; omega, base'⟩
      · have f8' : IsR h8 p r (q6 l).l 0 := by have := f8; unfold IsRd at this; rw [z1] at this; exact this
        have f9 := IsR.keep (B := fun _ => False) f8' k89
        obtain ⟨a', n', c', r1, r2, r3, r4⟩ := f9.ex
        refine ⟨⟨a', n', c', kA.getE r1 (apart _ I.rN), kA.bytes r2 (fun y0 hy0 _ hb' => ?_), r3, r4⟩, by rw [kA.n0]; exact f9.n0, f9.len, by rw [kA.n0]; exact f9.g4, f9.pr⟩
        have := (r4 y0 hy0).2
        have := oc.base hb'
        have := I.rN
        omega
      · rw [← hT, show k - 1 + 1 = k by omega, List.append_assoc]
        congr 1
        show E :: parseE k (q6 l).l = parseE (k + 1) l
        unfold parseE
        rw [if_pos z1, hev]
        cases k with
        | zero => omega
        | succ k => rfl
    · rw [kA.n0, Heap.n0_alloc, n08]; exact I.n0
    · have := kA.next; have := kg9.next; have := I.Nn; omega
    · rw [kA.n0, Heap.n0_alloc, n08]; exact I.q0
    · refine (I.old.also kg9 (fun d hd hh => by have hh : d = r := hh; have := I.hr; omega)).also kA (fun d hd hh => ?_)
      have := oc.base hh
      have := I.hr
      have := I.rN
      omega
  · simp -implicitDefEqProofs only [z1, show ((4 : Int) != 0) = true from rfl]
    have lds : ldN 3 (ptr sb 0) h8 = some (.agg S.toArray, h8) := ldN_all sb8 I.S3.1 I.S3.2.1
    have q08 : h8.n0 ≤ q := by rw [n08]; exact I.q0
    have stq : stN 3 (ptr q 0) (.agg S.toArray) h8 = some (undef, h8.set q S) := stN_whole q8 q08 I.Z3 I.S3.1 I.S3.2.2
    simp -implicitDefEqProofs only [I.y6, I.y2, lds, stq, thenV_some]
    have kq : Kept h8 (h8.set q S) (fun c => c = q) := Kept.set q08 q8 (.inr rfl)
    refine ⟨_, _, _, rfl, .inr ⟨by simp, rfl, ?_, Heap.get_set_same q08 q8 _, ?_, ?_, ?_, ?_⟩⟩
    · simp only [up_cons, up_nil, Nat.reduceEqDiff, if_false, I.y2]
    · simp only [up_cons, up_nil, Nat.reduceEqDiff, if_false, if_true]
    · simp only [up_cons, up_nil, Nat.reduceEqDiff, if_false, if_true]
      have hT' : done = T := by
        rw [← hT]
        unfold parseE
        rw [if_neg (by omega), List.append_nil]
      rw [← hT']
      have oc8 := oc.keep kg8 (fun b hb hbr => by have hbr : b = r := hbr; have := oc.base hb; have := I.rN; omega)
      have ocq := oc8.keep kq (fun b hb hbr => by have hbr : b = q := hbr; have := oc.base hb; have := I.qN; omega)
      refine ⟨cells, ocq, ((el.keep kg8 (fun b hb1 hb2 => hb1.2.2.1 hb2)).keep kq (fun b hb1 hb2 => hb1.2.2.2 hb2)).mono fun b hb1 => ⟨?_, hb1.2.1⟩⟩
      have := kg8.next
      have := kq.next
      omega
    · exact (I.old.also kg8 (fun d hd hh => by have hh : d = r := hh; have := I.hr; omega)).also kq (fun d hd hh => by have hh : d = q := hh; have := I.hq; omega)
    · rw [Heap.n0_set, n08]; exact I.n0
end
end Go.Proofs.YtdmnphocgfnlpaaGreatDoor

namespace Go.Proofs.YtdmnphocgfnlpaaGreatDoor
open Go Go.Abs
attribute [local congr] thenV_congr
def strOf (l : List Nat) : ByteArray := ⟨(l.map UInt8.ofNat).toArray⟩
def u8v (n : Nat) : Value := .int .u8 (n : Int)
theorem mapM_asByte : ∀ {l : List Nat}, (l.map u8v).mapM asByte = some (l.map UInt8.ofNat)
  | [] => rfl
  | n :: l => by
    have ih := mapM_asByte (l := l)
    rw [List.map_cons, List.mapM_cons, ih]
    rfl
end Go.Proofs.YtdmnphocgfnlpaaGreatDoor

namespace Go.Proofs.YtdmnphocgfnlpaaGreatDoor
open Go Go.Abs
section
theorem cvBS_at {a : Option Addr} {n c : Nat} {h : Heap} {l : List Nat} (e : sliceBytes a n h = some l) : cvBS (.slice a n c) h = some (.string (strOf l), h) := by
  have hl := (sliceBytes_spec e).1
  have hf := firstA_of e (Nat.le_refl n) (c := c)
  rw [List.take_of_length_le (by omega)] at hf
  unfold cvBS bsR
  simp only [hf, show (l.map u8).mapM asByte = some (l.map UInt8.ofNat) from mapM_asByte]
  rfl
end
end Go.Proofs.YtdmnphocgfnlpaaGreatDoor

namespace Go.Proofs.YtdmnphocgfnlpaaGreatDoor
open Go Go.Abs
section
theorem OwnC.empty (h : Heap) {N size b : Nat} (hb : N ≤ b) : OwnC h N size (.slice (some ⟨b, 0, none⟩) 0 0) 0 [] := ⟨by simp, rfl, rfl, .inr ⟨b, none, rfl, hb, .inl ⟨rfl, rfl⟩⟩⟩
end
section
theorem is52 : IsFn Tryz.prog 52 Tryz.f52 := ⟨by kernel_rfl, by kernel_rfl, by kernel_rfl, by kernel_rfl⟩
/-- Value. -/
theorem r52 {h : Heap} (hG : 2 ≤ h.n0) {a : Option Addr} {n c : Nat} {l : List Nat} (e : sliceBytes a n h = some l) (hn : n ≤ 8) : CW 52 [.slice a n c] h = some (.int .u64 ((be l : Nat) : Int), h) := by
  obtain ⟨hl, hb, _⟩ := sliceBytes_spec e
  have hll : lenL (.slice a n c) = some (i64n n) := rfl
  refine CW_body is52 hG rfl ((t52_eq _ _ _).trans ?_)
  unfold t52
  simp -implicitDefEqProofs only [thenV_some]
  refine endL_fin (n := 20) (fin := fun ex y g => ex = .exit 0 ∧ g = h ∧ y 3 = .int .u64 ((be l : Nat) : Int)) (Q := fun o : Out => o = some (Value.int .u64 ((be l : Nat) : Int), h))
    (loop_fin (t52l52_11010_eq CW) (Inv := fun k y g => ∃ i, i + k = n ∧ y 0 = .slice a n c ∧ y 4 = i64n i ∧ g = h ∧ y 3 = .int .u64 ((be (l.take i) : Nat) : Int)) ?_ n (by have : rounds = 18446744073709551616 := rfl; omega) ⟨0, Nat.zero_add _, rfl, rfl, rfl, rfl⟩) ?_
  · rintro k y g ⟨i, hik, y0, y4, rfl, y3⟩
    unfold t52l52_11010
    simp -implicitDefEqProofs only [y4, y0, thenV_some, hll, pu_some, lss3]
    by_cases hi : i < n
    · obtain ⟨b, p, _, i1, i2⟩ := byte_at (c := c) e hi
      have hv : l.getD i 0 < 256 := by
        rw [List.getD_eq_getElem?_getD, List.getElem?_eq_getElem (by omega)]
        exact hb _ (List.getElem_mem _)
      have hbe := be_lt i (l.take i) (by simp; omega) (fun x hx => hb x (List.mem_of_mem_take hx))
      have hbe2 : be (l.take i) < 72057594037927936 := Nat.lt_of_lt_of_le hbe (Nat.le_trans (Nat.pow_le_pow_right (by decide) (show i ≤ 7 by omega)) (by decide))
      obtain ⟨b1, b2⟩ := shl_or hbe2 hv
      have hw : IntKind.wrap .u64 ((l.getD i 0 : Nat) : Int) = ((l.getD i 0 : Nat) : Int) := wrap_u64 (by omega) (by omega)
      simp -implicitDefEqProofs only [decide_eq_true hi, thenV_some, y3, b1, pu_some, i1, i2, u8, cvI_int, hw, b2, add31 (show i + 1 ≤ 9223372036854775807 by omega)]
      refine Rnd.next (k - 1) (by omega) ⟨i + 1, by omega, y0, rfl, rfl, ?_⟩
      rw [take_snocN (by omega), be_snoc]; rfl
    · have : i = n := by omega
      subst this
      simp -implicitDefEqProofs only [decide_eq_false hi]
      exact Rnd.out 0 ⟨rfl, rfl, by rw [List.take_of_length_le (by omega)] at y3; exact y3⟩
  · rintro ex z g ⟨rfl, rfl, z3⟩
    simp -implicitDefEqProofs only [endL_exit, b52_4, if_true, t52k52_2_eq]
    unfold t52k52_2
    rw [z3]
    rfl
end
section
theorem is44 : IsFn Tryz.prog 44 Tryz.f44 := ⟨by kernel_rfl, by kernel_rfl, by kernel_rfl, by kernel_rfl⟩
theorem b44_exit (C : CallF) (e : Env) (h : Heap) : b44_4 C 0 e h = k44_2 C e h := rfl
/-- A byte is appended. -/
theorem app_lit {g : Heap} {N x : Nat} {v : Value} {l : List Nat} (o : OwnB g N v l) (h0 : g.n0 ≤ N) (hN : N ≤ g.next) (hx : x < 256) (hl : l.length ≤ 1000000) :
    ∃ v' g', appendA 1 1 v (.slice (some ⟨g.next, 0, none⟩) 1 1) (g.alloc [u8 x]) = some (v', g') ∧ OwnB g' N v' (l ++ [x]) ∧ Kept g g' (fun c => baseOf v = some c) := by
  have ka : Old g (g.alloc [u8 x]) := Kept.alloc _ _ _
  obtain ⟨v', g', e1, e2, e3, _⟩ := append_ownB (c := 1) (o.keep ka (fun _ _ h => h)) (by rw [ka.n0]; exact h0) (Nat.le_trans hN ka.next) (bytes1 g hx) (by omega)
  exact ⟨v', g', e1, e2, (ka.mono (fun _ _ h => h.elim)).also e3 (fun _ _ h => h)⟩
/-- Number. -/
theorem r44 (h : Heap) (hG : 2 ≤ h.n0) {n k : Nat} (h1 : 1 ≤ k) (hk : k ≤ 8) (hn : n < 18446744073709551616) : ∃ v h', CW 44 [.int .u64 (n : Int), i64n k] h = some (v, h') ∧ OwnB h' h.next v (beB k n) ∧ Old h h' := by
  have oA : Old h (h.alloc []) := Kept.alloc _ _ _
  have nA : (h.alloc []).next = h.next + 1 := Heap.next_alloc ..
  have own0 : OwnB (h.alloc []) h.next (.slice (some ⟨h.next, 0, none⟩) 0 0) [] := ⟨OwnC.empty _ (Nat.le_refl _), by simp⟩
  have hn0 := h.n0_le_next
  have hsub : bin Tryz.prog .sub 3 (i64n k) (.int .i64 1) = some (.int .i64 ((k : Int) - 1)) := by
    unfold i64n
    rw [bin_sub, wrap_i64 (by omega) (by omega)]
  have key : ∀ o, t44 CW (.int .u64 (n : Int)) (i64n k) h = o → ∃ v h', o = some (v, h') ∧ OwnB h' h.next v (beB k n) ∧ Old h h' := by
    intro o ho
    subst ho
    unfold t44
    simp -implicitDefEqProofs only [thenV_some, bsl_bytes, hsub, pu_some]
    refine endL_fin (n := 24) (fin := fun ex y g => ex = .exit 0 ∧ OwnB g h.next (y 5) (beB k n) ∧ Old h g) (Q := fun o : Out => ∃ v h', o = some (v, h') ∧ OwnB h' h.next v (beB k n) ∧ Old h h')
      (loop_fin (t44l44_11010_eq CW) (Inv := fun m y g => m ≤ k ∧ y 0 = .int .u64 (n : Int) ∧ y 6 = .int .i64 ((m : Int) - 1) ∧ Old h g ∧ ∃ cur, OwnB g h.next (y 5) cur ∧ cur ++ beB m n = beB k n) ?_ k (by have : rounds = 18446744073709551616 := rfl; omega)
        ⟨Nat.le_refl _, rfl, rfl, oA, [], own0, rfl⟩) ?_
    · rintro m y g ⟨hm, y0, y6, old, cur, own, hcur⟩
      have hclen : cur.length + m = k := by
        have := congrArg List.length hcur
        simpa [beB_length] using this
      unfold t44l44_11010
      simp -implicitDefEqProofs only [y6, thenV_some, bin_geq, pu_some]
      by_cases hz : m = 0
      · subst hz
        have hd : decide ((((0 : Nat) : Int) - 1) ≥ 0) = false := by decide
        simp -implicitDefEqProofs only [hd]
        have : cur = beB k n := by simpa [beB] using hcur
        exact Rnd.out 0 ⟨rfl, this ▸ own, old⟩
      · obtain ⟨q, rfl⟩ : ∃ q, m = q + 1 := ⟨m - 1, by omega⟩
        have hd : decide ((((q + 1 : Nat) : Int) - 1) ≥ 0) = true := decide_eq_true (by omega)
        have hcu : IntKind.wrap .u64 (((q + 1 : Nat) : Int) - 1) = ((q : Nat) : Int) := by
          rw [wrap_u64 (by omega) (by omega)]; omega
        have hm8 : bin Tryz.prog .mul 151 (.int .u64 8) (.int .u64 ((q : Nat) : Int)) = some (.int .u64 ((8 * q : Nat) : Int)) := by
          rw [bin_mul, wrap_u64 (by omega) (by omega)]
          exact congrArg (fun z => some (Value.int .u64 z)) (by omega)
        have hsh : bin Tryz.prog .shr 27 (.int .u64 (n : Int)) (.int .u64 ((8 * q : Nat) : Int)) = some (.int .u64 ((n / 256 ^ q : Nat) : Int)) := by
          rw [bin_shr_nat Tryz.prog 27 (k := .u64) (k' := .u64) (b := 8 * q) (by show 8 * q ≤ 64; omega)]
          rw [show (2 : Nat) ^ (8 * q) = 256 ^ q by rw [Nat.pow_mul]]
        have hcv : IntKind.wrap .u8 ((n / 256 ^ q : Nat) : Int) = ((n / 256 ^ q % 256 : Nat) : Int) := by
          rw [wrap_u8_mod]; omega
        have hlt8 : n / 256 ^ q % 256 < 256 := Nat.mod_lt _ (by decide)
        generalize hx : n / 256 ^ q % 256 = x at *
        obtain ⟨v', g', e1, e2, e3⟩ := app_lit own (by rw [old.n0]; exact hn0) old.next hlt8 (by omega)
        have hsub2 : bin Tryz.prog .sub 3 (.int .i64 (((q + 1 : Nat) : Int) - 1)) (.int .i64 1) = some (.int .i64 ((q : Int) - 1)) := by
          rw [bin_sub, wrap_i64 (by omega) (by omega)]
          exact congrArg (fun z => some (Value.int .i64 z)) (by omega)
        simp -implicitDefEqProofs only [hd, y0, thenV_some, pu_some, cvI_int, hcu, hm8, hsh, hcv]
        rw [show (Value.int .u8 (x : Int)) = u8 x from rfl, bsl1]
        simp -implicitDefEqProofs only [thenV_some, e1, hsub2, pu_some]
        refine Rnd.next q (by omega) ⟨by omega, y0, rfl, old.also e3 (fun c hc hb => by have := own.own.base hb; omega), cur ++ [x], e2, ?_⟩
        rw [← hcur, beB, hx, List.append_assoc]; rfl
    · rintro ex z g ⟨rfl, own, old⟩
      simp -implicitDefEqProofs only [endL_exit, b44_exit, t44k44_2_eq]
      unfold t44k44_2
      exact ⟨_, g, rfl, own, old⟩
  obtain ⟨v, h', e, o⟩ := key _ rfl
  exact ⟨v, h', CW_body is44 hG rfl ((t44_eq _ _ _ _).trans e), o⟩
end
end Go.Proofs.YtdmnphocgfnlpaaGreatDoor

namespace Go.Proofs.YtdmnphocgfnlpaaGreatDoor
open Go Go.Abs
noncomputable section
def setC (p b q : Int) : List Value := [.int .i64 p, .int .i64 b, .int .i64 q]
def validS (p b q : Int) : Bool := decide (p ≥ 2) && decide (p ≤ 16) && decide (b ≥ 4) && decide (b ≤ 4096) && decide (q ≥ 0) && decide (q ≤ 4294967295)
theorem is12' : IsFn Tryz.prog 12 Tryz.f12 := ⟨by kernel_rfl, by kernel_rfl, by kernel_rfl, by kernel_rfl⟩
theorem is13 : IsFn Tryz.prog 13 Tryz.f13 := ⟨by kernel_rfl, by kernel_rfl, by kernel_rfl, by kernel_rfl⟩
theorem is14 : IsFn Tryz.prog 14 Tryz.f14 := ⟨by kernel_rfl, by kernel_rfl, by kernel_rfl, by kernel_rfl⟩
theorem sF : ((some false : Option Bool) == some true) = false := rfl
theorem box_set (h : Heap) (p b q : Int) : box (.agg (setC p b q).toArray) h = some (ptr h.next 0, h.alloc (setC p b q)) := box_at h _ rfl
section
variable {h : Heap} (hG : 2 ≤ h.n0) (p b q : Int)
include hG
theorem r12 : ∃ h', CW 12 [.agg (setC p b q).toArray] h = some (.bool (validS p b q), h') ∧ Old h h' := by
  refine ⟨h.alloc (setC p b q), CW_body is12' hG rfl ((t12_eq _ _ _).trans ?_), Kept.alloc _ _ _⟩
  have g : (h.alloc (setC p b q)).get h.next = some (setC p b q) := by rw [Heap.get_alloc, if_pos rfl]
  have l0 : ld1 (ptr h.next 0) (h.alloc (setC p b q)) = some (.int .i64 p, h.alloc (setC p b q)) := ld1_at g rfl
  have l1 : ld1 (ptr h.next 1) (h.alloc (setC p b q)) = some (.int .i64 b, h.alloc (setC p b q)) := ld1_at g rfl
  have l2 : ld1 (ptr h.next 2) (h.alloc (setC p b q)) = some (.int .i64 q, h.alloc (setC p b q)) := ld1_at g rfl
  unfold t12 validS
  simp -implicitDefEqProofs only [box_set, thenV_some, addP_ptr, pu_some, Nat.zero_add, l0, l1, l2, bin_geq, bin_leq, bOf_bool]
  rcases hb0 : decide (p ≥ 2) with _ | _ <;> rcases hb1 : decide (p ≤ 16) with _ | _ <;> rcases hb2 : decide (b ≥ 4) with _ | _ <;> rcases hb3 : decide (b ≤ 4096) with _ | _ <;> rcases hb4 : decide (q ≥ 0) with _ | _ <;> rcases hb5 : decide (q ≤ 4294967295) with _ | _ <;>
    simp -implicitDefEqProofs only [sF, beq_self_eq_true, guardK_true, guardK_false, thenV_some, pu_some, l0, l1, l2, bin_geq, bin_leq, hb0, hb1, hb2, hb3, hb4, hb5, bOf_bool, if_true, Bool.false_eq_true, if_false, Bool.and_true, Bool.true_and, Bool.and_false, Bool.false_and]
theorem r13 : ∃ h', CW 13 [.agg (setC p b q).toArray] h = some (.bool (validS p b q), h') ∧ Old h h' := by
  refine ⟨h.alloc (setC p b q), CW_body is13 hG rfl ((t13_eq _ _ _).trans ?_), Kept.alloc _ _ _⟩
  have g : (h.alloc (setC p b q)).get h.next = some (setC p b q) := by rw [Heap.get_alloc, if_pos rfl]
  have l0 : ld1 (ptr h.next 0) (h.alloc (setC p b q)) = some (.int .i64 p, h.alloc (setC p b q)) := ld1_at g rfl
  have l1 : ld1 (ptr h.next 1) (h.alloc (setC p b q)) = some (.int .i64 b, h.alloc (setC p b q)) := ld1_at g rfl
  have l2 : ld1 (ptr h.next 2) (h.alloc (setC p b q)) = some (.int .i64 q, h.alloc (setC p b q)) := ld1_at g rfl
  unfold t13 validS
  simp -implicitDefEqProofs only [box_set, thenV_some, addP_ptr, pu_some, Nat.zero_add, l0, l1, l2, bin_geq, bin_leq, bOf_bool]
  rcases hb0 : decide (p ≥ 2) with _ | _ <;> rcases hb1 : decide (p ≤ 16) with _ | _ <;> rcases hb2 : decide (b ≥ 4) with _ | _ <;> rcases hb3 : decide (b ≤ 4096) with _ | _ <;> rcases hb4 : decide (q ≥ 0) with _ | _ <;> rcases hb5 : decide (q ≤ 4294967295) with _ | _ <;>
    simp -implicitDefEqProofs only [sF, beq_self_eq_true, guardK_true, guardK_false, thenV_some, pu_some, l0, l1, l2, bin_geq, bin_leq, hb0, hb1, hb2, hb3, hb4, hb5, bOf_bool, if_true, Bool.false_eq_true, if_false, Bool.and_true, Bool.true_and, Bool.and_false, Bool.false_and]
end
end
end Go.Proofs.YtdmnphocgfnlpaaGreatDoor

