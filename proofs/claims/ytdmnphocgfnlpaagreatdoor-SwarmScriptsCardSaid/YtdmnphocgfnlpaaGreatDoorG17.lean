/-
  The swarm: the calls' evaluator.
  Conditions: as each theorem states.
  The wire's known run; the calls' evaluator; lists of typed cells, and their equality.
  Conditions: as each theorem states.
  The wire: a message's cells, and what is read of them.
  Conditions: as each theorem states.
  The wire: copies of slices, and of messages.
  Conditions: as each theorem states.
  Taken over from the disk's texts: numbers of functions and types are mapped.
  Conditions: as each theorem states.
  Taken over from the disk's texts: numbers of functions and types are mapped.
  Conditions: as each theorem states.
  The wire: Raw, the checksum, digests read.
  Conditions: as each theorem states.
  The swarm: a Reader's reads, whether they fail or not.
  Conditions: as each theorem states.
  The swarm: a Reader's text: a length of two bytes and the bytes.
  Conditions: as each theorem states.
  The swarm: small laws of the machine's operations.
  Conditions: as each theorem states.
  The swarm: events, and lists of events in memory.
  Conditions: as each theorem states.
  The swarm: one round of Parse's loop: an event is read.
  Conditions: as each theorem states.
  The swarm: Parse's loop over events.
  Conditions: as each theorem states.
  The wire: two manifests, and two messages, are compared.
  Conditions: as each theorem states.
  Taken over from the disk's texts: numbers of functions and types are mapped.
  Conditions: as each theorem states.
  Taken over from the disk's texts: numbers of functions and types are mapped.
  Conditions: as each theorem states.
  The swarm: setups that are valid; Parse.
  Conditions: as each theorem states.
  The swarm: Parse.
  Conditions: as each theorem states.
  The swarm: the document's Parse.
  Conditions: as each theorem states.
  The swarm: the document's Parse, whole.
  Conditions: as each theorem states.
  The swarm: lists of events compared.
  Conditions: as each theorem states.
  The swarm: a Writer's text: a length of two bytes and the bytes.
  Conditions: as each theorem states.
  The swarm: events that can be written, and their bytes.
  Conditions: as each theorem states.
  The swarm: Script's loop over events.
  Conditions: as each theorem states.
  The swarm: SwarmParses.
  Conditions: as each theorem states.
  The swarm: Script.
  Conditions: as each theorem states.
  The swarm: copies of events.
  Conditions: as each theorem states.
  The swarm: the document's Script, its loop.
  Conditions: as each theorem states.
-/
import Derived.Test.YtdmnphocgfnlpaaGreatDoorG16
namespace Go.Proofs.YtdmnphocgfnlpaaGreatDoor
open Go Go.Abs
noncomputable section
theorem prog_mixed : Tryz.prog.follows .mixedOrders = true := by kernel_rfl
theorem okF_sound : ∀ f fn, okF f = true → Tryz.prog.funcs[f]? = some fn → fnOk Tryz.prog fn = true := by
  intro f fn h1 h2
  unfold okF at h1
  rw [h2] at h1
  exact h1
theorem known_lt : 8 < Tryz.prog.funcs.size := Nat.le_of_ble_eq_true (by kernel_rfl)
theorem known_WB : WB (callQ Tryz.prog okF X0 smF 100000 60) 8 [] (bareG Tryz.prog DI) fun v _ => v = .bool true := by
  refine ⟨fun v _ => isTrueV v, known_runs, fun v h e => ?_⟩
  have e : isTrueV v = true := e
  unfold isTrueV at e
  split at e
  · rfl
  · cases e
def s8 (args : List Value) (h : Heap) : Out := by
  classical exact if args = [] ∧ h.get 1 = some roundsL then some (.bool true, h) else none
theorem s8_eq {h : Heap} (g : h.get 1 = some roundsL) : s8 [] h = some (.bool true, h) := by
  unfold s8
  rw [if_pos ⟨rfl, g⟩]
theorem c8 : Contract Tryz.prog 8 s8 := by
  refine Contract.closedQ (callQ_sound (sm := smF) X0_sound (by unfold rounds; omega) prog_mixed okF_sound 60) known_lt (v := .bool true) rfl DI ?_ known_WB s8 ?_
  · intro b cs e
    unfold DI at e
    split at e
    · cases e; kernel_rfl
    · cases e
  · intro args h r e
    unfold s8 at e
    split at e
    · rename_i hh
      cases e
      refine ⟨hh.1, rfl, fun b cs _ hd => ?_⟩
      unfold DI at hd
      split at hd
      · cases hd; exact hh.2
      · cases hd
    · cases e
abbrev XL : List (FuncId × (List Value → Heap → Out)) := [(8, s8)]
abbrev XX : CallF := callL XL
theorem XX_sound : CSound Tryz.prog XX := callL_sound _ (by
  intro p hp
  simp only [List.mem_cons, List.not_mem_nil, or_false] at hp
  subst hp
  exact c8)
/-- Calls of the seat's functions: what is known of some, and the bodies of all others. -/
def CW : CallF := CC Tryz.prog XX
theorem CW_body {f : FuncId} {fn : Func} (i : IsFn Tryz.prog f fn) {args : List Value} {h : Heap} {r : Value × Heap} (hg : 2 ≤ h.n0) (hX : XX f args h = none) (e : bodyK Tryz.prog CW fn args h = some r) : CW f args h = some r :=
  CC_body i (by rw [globals2]; exact hg) hX e
theorem r8 {h : Heap} (g : h.get 1 = some roundsL) : CW 8 [] h = some (.bool true, h) := CC_known (show XX 8 [] h = some (.bool true, h) from s8_eq g)
end
end Go.Proofs.YtdmnphocgfnlpaaGreatDoor

namespace Go.Proofs.YtdmnphocgfnlpaaGreatDoor
open Go Go.Abs
/-- Nothing that was there has changed. -/
abbrev Old (h h' : Heap) : Prop := Kept h h' (fun _ => False)
theorem Old.get {h h' : Heap} (o : Old h h') {b : Nat} {k : Blk} (e : h.get b = some k) : h'.get b = some k := (Kept.get o b (h.lt_of_get e) (fun h => h)).trans e
theorem thenV_congr {γ : Type} {o o' : Out} {f : Value → Heap → Option γ} (h : o = o') : thenV o f = thenV o' f := by rw [h]
/-- Kinds of cells. -/
inductive Kd where
  | u8
  | i (k : IntKind)
  | b
def Kd.has : Kd → Value → Prop
  | .u8, v => ∃ n : Nat, v = .int .u8 n ∧ n < 256
  | .i k, v => ∃ n : Int, v = .int k n ∧ (Lit.int k n).wf = true
  | .b, v => ∃ t : Bool, v = .bool t
theorem Kd.has.cell {k : Kd} {v : Value} (h : k.has v) : isHole v = false ∧ v.oneCell' = true ∧ flat v = true ∧ v.cells = #[v] := by
  cases k with
  | u8 => obtain ⟨n, rfl, _⟩ := h; exact ⟨rfl, rfl, rfl, rfl⟩
  | i k => obtain ⟨n, rfl, _⟩ := h; exact ⟨rfl, rfl, rfl, rfl⟩
  | b => obtain ⟨t, rfl⟩ := h; exact ⟨rfl, rfl, rfl, rfl⟩
/-- Cells of these kinds. -/
def Typed (ks : List Kd) (cs : List Value) : Prop := cs.length = ks.length ∧ ∀ (j : Nat) (k : Kd), ks[j]? = some k → ∃ v, cs[j]? = some v ∧ k.has v
theorem Typed.cell {ks : List Kd} {cs : List Value} (h : Typed ks cs) {j : Nat} {v : Value} (hv : cs[j]? = some v) : isHole v = false ∧ v.oneCell' = true ∧ flat v = true ∧ v.cells = #[v] := by
  have hj := (List.getElem?_eq_some_iff.1 hv).1
  have hj' : j < ks.length := by rw [← h.1]; exact hj
  obtain ⟨w, hw, hk⟩ := h.2 j _ (List.getElem?_eq_getElem hj')
  rw [hv] at hw
  cases hw
  exact hk.cell
theorem Typed.all {ks : List Kd} {cs : List Value} (h : Typed ks cs) : Abs.noHoles cs = true ∧ oneCells cs = true ∧ flatAll cs = true := by
  have key : ∀ v ∈ cs, isHole v = false ∧ v.oneCell' = true ∧ flat v = true := fun v hv => by
    obtain ⟨j, hj⟩ := List.mem_iff_getElem?.1 hv
    obtain ⟨a, b, c, _⟩ := h.cell hj
    exact ⟨a, b, c⟩
  refine ⟨?_, ?_, ?_⟩
  · unfold Abs.noHoles
    rw [List.all_eq_true]
    exact fun v hv => by rw [(key v hv).1]; rfl
  · unfold oneCells
    rw [List.all_eq_true]
    exact fun v hv => (key v hv).2.1
  · unfold flatAll
    rw [List.all_eq_true]
    exact fun v hv => (key v hv).2.2
end Go.Proofs.YtdmnphocgfnlpaaGreatDoor

namespace Go.Proofs.YtdmnphocgfnlpaaGreatDoor
open Go Go.Abs
theorem box_at (h : Heap) (cs : List Value) (hc : oneCells cs = true) : box (.agg cs.toArray) h = some (ptr h.next 0, h.alloc cs) := by
  have e : (Value.agg cs.toArray).cells = cs.toArray := rfl
  unfold box
  rw [e, if_pos (by simpa using hc)]
  simp [Abs.newRow]
end Go.Proofs.YtdmnphocgfnlpaaGreatDoor

namespace Go.Proofs.YtdmnphocgfnlpaaGreatDoor
open Go Go.Abs
attribute [local congr] thenV_congr
theorem nil22 (a : Option Addr) (n c : Nat) : bin Tryz.prog .eql 28 (.slice a n c) (.slice none 0 0) = some (.bool a.isNone) := by cases a <;> kernel_rfl
theorem gtr3 (a k : Nat) : bin Tryz.prog .gtr 3 (i64n a) (.int .i64 (k : Int)) = some (.bool (decide (k < a))) := by
  rw [bin_gtr]
  congr 2
  by_cases e : k < a
  · rw [decide_eq_true e, decide_eq_true (by omega)]
  · rw [decide_eq_false e, decide_eq_false (by omega)]
end Go.Proofs.YtdmnphocgfnlpaaGreatDoor

namespace Go.Proofs.YtdmnphocgfnlpaaGreatDoor
open Go Go.Abs
section
section bytes
theorem one_u8 : ∀ l : List Nat, oneCells (l.map u8) = true
  | [] => rfl
  | x :: l => by
    have := one_u8 l
    simp only [oneCells, List.map_cons, List.all_cons] at this ⊢
    rw [this]; rfl
theorem firstA_of {a : Option Addr} {n c : Nat} {h : Heap} {l : List Nat} (e : sliceBytes a n h = some l) {m : Nat} (hm : m ≤ n) : firstA 1 m (.slice a n c) h = some ((l.take m).map u8) := by
  unfold sliceBytes at e
  rw [Option.bind_eq_some_iff] at e
  obtain ⟨cs, h1, h2⟩ := e
  obtain ⟨rfl, h3⟩ := bytesOf_eq h2
  cases a with
  | none =>
    simp only [firstA] at h1 ⊢
    split at h1
    · cases l with
      | nil => simp; omega
      | cons => simp at h1
    · cases h1
  | some x =>
    obtain ⟨b, off, s⟩ := x
    simp only [firstA, Nat.mul_one] at h1 ⊢
    by_cases hm0 : m = 0
    · subst hm0; simp
    · rw [if_neg hm0]
      rw [if_neg (by omega)] at h1
      cases hk : h.get b with
      | none => rw [hk] at h1; cases h1
      | some k =>
        rw [hk] at h1
        simp only at h1 ⊢
        split at h1
        · rename_i hl0
          have hl1 := hl0.1
          simp only [Option.some.injEq] at h1
          have hk2 : List.take m (List.drop off k) = (l.take m).map u8 := by rw [List.map_take, ← h1, List.take_take, Nat.min_eq_left hm]
          rw [if_pos ⟨by omega, by rw [hk2]; exact noHoles_u8 _⟩, hk2]
        · cases h1
end bytes

end
section
/-- A slice of bytes as they come. -/
def goodS (a : Option Addr) (n c : Nat) : Bool := Nat.ble n c && (match a with | some ⟨_, _, some s⟩ => s == 1 | _ => true)
theorem sliceBytes_congr {a : Option Addr} {n : Nat} {h h' : Heap} (e : ∀ x, a = some x → h'.get x.block = h.get x.block) : sliceBytes a n h' = sliceBytes a n h := by
  unfold sliceBytes firstA
  cases a with
  | none => rfl
  | some x => simp only [e x rfl]
end
section
theorem sliceBytes_at {h : Heap} {b off n : Nat} {s : Option Nat} {l : List Nat} (hg : h.get b = some (l.map u8)) (hl : off + n ≤ l.length) (hb : ∀ x ∈ l, x < 256) : sliceBytes (some ⟨b, off, s⟩) n h = some ((l.drop off).take n) := by
  unfold sliceBytes
  rw [Option.bind_eq_some_iff]
  refine ⟨((l.drop off).take n).map u8, ?_, bytesOf_map (fun y hy => hb y (List.mem_of_mem_drop (List.mem_of_mem_take hy)))⟩
  simp only [firstA, hg, Nat.mul_one]
  by_cases h0 : n = 0
  · rw [if_pos h0, h0]; rfl
  · rw [if_neg h0, if_pos ⟨by simpa using hl, noHoles_part _ _ _⟩]
    simp
end
section
theorem bsl_bytes (h : Heap) : bslR 1 (.int .u8 0) 0 [] h = some (.slice (some ⟨h.next, 0, none⟩) 0 0, h.alloc []) := rfl
end
section
/-- Bytes appended to an empty slice. -/
theorem append_fresh {g : Heap} {E : Nat} {a : Option Addr} {n c : Nat} {l : List Nat} (hE : g.n0 ≤ E) (hl : sliceBytes a n g = some l) (hn : n ≤ 100000000) :
    ∃ b s c' g', appendA 1 1 (.slice (some ⟨E, 0, none⟩) 0 0) (.slice a n c) g = some (.slice (some ⟨b, 0, s⟩) n c', g') ∧ sliceBytes (some ⟨b, 0, s⟩) n g' = some l ∧ goodS (some ⟨b, 0, s⟩) n c' = true ∧ (b = E ∨ (b = g.next ∧ g.next < g'.next)) ∧
      g'.n0 = g.n0 ∧ g.next ≤ g'.next ∧ (∀ e, e < g.next → g'.getB e = g.getB e) := by
  obtain ⟨hlen, hb, _⟩ := sliceBytes_spec hl
  have hf := firstA_of hl (Nat.le_refl n) (c := c)
  rw [List.take_of_length_le (by omega)] at hf
  have hcond : (!(oneCells (l.map u8)) || !(decide ((0 + n) * 1 ≤ 140737488355328)) || !(decide (0 + n ≤ 4611686018427387904)) || decide ((l.map u8).length ≠ n * 1)) = false := by
    rw [one_u8, decide_eq_true (by omega : (0 + n) * 1 ≤ 140737488355328), decide_eq_true (by omega : 0 + n ≤ 4611686018427387904), decide_eq_false (by simp; omega)]; rfl
  unfold appendA
  simp only [lenA, hf]
  rw [if_neg (by rw [hcond]; decide)]
  by_cases h0 : n = 0
  · subst h0
    have : l = [] := List.length_eq_zero_iff.1 hlen
    subst this
    rw [if_pos (by omega), if_pos rfl]
    exact ⟨E, none, 0, g, rfl, rfl, rfl, .inl rfl, rfl, Nat.le_refl _, fun _ _ => rfl⟩
  · rw [if_neg (by omega)]
    have f0 : firstA 1 0 (.slice (some ⟨E, 0, none⟩) 0 0) g = some [] := rfl
    simp only [f0]
    rw [if_neg (by simp)]
    refine ⟨g.next, some 1, 0 + n, g.alloc ([] ++ l.map u8), by rw [Nat.zero_add], ?_, ?_, .inr ⟨rfl, by simp⟩, rfl, by simp, ?_⟩
    · rw [List.nil_append, sliceBytes_at (l := l) (by rw [Heap.get_alloc, if_pos rfl]) (by omega) hb, List.drop_zero, List.take_of_length_le (by omega)]
    · unfold goodS
      rw [Nat.zero_add]
      simp
    · intro e he
      rw [Heap.getB_alloc, if_neg (by omega)]
end
section
theorem Old.bytes {h h' : Heap} (o : Old h h') {a : Option Addr} {n : Nat} {l : List Nat} (e : sliceBytes a n h = some l) : sliceBytes a n h' = some l := sliceBytes_mono e fun _ _ => o.get
theorem r69b {a : Option Addr} {n c : Nat} {l : List Nat} {h : Heap} (hG : 2 ≤ h.n0) (hl : sliceBytes a n h = some l) (hn : n ≤ 100000000) :
    ∃ a' c' h', CW 81 [.slice a n c] h = some (.slice a' n c', h') ∧ sliceBytes a' n h' = some l ∧ goodS a' n c' = true ∧ Old h h' ∧ (∀ y, a' = some y → h.next ≤ y.block ∧ y.block < h'.next) ∧ (a'.isNone = a.isNone) := by
  cases a with
  | none =>
    have h0 : n = 0 := by
      obtain ⟨h1, _, h3⟩ := sliceBytes_spec hl
      by_cases hz : n = 0
      · exact hz
      · obtain ⟨_, _, _, _, h4, _⟩ := h3 (by omega); cases h4
    subst h0
    refine ⟨none, 0, h, CW_body is81 hG rfl ((t81_eq _ _ _).trans ?_), hl, rfl, Kept.refl _ _, fun y hy => by (cases hy), rfl⟩
    unfold t81
    simp -implicitDefEqProofs only [thenV_some, nil22, pu_some, Option.isNone_none]
  | some x =>
    have hl1 : sliceBytes (some x) n (h.alloc []) = some l := sliceBytes_mono hl fun _ _ hc => Heap.get_alloc_some hc _
    obtain ⟨b, s, c', g', e1, e2, e3, e4, e5, e6, e7⟩ := append_fresh (g := h.alloc []) (E := h.next) (c := c) h.n0_le_next hl1 hn
    refine ⟨some ⟨b, 0, s⟩, c', g', CW_body is81 hG rfl ((t81_eq _ _ _).trans ?_), e2, e3, (Kept.alloc h [] _).trans ⟨e5, e6, fun d hd _ => e7 d hd⟩, ?_, rfl⟩
    · unfold t81
      simp -implicitDefEqProofs only [thenV_some, nil22, pu_some, Option.isNone_some, bsl_bytes, e1]
    · intro y hy
      cases hy
      have hn1 : (h.alloc []).next = h.next + 1 := by simp
      show h.next ≤ b ∧ b < g'.next
      rcases e4 with e4 | ⟨e4, e8⟩
      · omega
      · omega
/-- What is not touched holds the bytes that it held. -/
theorem _root_.Go.Abs.Kept.bytes {h h' : Heap} {B : Nat → Prop} (k : Kept h h' B) {a : Option Addr} {n : Nat} {l : List Nat} (e : sliceBytes a n h = some l) (hb : ∀ y, a = some y → 0 < n → ¬ B y.block) : sliceBytes a n h' = some l := by
  by_cases h0 : n = 0
  · subst h0
    obtain ⟨hl, _, _⟩ := sliceBytes_spec e
    have : l = [] := List.length_eq_zero_iff.1 hl
    subst this
    cases a with
    | none => rfl
    | some x => unfold sliceBytes firstA; simp; rfl
  · obtain ⟨_, _, h3⟩ := sliceBytes_spec e
    obtain ⟨b, off, s, c, rfl, hc, _⟩ := h3 (by omega)
    rw [sliceBytes_congr (h := h) (fun y hy => by cases hy; exact k.get b (h.lt_of_get hc) (hb _ rfl (by omega)))]
    exact e
/-- A Reader: what is left, and its error. -/
structure IsR (h : Heap) (p r : Nat) (l : List Nat) (e : Int) : Prop where
  ex : ∃ a n c, h.get r = some [.slice a n c, .int .i64 e] ∧ sliceBytes a n h = some l ∧ goodS a n c = true ∧ ∀ y, a = some y → p ≤ y.block ∧ y.block < r
  n0 : h.n0 ≤ r
  len : l.length ≤ 100000000
  g4 : 2 ≤ h.n0
  pr : p ≤ r
theorem IsR.keep {h h' : Heap} {B : Nat → Prop} {p r : Nat} {l : List Nat} {e : Int} (R : IsR h p r l e) (k : Old h h') : IsR h' p r l e := by
  obtain ⟨a, n, c, h1, h2, h3⟩ := R.ex
  exact ⟨⟨a, n, c, k.getE h1 (fun h => h), k.bytes h2, h3⟩, k.n0 ▸ R.n0, R.len, k.n0 ▸ R.g4, R.pr⟩
end
section
theorem IsR.byte {h : Heap} {p r : Nat} {l : List Nat} {e : Int} (R : IsR h p r l e) : ∀ x ∈ l, x < 256 := by
  obtain ⟨a, n, c, _, h2, _⟩ := R.ex
  exact (sliceBytes_spec h2).2.1
section
variable {p r : Nat} {l : List Nat} {h : Heap} (R : IsR h p r l 0)
include R
end
end
end Go.Proofs.YtdmnphocgfnlpaaGreatDoor

namespace Go.Proofs.YtdmnphocgfnlpaaGreatDoor
open Go Go.Abs
section
theorem getB_kill {h : Heap} {L : Nat} (h0 : h.n0 ≤ L) (hn : L < h.next) {c : Nat} (hc : c ≠ L) : (h.kill L).getB c = h.getB c := by
  unfold Heap.kill
  rw [Heap.getB_put h h0 hn, if_neg hc]
end
section
theorem IsR.lt {h : Heap} {p r : Nat} {l : List Nat} {e : Int} (R : IsR h p r l e) : r < h.next := by
  obtain ⟨a, n, c, h1, _, _⟩ := R.ex
  exact h.lt_of_get h1
end
section
theorem setPlain {h : Heap} {b : Nat} {k k' : Blk} (hk : h.get b = some k) (h0 : h.n0 ≤ b) : Kept h (h.set b k') (fun c => c = b) ∧ (h.set b k').get b = some k' := ⟨Kept.set h0 hk (.inr rfl), Heap.get_set_same h0 hk _⟩
end
section
def baseOf : Value → Option Nat
  | .slice (some a) _ _ => some a.block
  | _ => none
/-- A slice that grows: nothing yet, or a block of its own. -/
def OwnC (h : Heap) (N size : Nat) (v : Value) (len : Nat) (cells : List Value) : Prop :=
  cells.length = len * size ∧ Abs.noHoles cells = true ∧ oneCells cells = true ∧
  ((v = .slice none 0 0 ∧ len = 0) ∨ ∃ b s, v = .slice (some ⟨b, 0, s⟩) len len ∧ N ≤ b ∧ ((s = none ∧ len = 0) ∨ (s = some size ∧ h.get b = some cells)))
theorem OwnC.nil (h : Heap) (N size : Nat) : OwnC h N size (.slice none 0 0) 0 [] := ⟨by simp, rfl, rfl, .inl ⟨rfl, rfl⟩⟩
theorem OwnC.keep {h h' : Heap} {N size : Nat} {v : Value} {len : Nat} {cells : List Value} (o : OwnC h N size v len cells) {B : Nat → Prop} (k : Kept h h' B) (hB : ∀ b, baseOf v = some b → ¬ B b) : OwnC h' N size v len cells := by
  obtain ⟨h1, h2, h3, h4⟩ := o
  refine ⟨h1, h2, h3, ?_⟩
  rcases h4 with h4 | ⟨b, s, rfl, h5, h6 | ⟨h6, h7⟩⟩
  · exact .inl h4
  · exact .inr ⟨b, s, rfl, h5, .inl h6⟩
  · exact .inr ⟨b, s, rfl, h5, .inr ⟨h6, k.getE h7 (hB b rfl)⟩⟩
theorem noHoles_append (a b : List Value) (ha : Abs.noHoles a = true) (hb : Abs.noHoles b = true) : Abs.noHoles (a ++ b) = true := by
  unfold Abs.noHoles at *
  rw [List.all_append, ha, hb]; rfl
theorem oneCells_append (a b : List Value) (ha : oneCells a = true) (hb : oneCells b = true) : oneCells (a ++ b) = true := by
  unfold oneCells at *
  rw [List.all_append, ha, hb]; rfl
theorem append_own {h : Heap} {N size by_ len m : Nat} {v x : Value} {cells news : List Value} (o : OwnC h N size v len cells) (h0 : h.n0 ≤ N) (hN : N ≤ h.next) (hs : 0 < size) (hx : lenA x = some m) (hf : firstA size m x h = some news)
    (h1 : oneCells news = true) (h2 : Abs.noHoles news = true) (hl : news.length = m * size) (hb : (len + m) * by_ ≤ 140737488355328) (hc : len + m ≤ 4611686018427387904) :
    ∃ v' h', appendA size by_ v x h = some (v', h') ∧ OwnC h' N size v' (len + m) (cells ++ news) ∧ Kept h h' (fun c => baseOf v = some c ∧ h.get c = some cells) ∧ (v' = v ∨ (baseOf v' = some h.next ∧ h.next < h'.next)) := by
  have o' := o
  obtain ⟨o1, o2, o3, o4⟩ := o
  have hcond : ∀ len' : Nat, len' = len → (!(oneCells news) || !(decide ((len' + m) * by_ ≤ 140737488355328)) || !(decide (len' + m ≤ 4611686018427387904)) || decide (news.length ≠ m * size)) = false := by
    rintro _ rfl
    rw [h1, decide_eq_true hb, decide_eq_true hc, decide_eq_false (by omega)]; rfl
  by_cases hm : m = 0
  · subst hm
    have hn : news = [] := List.length_eq_zero_iff.1 (by omega)
    subst hn
    have ho : OwnC h N size v (len + 0) (cells ++ []) := by rw [List.append_nil]; exact o'
    refine ⟨v, h, ?_, ho, Kept.refl _ _, .inl rfl⟩
    rcases o4 with ⟨rfl, rfl⟩ | ⟨b, s, rfl, h5, h6⟩
    · unfold appendA
      simp only [hx, hf]
      rw [if_neg (by rw [hcond 0 rfl]; decide), if_pos (by omega), if_pos trivial]
    · unfold appendA
      simp only [hx, hf]
      rw [if_neg (by rw [hcond len rfl]; decide), if_pos (by omega), if_pos trivial]
  · have fresh : ∀ cs : List Value, cs = [] → len = 0 → OwnC (h.alloc news) N size (.slice (some ⟨h.next, 0, some size⟩) (len + m) (len + m)) (len + m) (cs ++ news) := by
      rintro _ rfl rfl
      exact ⟨by simpa using hl, by simpa using h2, by simpa using h1, .inr ⟨h.next, _, rfl, hN, .inr ⟨rfl, by rw [Heap.get_alloc, if_pos rfl]; rfl⟩⟩⟩
    rcases o4 with ⟨rfl, rfl⟩ | ⟨b, s, rfl, h5, ⟨rfl, rfl⟩ | ⟨rfl, h6⟩⟩
    · have hce : cells = [] := List.length_eq_zero_iff.1 (by simpa using o1)
      refine ⟨_, _, ?_, fresh cells hce rfl, Kept.alloc _ _ _, .inr ⟨rfl, by simp⟩⟩
      unfold appendA
      simp only [hx, hf]
      rw [if_neg (by rw [hcond 0 rfl]; decide), if_neg (by omega), if_pos trivial]
    · have hce : cells = [] := List.length_eq_zero_iff.1 (by simpa using o1)
      refine ⟨_, _, ?_, fresh cells hce rfl, Kept.alloc _ _ _, .inr ⟨rfl, by simp⟩⟩
      unfold appendA
      simp only [hx, hf]
      have f0 : firstA size 0 (.slice (some ⟨b, 0, none⟩) 0 0) h = some [] := by simp [firstA]
      rw [if_neg (by rw [hcond 0 rfl]; decide), if_neg (by omega)]
      simp only [f0]
      rw [if_neg (by simp)]; rfl
    · have hf2 : firstA size len (.slice (some ⟨b, 0, some size⟩) len len) h = some cells := by
        simp only [firstA]
        by_cases hz : len * size = 0
        · rw [if_pos hz]
          have : cells = [] := List.length_eq_zero_iff.1 (by omega)
          rw [this]
        · rw [if_neg hz]
          simp only [h6]
          have e : (cells.drop 0).take (len * size) = cells := by rw [List.drop_zero, List.take_of_length_le (by omega)]
          simp only [e]
          rw [if_pos ⟨by omega, o2⟩]
      have hlt := h.lt_of_get h6
      have hk : ∀ c, c < h.next → c ≠ b → ((h.kill b).alloc (cells ++ news)).getB c = h.getB c := by
        intro c hc hne
        rw [Heap.getB_alloc, if_neg (by rw [Heap.next_kill]; omega)]
        exact getB_kill (by omega) hlt hne
      refine ⟨.slice (some ⟨h.next, 0, some size⟩) (len + m) (len + m), (h.kill b).alloc (cells ++ news), ?_, ⟨by rw [List.length_append, o1, hl, Nat.add_mul], noHoles_append _ _ o2 h2, oneCells_append _ _ o3 h1, .inr ⟨h.next, _, rfl, hN, .inr ⟨rfl, ?_⟩⟩⟩, ⟨rfl, by simp, fun c hc hB => hk c hc (fun e => hB (by rw [e]; exact ⟨rfl, h6⟩))⟩, .inr ⟨rfl, by simp⟩⟩
      · unfold appendA
        simp only [hx, hf]
        rw [if_neg (by rw [hcond len rfl]; decide), if_neg (by omega)]
        simp only [hf2]
        rw [if_neg (by simp [o1]), if_pos (by simp [h6]; omega)]
      · rw [Heap.get_alloc, if_pos (by rw [Heap.next_kill])]
/-- Bytes that grow. -/
structure OwnB (h : Heap) (N : Nat) (v : Value) (l : List Nat) : Prop where
  own : OwnC h N 1 v l.length (l.map u8)
  byte : ∀ x ∈ l, x < 256
theorem OwnB.nil (h : Heap) (N : Nat) : OwnB h N (.slice none 0 0) [] := ⟨.nil h N 1, by simp⟩
theorem OwnB.keep {h h' : Heap} {N : Nat} {v : Value} {l : List Nat} (o : OwnB h N v l) {B : Nat → Prop} (k : Kept h h' B) (hB : ∀ b, baseOf v = some b → ¬ B b) : OwnB h' N v l := ⟨o.own.keep k hB, o.byte⟩
theorem OwnB.bytes {h : Heap} {N : Nat} {v : Value} {l : List Nat} (o : OwnB h N v l) : ∃ a c, v = .slice a l.length c ∧ sliceBytes a l.length h = some l ∧ goodS a l.length c = true ∧ (∀ y, a = some y → N ≤ y.block) ∧ (∀ y, a = some y → baseOf v = some y.block) := by
  obtain ⟨⟨o1, o2, o3, o4⟩, ob⟩ := o
  rcases o4 with ⟨rfl, h4⟩ | ⟨b, s, rfl, h5, ⟨rfl, h4⟩ | ⟨rfl, h6⟩⟩
  · have : l = [] := List.length_eq_zero_iff.1 h4
    subst this
    exact ⟨none, 0, rfl, rfl, rfl, fun y hy => (by cases hy), fun y hy => (by cases hy)⟩
  · have : l = [] := List.length_eq_zero_iff.1 h4
    subst this
    exact ⟨_, _, rfl, rfl, rfl, fun y hy => (by cases hy; exact h5), fun y hy => (by cases hy; rfl)⟩
  · refine ⟨_, _, rfl, ?_, ?_, fun y hy => by cases hy; exact h5, fun y hy => by cases hy; rfl⟩
    · have := sliceBytes_at (off := 0) (n := l.length) (s := some 1) h6 (by omega) ob
      rw [this, List.drop_zero, List.take_of_length_le (Nat.le_refl _)]
    · unfold goodS
      rw [Nat.ble_eq_true_of_le (Nat.le_refl _)]; rfl
theorem append_ownB {h : Heap} {N n c : Nat} {v : Value} {l m : List Nat} {a : Option Addr} (o : OwnB h N v l) (h0 : h.n0 ≤ N) (hN : N ≤ h.next) (hm : sliceBytes a n h = some m) (hb : l.length + n ≤ 100000000) :
    ∃ v' h', appendA 1 1 v (.slice a n c) h = some (v', h') ∧ OwnB h' N v' (l ++ m) ∧ Kept h h' (fun c => baseOf v = some c) ∧ (v' = v ∨ (baseOf v' = some h.next ∧ h.next < h'.next)) := by
  obtain ⟨hl, hbt, _⟩ := sliceBytes_spec hm
  have hf := firstA_of hm (Nat.le_refl n) (c := c)
  rw [List.take_of_length_le (by omega)] at hf
  obtain ⟨v', h', e1, e2, e3, e4⟩ := append_own (by_ := 1) o.own h0 hN (by decide) (show lenA (.slice a n c) = some n from rfl) hf (one_u8 _) (noHoles_u8 _) (by simp [hl]) (by omega) (by omega)
  refine ⟨v', h', e1, ⟨?_, ?_⟩, e3.mono (fun c _ hc => hc.1), e4⟩
  · rw [List.length_append, List.map_append, hl]; exact e2
  · intro x hx
    rcases List.mem_append.1 hx with hx | hx
    · exact o.byte x hx
    · exact hbt x hx
end
section
theorem sub3 {a b : Nat} (h : b ≤ a) (h2 : a ≤ 9223372036854775807) : bin Tryz.prog .sub 3 (i64n a) (i64n b) = some (i64n (a - b)) := by
  unfold i64n; rw [bin_sub, wrap_i64 (by omega) (by omega)]; exact congrArg (fun q => some (Value.int .i64 q)) (by omega)
end
section
/-- A Writer that has not failed: its limit and its bytes; all that is its own lies at N or above. -/
structure IsW (h : Heap) (N w lim : Nat) (l : List Nat) : Prop where
  ex : ∃ v, h.get w = some [i64n lim, .bool false, v] ∧ OwnB h N v l ∧ baseOf v ≠ some w ∧ ∀ b, baseOf v = some b → b < h.next
  n0 : h.n0 ≤ N
  Nw : N ≤ w
  small : lim ≤ 9223372036854775807
  g4 : 2 ≤ h.n0
/-- The block of a Writer's bytes. -/
noncomputable def wb (h : Heap) (w : Nat) : Option Nat := match h.get w with
  | some [_, _, v] => baseOf v
  | _ => none
/-- A block that a Writer does not own. -/
def Fr (h : Heap) (w b : Nat) : Prop := b < h.next ∧ b ≠ w ∧ wb h w ≠ some b
/-- All that the Writer does not own is as it was. -/
structure WS (w : Nat) (h h' : Heap) : Prop where
  n0 : h'.n0 = h.n0
  next : h.next ≤ h'.next
  getB : ∀ b, Fr h w b → h'.getB b = h.getB b
  fr : ∀ b, Fr h w b → Fr h' w b
theorem WS.get {w : Nat} {h h' : Heap} (x : WS w h h') (b : Nat) (f : Fr h w b) : h'.get b = h.get b := by
  unfold Heap.get
  rw [x.getB b f]
theorem WS.refl (w : Nat) (h : Heap) : WS w h h := ⟨rfl, Nat.le_refl _, fun _ _ => rfl, fun _ f => f⟩
theorem WS.trans {w : Nat} {a b c : Heap} (x : WS w a b) (y : WS w b c) : WS w a c := ⟨y.n0.trans x.n0, Nat.le_trans x.next y.next, fun d f => (y.getB d (x.fr d f)).trans (x.getB d f), fun d f => y.fr d (x.fr d f)⟩
theorem WS.of_old {w : Nat} {h h' : Heap} (hw : w < h.next) (o : Old h h') : WS w h h' := ⟨o.n0, o.next, fun b f => Kept.getB o b f.1 (fun h => h), fun b f => ⟨Nat.lt_of_lt_of_le f.1 o.next, f.2.1, by
  have : wb h' w = wb h w := by
    unfold wb
    rw [Kept.get o w hw (fun h => h)]
  rw [this]; exact f.2.2⟩⟩
theorem WS.bytes {w : Nat} {h h' : Heap} (k : WS w h h') {a : Option Addr} {n : Nat} {l : List Nat} (e : sliceBytes a n h = some l) (hb : ∀ y, a = some y → 0 < n → Fr h w y.block) : sliceBytes a n h' = some l := by
  by_cases h0 : n = 0
  · subst h0
    obtain ⟨hl, _, _⟩ := sliceBytes_spec e
    have : l = [] := List.length_eq_zero_iff.1 hl
    subst this
    cases a with
    | none => rfl
    | some x => unfold sliceBytes firstA; simp; rfl
  · obtain ⟨_, _, h3⟩ := sliceBytes_spec e
    obtain ⟨b, off, s, c, rfl, hc, _⟩ := h3 (by omega)
    rw [sliceBytes_congr (h := h) (fun y hy => by cases hy; exact k.get b (hb _ rfl (by omega)))]
    exact e
theorem IsW.lt {h : Heap} {N w lim : Nat} {l : List Nat} (W : IsW h N w lim l) : w < h.next := by
  obtain ⟨v, h1, _⟩ := W.ex
  exact h.lt_of_get h1
theorem OwnB.cell {h : Heap} {N : Nat} {v : Value} {l : List Nat} (o : OwnB h N v l) : v.cells = #[v] ∧ v.oneCell' = true ∧ isHole v = false := by
  obtain ⟨a, c, rfl, _⟩ := o.bytes
  exact ⟨rfl, rfl, rfl⟩
/-- Bytes are appended to what a Writer has. -/
theorem w_append {h : Heap} {N w lim : Nat} {l m : List Nat} {a : Option Addr} {n c : Nat} (W : IsW h N w lim l) (hm : sliceBytes a n h = some m) (hb : l.length + n ≤ 100000000) :
    ∃ v v' g g', ld1 (ptr w 2) h = some (v, h) ∧ appendA 1 1 v (.slice a n c) h = some (v', g) ∧ stN 1 (ptr w 2) v' g = some (undef, g') ∧ IsW g' N w lim (l ++ m) ∧ WS w h g' := by
  obtain ⟨v, h1, h2, h3, hbn⟩ := W.ex
  have hlt := W.lt
  have hNw := W.Nw
  obtain ⟨v', g, e1, e2, e3, e4⟩ := append_ownB (c := c) h2 W.n0 (by omega) hm (by omega)
  have hg := e3.getE h1 h3
  obtain ⟨c1, c2, c3⟩ := e2.cell
  have n0g : g.n0 ≤ w := by rw [e3.n0]; have := W.n0; omega
  have hst : stN 1 (ptr w 2) v' g = some (undef, g.set w [i64n lim, .bool false, v']) := stN1_at hg (by simp) n0g c1 c2
  obtain ⟨k2, k3⟩ := setPlain (k' := [i64n lim, .bool false, v']) hg n0g
  have hv' : baseOf v' ≠ some w := by
    rcases e4 with rfl | ⟨e4, _⟩
    · exact h3
    · rw [e4]; intro he; cases he; omega
  refine ⟨v, v', g, _, ld1_at h1 rfl (h2.cell.2.2), e1, hst, ⟨⟨v', k3, e2.keep k2 (fun b hb hc => by subst hc; exact hv' hb), hv', fun b hb => by
    rcases e4 with rfl | ⟨e4, e5⟩
    · exact Nat.lt_of_lt_of_le (hbn b hb) (Nat.le_trans e3.next k2.next)
    · rw [e4] at hb
      cases hb
      exact Nat.lt_of_lt_of_le e5 k2.next⟩, ?_, hNw, W.small, by rw [k2.n0, e3.n0]; exact W.g4⟩, ⟨k2.n0.trans e3.n0, Nat.le_trans e3.next k2.next, fun b f => ?_, fun b f => ⟨Nat.lt_of_lt_of_le f.1 (Nat.le_trans e3.next k2.next), f.2.1, ?_⟩⟩⟩
  · rw [k2.n0, e3.n0]; exact W.n0
  · have hwb : wb h w = baseOf v := by unfold wb; rw [h1]
    have f3 := f.2.2
    rw [hwb] at f3
    exact (k2.getB b (Nat.lt_of_lt_of_le f.1 e3.next) f.2.1).trans (e3.getB b f.1 f3)
  · have hwb : wb h w = baseOf v := by unfold wb; rw [h1]
    have f3 := f.2.2
    rw [hwb] at f3
    have hwb' : wb (g.set w [i64n lim, .bool false, v']) w = baseOf v' := by unfold wb; rw [k3]
    rw [hwb']
    rcases e4 with rfl | ⟨e4, _⟩
    · exact f3
    · rw [e4]
      intro he
      cases he
      have := f.1
      omega
theorem r36 (h : Heap) (hG : 2 ≤ h.n0) {lim : Nat} (hl : lim ≤ 9223372036854775807) : ∃ h', CW 36 [i64n lim] h = some (ptr h.next 0, h') ∧ IsW h' h.next h.next lim [] ∧ Old h h' ∧ ∀ b, b < h.next → Fr h' h.next b := by
  have hmx : minmax true (.int .i64 0) [i64n lim] = some (i64n lim) := by
    simp only [minmax, i64n, if_true]
    by_cases h0 : (lim : Int) > 0
    · rw [if_pos (by simpa using h0)]
    · have : lim = 0 := by omega
      subst this; rfl
  have hb : bldR [(.int .i64 0), (.bool false), (.slice none 0 0)] [(0, 1, i64n lim)] = some (.agg [i64n lim, .bool false, .slice none 0 0].toArray) := rfl
  refine ⟨h.alloc [i64n lim, .bool false, .slice none 0 0], CW_body is36 hG rfl ((t36_eq _ _ _).trans ?_), ⟨⟨.slice none 0 0, by rw [Heap.get_alloc, if_pos rfl], .nil _ _, (by intro h; cases h), (by intro b h; cases h)⟩, h.n0_le_next, Nat.le_refl _, hl, hG⟩, Kept.alloc _ _ _, fun b hb => ⟨by rw [Heap.next_alloc]; omega, by omega, by
    have : wb (h.alloc [i64n lim, .bool false, .slice none 0 0]) h.next = none := by unfold wb; rw [Heap.get_alloc, if_pos rfl]; rfl
    rw [this]; intro h; cases h⟩⟩
  unfold t36
  simp -implicitDefEqProofs only [thenV_some, hmx, pu_some, hb, box_at h [i64n lim, .bool false, .slice none 0 0] rfl]
theorem eql110 (b o : Nat) : bin Tryz.prog .eql 71 (ptr b o) (.pointer none) = some (.bool false) := by kernel_rfl
theorem r91 {h : Heap} {N w lim : Nat} {l : List Nat} (W : IsW h N w lim l) {n : Nat} (hn : l.length + n ≤ lim) : ∃ h', CW 91 [ptr w 0, i64n n] h = some (.bool true, h') ∧ IsW h' N w lim l ∧ WS w h h' := by
  obtain ⟨v, h1, h2, h3, hbn⟩ := W.ex
  obtain ⟨a, c, hv, h4, h5, h6, h7⟩ := h2.bytes
  have hNw := W.Nw
  have n0w : h.n0 ≤ w := by have := W.n0; omega
  have l0 : ld1 (ptr w 0) h = some (i64n lim, h) := ld1_at h1 rfl
  have l1 : ld1 (ptr w 1) h = some (.bool false, h) := ld1_at h1 rfl
  have l2 : ld1 (ptr w 2) h = some (.slice a l.length c, h) := by rw [← hv]; exact ld1_at h1 rfl (h2.cell.2.2)
  have hst : stN 1 (ptr w 1) (.bool false) h = some (undef, h.set w [i64n lim, .bool false, v]) := stN1_at h1 (by simp) n0w rfl rfl
  obtain ⟨k2, k3⟩ := setPlain (k' := [i64n lim, .bool false, v]) h1 n0w
  have hsm := W.small
  have hd : (decide (lim - l.length < n)) = false := decide_eq_false (by omega)
  refine ⟨_, CW_body is91 W.g4 rfl ((t91_eq _ _ _ _).trans ?_), ⟨⟨v, k3, h2.keep k2 (fun b hb hc => by subst hc; exact h3 hb), h3, fun b hb => Nat.lt_of_lt_of_le (hbn b hb) k2.next⟩, k2.n0 ▸ W.n0, hNw, hsm, k2.n0 ▸ W.g4⟩, ⟨k2.n0, k2.next, fun b f => k2.getB b f.1 f.2.1, fun b f => ⟨Nat.lt_of_lt_of_le f.1 k2.next, f.2.1, by
    have e1 : wb h w = baseOf v := by unfold wb; rw [h1]
    have e2 : wb (h.set w [i64n lim, .bool false, v]) w = baseOf v := by unfold wb; rw [k3]
    rw [e2, ← e1]; exact f.2.2⟩⟩⟩
  have l1' : ld1 (ptr w 1) (h.set w [i64n lim, .bool false, v]) = some (.bool false, h.set w [i64n lim, .bool false, v]) := ld1_at k3 rfl
  unfold t91
  simp -implicitDefEqProofs only [thenV_some, eql110, pu_some, bOf_bool, beq_self_eq_true, guardK_true, nilCheck_ptr, addP_ptr, Nat.zero_add, l1, Bool.false_eq_true, if_false, l0, l2, lenL_slice]
  rw [show (Value.int .i64 (l.length : Int)) = i64n l.length from rfl]
  simp -implicitDefEqProofs only [sub3 (show l.length ≤ lim by omega) (show lim ≤ 9223372036854775807 by omega), pu_some, thenV_some, gtr3, hd, hst, nilCheck_ptr, addP_ptr, Nat.zero_add, l1', unA_not, Bool.not_false]
/-- A number in so many bytes, the highest first. -/
def beB : Nat → Nat → List Nat
  | 0, _ => []
  | n + 1, v => (v / 256 ^ n % 256) :: beB n v
theorem beB_length : ∀ n v, (beB n v).length = n
  | 0, _ => rfl
  | n + 1, v => by rw [beB, List.length_cons, beB_length]
theorem is90 : IsFn Tryz.prog 90 Tryz.f90 := ⟨by kernel_rfl, by kernel_rfl, by kernel_rfl, by kernel_rfl⟩
theorem bsl1 (h : Heap) (x : Nat) : bslR 1 (.int .u8 0) 1 [(0, u8 x)] h = some (.slice (some ⟨h.next, 0, none⟩) 1 1, h.alloc [u8 x]) := rfl
theorem bytes1 (h : Heap) {x : Nat} (hx : x < 256) : sliceBytes (some ⟨h.next, 0, none⟩) 1 (h.alloc [u8 x]) = some [x] := by
  have := sliceBytes_at (h := h.alloc [u8 x]) (b := h.next) (off := 0) (n := 1) (s := none) (l := [x]) (by rw [Heap.get_alloc, if_pos rfl]; rfl) (by simp) (by simpa using hx)
  rw [this]; rfl
theorem IsW.old {h h' : Heap} {N w lim : Nat} {l : List Nat} (W : IsW h N w lim l) (o : Old h h') : IsW h' N w lim l := by
  obtain ⟨v, h1, h2, h3, h4⟩ := W.ex
  exact ⟨⟨v, o.getE h1 (fun h => h), h2.keep o (fun _ _ h => h), h3, fun b hb => Nat.lt_of_lt_of_le (h4 b hb) o.next⟩, by rw [o.n0]; exact W.n0, W.Nw, W.small, by rw [o.n0]; exact W.g4⟩
theorem IsW.alloc {h : Heap} {N w lim : Nat} {l : List Nat} (W : IsW h N w lim l) (k : Blk) : IsW (h.alloc k) N w lim l := W.old (Kept.alloc _ _ _)
theorem r90 {h : Heap} {N w lim : Nat} {l : List Nat} (W : IsW h N w lim l) {v n : Nat} (h1n : 1 ≤ n) (hn : n ≤ 8) (hfit : l.length + n ≤ lim) (hsz : l.length + 8 ≤ 100000000) (hv : v < 18446744073709551616) :
    ∃ h', CW 90 [ptr w 0, .int .u64 v, i64n n] h = some (.tuple #[], h') ∧ IsW h' N w lim (l ++ beB n v) ∧ WS w h h' := by
  obtain ⟨h1, e1, W1, k1⟩ := r91 W hfit
  have hsm := W.small
  have key : Fin 30 (fun ex y g => ex = .exit 0 ∧ IsW g N w lim (l ++ beB n v) ∧ WS w h g)
      (iter (codeA Tryz.prog CW (partOf Tryz.f90 [1, 0, 1, 0, 0])) rounds (mkF 30 (up (bs [ptr w 0, .int .u64 v, i64n n]) [(6, i64n (n - 1)), (7, ptr w 0), (8, i64n n), (9, .bool true), (10, i64n n), (11, i64n (n - 1))])) h1) := by
    refine loop_fin (t90l90_1010_eq CW) (Inv := fun k y g => k ≤ n ∧ y 0 = ptr w 0 ∧ y 1 = .int .u64 v ∧ y 6 = .int .i64 ((k : Int) - 1) ∧ WS w h g ∧ ∃ cur, IsW g N w lim cur ∧ cur ++ beB k v = l ++ beB n v) ?_ n (by have : rounds = 18446744073709551616 := rfl; omega)
      ⟨Nat.le_refl _, rfl, rfl, by show i64n (n - 1) = _; unfold i64n; exact congrArg _ (by omega), k1, l, W1, rfl⟩
    rintro k y g ⟨hk, i0, i1, i6, hkept, cur, Wc, hcur⟩
    have hclen : cur.length + k = l.length + n := by
      have := congrArg List.length hcur
      simpa [beB_length] using this
    unfold t90l90_1010
    simp -implicitDefEqProofs only [i6, thenV_some, bin_geq, pu_some]
    by_cases hz : k = 0
    · subst hz
      have hd : decide ((((0 : Nat) : Int) - 1) ≥ 0) = false := by decide
      simp -implicitDefEqProofs only [hd]
      refine Rnd.out 0 ⟨rfl, ?_, hkept⟩
      have : cur = l ++ beB n v := by simpa [beB] using hcur
      rw [← this]; exact Wc
    · obtain ⟨q, rfl⟩ : ∃ q, k = q + 1 := ⟨k - 1, by omega⟩
      have hd : decide ((((q + 1 : Nat) : Int) - 1) ≥ 0) = true := decide_eq_true (by omega)
      have hm8 : bin Tryz.prog .mul 3 (.int .i64 8) (.int .i64 (((q + 1 : Nat) : Int) - 1)) = some (.int .i64 ((8 * q : Nat) : Int)) := by
        rw [bin_mul, wrap_i64 (by omega) (by omega)]
        exact congrArg (fun z => some (Value.int .i64 z)) (by omega)
      have hsh : bin Tryz.prog .shr 27 (.int .u64 (v : Int)) (.int .i64 ((8 * q : Nat) : Int)) = some (.int .u64 ((v / 256 ^ q : Nat) : Int)) := by
        rw [bin_shr_nat Tryz.prog 27 (k := .u64) (k' := .i64) (b := 8 * q) (by show 8 * q ≤ 64; omega)]
        rw [show (2 : Nat) ^ (8 * q) = 256 ^ q by rw [Nat.pow_mul]]
      have hcv : IntKind.wrap .u8 ((v / 256 ^ q : Nat) : Int) = ((v / 256 ^ q % 256 : Nat) : Int) := by
        rw [wrap_u8_mod]; omega
      have hlt8 : v / 256 ^ q % 256 < 256 := Nat.mod_lt _ (by decide)
      generalize hx : v / 256 ^ q % 256 = x at *
      obtain ⟨v1, v2, g1, g2, f1, f2, f3, f4, f5⟩ := w_append (c := 1) (Wc.alloc [u8 x]) (bytes1 g hlt8) (by omega)
      have hl2 : ld1 (ptr w 2) g = some (v1, g) := by
        obtain ⟨vv, q1, q2, q3⟩ := Wc.ex
        have e1 : ld1 (ptr w 2) g = some (vv, g) := ld1_at q1 rfl (q2.cell.2.2)
        have e2 : ld1 (ptr w 2) (g.alloc [u8 x]) = some (vv, g.alloc [u8 x]) := ld1_at (Heap.get_alloc_some q1 _) rfl (q2.cell.2.2)
        rw [e2] at f1
        simp only [Option.some.injEq, Prod.mk.injEq, and_true] at f1
        rw [← f1]; exact e1
      have hsub : bin Tryz.prog .sub 3 (.int .i64 (((q + 1 : Nat) : Int) - 1)) (.int .i64 1) = some (.int .i64 ((q : Int) - 1)) := by
        rw [bin_sub, wrap_i64 (by omega) (by omega)]
        exact congrArg (fun z => some (Value.int .i64 z)) (by omega)
      simp -implicitDefEqProofs only [hd, i0, i1, thenV_some, pu_some, nilCheck_ptr, addP_ptr, Nat.zero_add, hl2, hm8, hsh, cvI_int, hcv]
      rw [show (Value.int .u8 (x : Int)) = u8 x from rfl, bsl1]
      simp -implicitDefEqProofs only [thenV_some, f2, pu_some, nilCheck_ptr, addP_ptr, Nat.zero_add, f3, hsub]
      refine Rnd.next q (by omega) ⟨by omega, i0, i1, rfl, ?_, cur ++ [x], f4, ?_⟩
      · exact (hkept.trans (WS.of_old Wc.lt (Kept.alloc g _ _))).trans f5
      · rw [← hcur, beB, hx, List.append_assoc]; rfl
  obtain ⟨ex, y, g, q1, rfl, q2, q3⟩ := key
  refine ⟨g, CW_body is90 W.g4 rfl ((t90_eq _ _ _ _ _).trans ?_), q2, q3⟩
  unfold t90
  have hs1 : bin Tryz.prog .sub 3 (i64n n) (.int .i64 1) = some (i64n (n - 1)) := sub3 (b := 1) h1n (by omega)
  simp -implicitDefEqProofs only [thenV_some, e1, hs1, pu_some]
  rw [q1]
  simp -implicitDefEqProofs only [endL_exit, b90_2, if_true]
  have hr : Tryz.f90.results.toList = [] := by kernel_rfl
  rw [hr]; rfl
end
section
theorem is41 : IsFn Tryz.prog 41 Tryz.f41 := ⟨by kernel_rfl, by kernel_rfl, by kernel_rfl, by kernel_rfl⟩
theorem is38 : IsFn Tryz.prog 38 Tryz.f38 := ⟨by kernel_rfl, by kernel_rfl, by kernel_rfl, by kernel_rfl⟩
theorem is39 : IsFn Tryz.prog 39 Tryz.f39 := ⟨by kernel_rfl, by kernel_rfl, by kernel_rfl, by kernel_rfl⟩
theorem is37 : IsFn Tryz.prog 37 Tryz.f37 := ⟨by kernel_rfl, by kernel_rfl, by kernel_rfl, by kernel_rfl⟩
section
variable {h : Heap} {N w lim : Nat} {l : List Nat} (W : IsW h N w lim l)
include W
theorem r41 {v : Nat} (hfit : l.length + 8 ≤ lim) (hsz : l.length + 8 ≤ 100000000) (hv : v < 18446744073709551616) : ∃ h', CW 41 [ptr w 0, .int .u64 v] h = some (.tuple #[], h') ∧ IsW h' N w lim (l ++ beB 8 v) ∧ WS w h h' := by
  obtain ⟨h1, e1, e2, e3⟩ := r90 W (v := v) (n := 8) (by decide) (by decide) hfit hsz (by omega)
  have e1 : CW 90 [ptr w 0, .int .u64 v, .int .i64 8] h = _ := e1
  refine ⟨h1, CW_body is41 W.g4 rfl ((t41_eq _ _ _ _).trans ?_), e2, e3⟩
  unfold t41
  simp -implicitDefEqProofs only [thenV_some, e1]
theorem r37 {v : Nat} (hfit : l.length + 1 ≤ lim) (hsz : l.length + 8 ≤ 100000000) (hv : v < 256) : ∃ h', CW 37 [ptr w 0, .int .u8 v] h = some (.tuple #[], h') ∧ IsW h' N w lim (l ++ beB 1 v) ∧ WS w h h' := by
  obtain ⟨h1, e1, e2, e3⟩ := r90 W (v := v) (n := 1) (by decide) (by decide) hfit hsz (by omega)
  have e1 : CW 90 [ptr w 0, .int .u64 v, .int .i64 1] h = _ := e1
  have hw : IntKind.wrap .u64 (v : Int) = (v : Int) := wrap_u64 (by omega) (by omega)
  refine ⟨h1, CW_body is37 W.g4 rfl ((t37_eq _ _ _ _).trans ?_), e2, e3⟩
  unfold t37
  simp -implicitDefEqProofs only [thenV_some, cvI_int, hw, e1]
theorem r38 {v : Nat} (hfit : l.length + 2 ≤ lim) (hsz : l.length + 8 ≤ 100000000) (hv : v < 65536) : ∃ h', CW 38 [ptr w 0, .int .u16 v] h = some (.tuple #[], h') ∧ IsW h' N w lim (l ++ beB 2 v) ∧ WS w h h' := by
  obtain ⟨h1, e1, e2, e3⟩ := r90 W (v := v) (n := 2) (by decide) (by decide) hfit hsz (by omega)
  have e1 : CW 90 [ptr w 0, .int .u64 v, .int .i64 2] h = _ := e1
  have hw : IntKind.wrap .u64 (v : Int) = (v : Int) := wrap_u64 (by omega) (by omega)
  refine ⟨h1, CW_body is38 W.g4 rfl ((t38_eq _ _ _ _).trans ?_), e2, e3⟩
  unfold t38
  simp -implicitDefEqProofs only [thenV_some, cvI_int, hw, e1]
theorem r39 {v : Nat} (hfit : l.length + 4 ≤ lim) (hsz : l.length + 8 ≤ 100000000) (hv : v < 4294967296) : ∃ h', CW 39 [ptr w 0, .int .u32 v] h = some (.tuple #[], h') ∧ IsW h' N w lim (l ++ beB 4 v) ∧ WS w h h' := by
  obtain ⟨h1, e1, e2, e3⟩ := r90 W (v := v) (n := 4) (by decide) (by decide) hfit hsz (by omega)
  have e1 : CW 90 [ptr w 0, .int .u64 v, .int .i64 4] h = _ := e1
  have hw : IntKind.wrap .u64 (v : Int) = (v : Int) := wrap_u64 (by omega) (by omega)
  refine ⟨h1, CW_body is39 W.g4 rfl ((t39_eq _ _ _ _).trans ?_), e2, e3⟩
  unfold t39
  simp -implicitDefEqProofs only [thenV_some, cvI_int, hw, e1]
/-- Bytes: a copy of what was written. -/
theorem r43 (hl : l.length ≤ 100000000) : ∃ a c h', CW 43 [ptr w 0] h = some (.tuple #[.slice a l.length c, .int .i64 0], h') ∧ sliceBytes a l.length h' = some l ∧ goodS a l.length c = true ∧ Old h h' ∧ (∀ y, a = some y → h.next ≤ y.block) := by
  obtain ⟨v, h1, h2, h3⟩ := W.ex
  obtain ⟨a, c, hv, h4, h5, h6, h7⟩ := h2.bytes
  obtain ⟨a', c', h', e1, e2, e3, e4, e5, _⟩ := r69b (c := c) W.g4 h4 hl
  have l1 : ld1 (ptr w 1) h = some (.bool false, h) := ld1_at h1 rfl
  have l2 : ld1 (ptr w 2) h = some (.slice a l.length c, h) := by rw [← hv]; exact ld1_at h1 rfl (h2.cell.2.2)
  refine ⟨a', c', h', CW_body is43 W.g4 rfl ((t43_eq _ _ _).trans ?_), e2, e3, e4, fun y hy => (e5 y hy).1⟩
  unfold t43
  simp -implicitDefEqProofs only [thenV_some, eql110, pu_some, nilCheck_ptr, addP_ptr, Nat.zero_add, l1, l2, e1]
end

end
end Go.Proofs.YtdmnphocgfnlpaaGreatDoor

namespace Go.Proofs.YtdmnphocgfnlpaaGreatDoor
open Go Go.Abs
attribute [local congr] thenV_congr
end Go.Proofs.YtdmnphocgfnlpaaGreatDoor

namespace Go.Proofs.YtdmnphocgfnlpaaGreatDoor
open Go Go.Abs
noncomputable section
/-- What a Reader has left, and its error (0: none). -/
structure Rd where
  l : List Nat
  e : Int
abbrev Rd.ok (s : Rd) (n : Nat) : Prop := s.e = 0 ∧ n ≤ s.l.length
def Rd.skip (s : Rd) (n : Nat) : Rd := if s.ok n then ⟨s.l.drop n, 0⟩ else if s.e = 0 then ⟨s.l, 4⟩ else s
section
variable {p r : Nat} {h : Heap}
end
end
end Go.Proofs.YtdmnphocgfnlpaaGreatDoor

namespace Go.Proofs.YtdmnphocgfnlpaaGreatDoor
open Go Go.Abs
noncomputable section
abbrev Rd.has (s : Rd) : Prop := s.e = 0 ∧ 2 ≤ s.l.length ∧ be (s.l.take 2) ≤ s.l.length - 2
def Rd.text (s : Rd) : List Nat := if s.has then (s.l.drop 2).take (be (s.l.take 2)) else []
def Rd.after (s : Rd) : Rd := if s.has then ⟨(s.l.drop 2).drop (be (s.l.take 2)), 0⟩ else if s.e = 0 then ⟨s.l, 4⟩ else s
section
variable {p r : Nat} {h : Heap}
end
end
end Go.Proofs.YtdmnphocgfnlpaaGreatDoor

namespace Go.Proofs.YtdmnphocgfnlpaaGreatDoor
open Go Go.Abs
theorem mid {k A B C : List Value} {p n : Nat} (h : k = A ++ (B ++ C)) (hA : A.length = p) (hB : B.length = n) : (k.drop p).take n = B := by
  subst h hA hB
  rw [List.drop_left, List.take_left]
theorem ldN_mid {h : Heap} {b p n : Nat} {k A B C : List Value} (g : h.get b = some k) (e : k = A ++ (B ++ C)) (hA : A.length = p) (hB : B.length = n) (nh : Abs.noHoles B = true) : ldN n (ptr b p) h = some (.agg B.toArray, h) := by
  have hm := mid e hA hB
  have hl : p + n ≤ k.length := by rw [e, List.length_append, List.length_append]; omega
  have := ldN_at g (o := p) (n := n) hl (by rw [hm]; exact nh)
  rw [hm] at this
  exact this
theorem ldN_all {h : Heap} {b n : Nat} {k : List Value} (g : h.get b = some k) (hl : k.length = n) (nh : Abs.noHoles k = true) : ldN n (ptr b 0) h = some (.agg k.toArray, h) := ldN_mid g (A := []) (B := k) (C := []) (by simp) rfl hl nh
theorem newC_eq (cs : List Value) (h : Heap) : newC cs h = some (ptr h.next 0, h.alloc cs) := rfl
theorem stN_whole {h : Heap} {b : Nat} {k k' : Blk} (hk : h.get b = some k) (h0 : h.n0 ≤ b) {n : Nat} (hn : k.length = n) (hn' : k'.length = n) (ho : oneCells k' = true) : stN n (ptr b 0) (.agg k'.toArray) h = some (undef, h.set b k') := by
  unfold stN ptr
  have hc : (Value.agg k'.toArray).cells = k'.toArray := rfl
  simp only [hc, List.size_toArray, hn', if_true]
  unfold stL
  simp only [hk]
  rw [if_pos (by simp [ho, h0, hn, hn'])]
  have : splice k 0 k' = k' := by simp [splice, hn, hn']
  simp [this]
theorem getD_mkF {n k : Nat} (hk : k < n) (x : Nat → Value) : (mkF n x).getD k undef = x k := by
  unfold mkF
  simp [hk]
end Go.Proofs.YtdmnphocgfnlpaaGreatDoor

namespace Go.Proofs.YtdmnphocgfnlpaaGreatDoor
open Go Go.Abs
noncomputable section
structure Ev where
  kind : Int
  peer : Int
  a : Int
  b : Int
  draw : Int
  data : List Nat
def evc (e : Ev) (v : Value) : List Value := [.int .u8 e.kind, .int .i64 e.peer, .int .i64 e.a, .int .i64 e.b, .int .u64 e.draw, v]
/-- An event's cells; its data lie in blocks of Q. -/
def EvAt (h : Heap) (Q : Nat → Prop) (cs : List Value) (e : Ev) : Prop :=
  ∃ a c, cs = evc e (.slice a e.data.length c) ∧ sliceBytes a e.data.length h = some e.data ∧ (0 < e.data.length → goodS a e.data.length c = true) ∧ ∀ y, a = some y → Q y.block
theorem EvAt.keep {h h' : Heap} {Q B : Nat → Prop} {cs : List Value} {e : Ev} (x : EvAt h Q cs e) (k : Kept h h' B) (hB : ∀ b, Q b → ¬ B b) : EvAt h' Q cs e := by
  obtain ⟨a, c, h1, h2, h3, h4⟩ := x
  exact ⟨a, c, h1, k.bytes h2 fun y hy _ => hB _ (h4 y hy), h3, h4⟩
theorem EvAt.mono {h : Heap} {Q Q' : Nat → Prop} {cs : List Value} {e : Ev} (x : EvAt h Q cs e) (hQ : ∀ b, Q b → Q' b) : EvAt h Q' cs e := by
  obtain ⟨a, c, h1, h2, h3, h4⟩ := x
  exact ⟨a, c, h1, h2, h3, fun y hy => hQ _ (h4 y hy)⟩
/-- The cells of a list of events. -/
structure EvL (h : Heap) (Q : Nat → Prop) (cells : List Value) (es : List Ev) : Prop where
  len : cells.length = es.length * 6
  ev : ∀ i e, es[i]? = some e → EvAt h Q ((cells.drop (6 * i)).take 6) e
theorem EvL.keep {h h' : Heap} {Q B : Nat → Prop} {cs : List Value} {es : List Ev} (x : EvL h Q cs es) (k : Kept h h' B) (hB : ∀ b, Q b → ¬ B b) : EvL h' Q cs es :=
  ⟨x.len, fun i e he => (x.ev i e he).keep k hB⟩
theorem EvL.mono {h : Heap} {Q Q' : Nat → Prop} {cs : List Value} {es : List Ev} (x : EvL h Q cs es) (hQ : ∀ b, Q b → Q' b) : EvL h Q' cs es :=
  ⟨x.len, fun i e he => (x.ev i e he).mono hQ⟩
theorem EvL.nil (h : Heap) (Q : Nat → Prop) : EvL h Q [] [] := ⟨rfl, fun i e he => by cases i <;> cases he⟩
theorem EvL.snoc {h : Heap} {Q : Nat → Prop} {cells cs : List Value} {es : List Ev} {e : Ev} (x : EvL h Q cells es) (y : EvAt h Q cs e) : EvL h Q (cells ++ cs) (es ++ [e]) := by
  have hl : cs.length = 6 := by obtain ⟨a, c, h1, _⟩ := y; rw [h1]; rfl
  refine ⟨by rw [List.length_append, x.len, hl, List.length_append]; simp; omega, fun i f hf => ?_⟩
  rcases Nat.lt_or_ge i es.length with hi | hi
  · rw [List.getElem?_append_left hi] at hf
    have hq := x.ev i f hf
    have h6 : 6 * i + 6 ≤ cells.length := by rw [x.len]; omega
    rw [List.drop_append_of_le_length (by omega), List.take_append_of_le_length (by simp; omega)]
    exact hq
  · have : i = es.length := by
      have := (List.getElem?_eq_some_iff.1 hf).1
      simp at this; omega
    subst this
    rw [List.getElem?_append_right (Nat.le_refl _), Nat.sub_self] at hf
    have hf : e = f := Option.some.inj hf
    subst hf
    have hlen : 6 * es.length = cells.length := by rw [x.len]; omega
    rw [hlen, List.drop_left, List.take_of_length_le (by omega)]
    exact y
def ev0 : List Value := [.int .u8 0, .int .i64 0, .int .i64 0, .int .i64 0, .int .u64 0, .slice none 0 0]
theorem bsl_ev (g : Heap) (x1 x2 x3 x4 x5 : Int) (a : Option Addr) (n c : Nat) :
    bslR 6 (.agg ev0.toArray) 1 [(0, .agg [.int .u8 x1, .int .i64 x2, .int .i64 x3, .int .i64 x4, .int .u64 x5, .slice a n c].toArray)] g = some (.slice (some ⟨g.next, 0, none⟩) 1 1, g.alloc [.int .u8 x1, .int .i64 x2, .int .i64 x3, .int .i64 x4, .int .u64 x5, .slice a n c]) := by
  have hz : zeros (Value.agg ev0.toArray).cells.toList 1 = ev0 := rfl
  unfold bslR
  rw [hz]
  rfl
end
end Go.Proofs.YtdmnphocgfnlpaaGreatDoor

namespace Go.Proofs.YtdmnphocgfnlpaaGreatDoor
open Go Go.Abs
noncomputable section
/-- The Reader's states within an event. -/
def q1 (l : List Nat) : Rd := Rd.skip ⟨l, 0⟩ 1
def q2 (l : List Nat) : Rd := (q1 l).skip 1
def q3 (l : List Nat) : Rd := (q2 l).skip 2
def q4 (l : List Nat) : Rd := (q3 l).skip 2
def q5 (l : List Nat) : Rd := (q4 l).skip 8
def q6 (l : List Nat) : Rd := (q5 l).after
end
end Go.Proofs.YtdmnphocgfnlpaaGreatDoor

namespace Go.Proofs.YtdmnphocgfnlpaaGreatDoor
open Go Go.Abs
noncomputable section
theorem OwnC.base {h : Heap} {N size : Nat} {v : Value} {len : Nat} {cells : List Value} (o : OwnC h N size v len cells) {b : Nat} (hb : baseOf v = some b) : N ≤ b := by
  obtain ⟨_, _, _, h4⟩ := o
  rcases h4 with ⟨rfl, _⟩ | ⟨b', s, rfl, h5, _⟩
  · cases hb
  · cases hb; exact h5
theorem firstA_one {h : Heap} {b : Nat} {cs : List Value} {n : Nat} (g : h.get b = some cs) (hl : cs.length = n) (h0 : 0 < n) (nh : Abs.noHoles cs = true) : firstA n 1 (.slice (some ⟨b, 0, none⟩) 1 1) h = some cs := by
  have e : (cs.drop 0).take (1 * n) = cs := by rw [List.drop_zero, List.take_of_length_le (by omega)]
  simp only [firstA]
  rw [if_neg (by omega)]
  simp only [g, e]
  rw [if_pos ⟨by omega, nh⟩]
end
end Go.Proofs.YtdmnphocgfnlpaaGreatDoor

namespace Go.Proofs.YtdmnphocgfnlpaaGreatDoor
open Go Go.Abs
attribute [local congr] thenV_congr
def strOf (l : List Nat) : ByteArray := ⟨(l.map UInt8.ofNat).toArray⟩
def u8v (n : Nat) : Value := .int .u8 (n : Int)
theorem mapM_asByte : ∀ {l : List Nat}, (l.map u8v).mapM asByte = some (l.map UInt8.ofNat)
  | [] => rfl
  | n :: l => by
    have ih := mapM_asByte (l := l)
    rw [List.map_cons, List.mapM_cons, ih]
    rfl
end Go.Proofs.YtdmnphocgfnlpaaGreatDoor

namespace Go.Proofs.YtdmnphocgfnlpaaGreatDoor
open Go Go.Abs
section
theorem cvBS_at {a : Option Addr} {n c : Nat} {h : Heap} {l : List Nat} (e : sliceBytes a n h = some l) : cvBS (.slice a n c) h = some (.string (strOf l), h) := by
  have hl := (sliceBytes_spec e).1
  have hf := firstA_of e (Nat.le_refl n) (c := c)
  rw [List.take_of_length_le (by omega)] at hf
  unfold cvBS bsR
  simp only [hf, show (l.map u8).mapM asByte = some (l.map UInt8.ofNat) from mapM_asByte]
  rfl
end
end Go.Proofs.YtdmnphocgfnlpaaGreatDoor

namespace Go.Proofs.YtdmnphocgfnlpaaGreatDoor
open Go Go.Abs
section
theorem OwnC.empty (h : Heap) {N size b : Nat} (hb : N ≤ b) : OwnC h N size (.slice (some ⟨b, 0, none⟩) 0 0) 0 [] := ⟨by simp, rfl, rfl, .inr ⟨b, none, rfl, hb, .inl ⟨rfl, rfl⟩⟩⟩
end
section
end
section
theorem is44 : IsFn Tryz.prog 44 Tryz.f44 := ⟨by kernel_rfl, by kernel_rfl, by kernel_rfl, by kernel_rfl⟩
theorem b44_exit (C : CallF) (e : Env) (h : Heap) : b44_4 C 0 e h = k44_2 C e h := rfl
/-- A byte is appended. -/
theorem app_lit {g : Heap} {N x : Nat} {v : Value} {l : List Nat} (o : OwnB g N v l) (h0 : g.n0 ≤ N) (hN : N ≤ g.next) (hx : x < 256) (hl : l.length ≤ 1000000) :
    ∃ v' g', appendA 1 1 v (.slice (some ⟨g.next, 0, none⟩) 1 1) (g.alloc [u8 x]) = some (v', g') ∧ OwnB g' N v' (l ++ [x]) ∧ Kept g g' (fun c => baseOf v = some c) := by
  have ka : Old g (g.alloc [u8 x]) := Kept.alloc _ _ _
  obtain ⟨v', g', e1, e2, e3, _⟩ := append_ownB (c := 1) (o.keep ka (fun _ _ h => h)) (by rw [ka.n0]; exact h0) (Nat.le_trans hN ka.next) (bytes1 g hx) (by omega)
  exact ⟨v', g', e1, e2, (ka.mono (fun _ _ h => h.elim)).also e3 (fun _ _ h => h)⟩
/-- Number. -/
theorem r44 (h : Heap) (hG : 2 ≤ h.n0) {n k : Nat} (h1 : 1 ≤ k) (hk : k ≤ 8) (hn : n < 18446744073709551616) : ∃ v h', CW 44 [.int .u64 (n : Int), i64n k] h = some (v, h') ∧ OwnB h' h.next v (beB k n) ∧ Old h h' := by
  have oA : Old h (h.alloc []) := Kept.alloc _ _ _
  have nA : (h.alloc []).next = h.next + 1 := Heap.next_alloc ..
  have own0 : OwnB (h.alloc []) h.next (.slice (some ⟨h.next, 0, none⟩) 0 0) [] := ⟨OwnC.empty _ (Nat.le_refl _), by simp⟩
  have hn0 := h.n0_le_next
  have hsub : bin Tryz.prog .sub 3 (i64n k) (.int .i64 1) = some (.int .i64 ((k : Int) - 1)) := by
    unfold i64n
    rw [bin_sub, wrap_i64 (by omega) (by omega)]
  have key : ∀ o, t44 CW (.int .u64 (n : Int)) (i64n k) h = o → ∃ v h', o = some (v, h') ∧ OwnB h' h.next v (beB k n) ∧ Old h h' := by
    intro o ho
    subst ho
    unfold t44
    simp -implicitDefEqProofs only [thenV_some, bsl_bytes, hsub, pu_some]
    refine endL_fin (n := 24) (fin := fun ex y g => ex = .exit 0 ∧ OwnB g h.next (y 5) (beB k n) ∧ Old h g) (Q := fun o : Out => ∃ v h', o = some (v, h') ∧ OwnB h' h.next v (beB k n) ∧ Old h h')
      (loop_fin (t44l44_11010_eq CW) (Inv := fun m y g => m ≤ k ∧ y 0 = .int .u64 (n : Int) ∧ y 6 = .int .i64 ((m : Int) - 1) ∧ Old h g ∧ ∃ cur, OwnB g h.next (y 5) cur ∧ cur ++ beB m n = beB k n) ?_ k (by have : rounds = 18446744073709551616 := rfl; omega)
        ⟨Nat.le_refl _, rfl, rfl, oA, [], own0, rfl⟩) ?_
    · rintro m y g ⟨hm, y0, y6, old, cur, own, hcur⟩
      have hclen : cur.length + m = k := by
        have := congrArg List.length hcur
        simpa [beB_length] using this
      unfold t44l44_11010
      simp -implicitDefEqProofs only [y6, thenV_some, bin_geq, pu_some]
      by_cases hz : m = 0
      · subst hz
        have hd : decide ((((0 : Nat) : Int) - 1) ≥ 0) = false := by decide
        simp -implicitDefEqProofs only [hd]
        have : cur = beB k n := by simpa [beB] using hcur
        exact Rnd.out 0 ⟨rfl, this ▸ own, old⟩
      · obtain ⟨q, rfl⟩ : ∃ q, m = q + 1 := ⟨m - 1, by omega⟩
        have hd : decide ((((q + 1 : Nat) : Int) - 1) ≥ 0) = true := decide_eq_true (by omega)
        have hcu : IntKind.wrap .u64 (((q + 1 : Nat) : Int) - 1) = ((q : Nat) : Int) := by
          rw [wrap_u64 (by omega) (by omega)]; omega
        have hm8 : bin Tryz.prog .mul 151 (.int .u64 8) (.int .u64 ((q : Nat) : Int)) = some (.int .u64 ((8 * q : Nat) : Int)) := by
          rw [bin_mul, wrap_u64 (by omega) (by omega)]
          exact congrArg (fun z => some (Value.int .u64 z)) (by omega)
        have hsh : bin Tryz.prog .shr 27 (.int .u64 (n : Int)) (.int .u64 ((8 * q : Nat) : Int)) = some (.int .u64 ((n / 256 ^ q : Nat) : Int)) := by
          rw [bin_shr_nat Tryz.prog 27 (k := .u64) (k' := .u64) (b := 8 * q) (by show 8 * q ≤ 64; omega)]
          rw [show (2 : Nat) ^ (8 * q) = 256 ^ q by rw [Nat.pow_mul]]
        have hcv : IntKind.wrap .u8 ((n / 256 ^ q : Nat) : Int) = ((n / 256 ^ q % 256 : Nat) : Int) := by
          rw [wrap_u8_mod]; omega
        have hlt8 : n / 256 ^ q % 256 < 256 := Nat.mod_lt _ (by decide)
        generalize hx : n / 256 ^ q % 256 = x at *
        obtain ⟨v', g', e1, e2, e3⟩ := app_lit own (by rw [old.n0]; exact hn0) old.next hlt8 (by omega)
        have hsub2 : bin Tryz.prog .sub 3 (.int .i64 (((q + 1 : Nat) : Int) - 1)) (.int .i64 1) = some (.int .i64 ((q : Int) - 1)) := by
          rw [bin_sub, wrap_i64 (by omega) (by omega)]
          exact congrArg (fun z => some (Value.int .i64 z)) (by omega)
        simp -implicitDefEqProofs only [hd, y0, thenV_some, pu_some, cvI_int, hcu, hm8, hsh, hcv]
        rw [show (Value.int .u8 (x : Int)) = u8 x from rfl, bsl1]
        simp -implicitDefEqProofs only [thenV_some, e1, hsub2, pu_some]
        refine Rnd.next q (by omega) ⟨by omega, y0, rfl, old.also e3 (fun c hc hb => by have := own.own.base hb; omega), cur ++ [x], e2, ?_⟩
        rw [← hcur, beB, hx, List.append_assoc]; rfl
    · rintro ex z g ⟨rfl, own, old⟩
      simp -implicitDefEqProofs only [endL_exit, b44_exit, t44k44_2_eq]
      unfold t44k44_2
      exact ⟨_, g, rfl, own, old⟩
  obtain ⟨v, h', e, o⟩ := key _ rfl
  exact ⟨v, h', CW_body is44 hG rfl ((t44_eq _ _ _ _).trans e), o⟩
end
end Go.Proofs.YtdmnphocgfnlpaaGreatDoor

namespace Go.Proofs.YtdmnphocgfnlpaaGreatDoor
open Go Go.Abs
noncomputable section
def setC (p b q : Int) : List Value := [.int .i64 p, .int .i64 b, .int .i64 q]
def validS (p b q : Int) : Bool := decide (p ≥ 2) && decide (p ≤ 16) && decide (b ≥ 4) && decide (b ≤ 4096) && decide (q ≥ 0) && decide (q ≤ 4294967295)
theorem is12' : IsFn Tryz.prog 12 Tryz.f12 := ⟨by kernel_rfl, by kernel_rfl, by kernel_rfl, by kernel_rfl⟩
theorem is13 : IsFn Tryz.prog 13 Tryz.f13 := ⟨by kernel_rfl, by kernel_rfl, by kernel_rfl, by kernel_rfl⟩
theorem sF : ((some false : Option Bool) == some true) = false := rfl
theorem box_set (h : Heap) (p b q : Int) : box (.agg (setC p b q).toArray) h = some (ptr h.next 0, h.alloc (setC p b q)) := box_at h _ rfl
section
variable {h : Heap} (hG : 2 ≤ h.n0) (p b q : Int)
include hG
theorem r12 : ∃ h', CW 12 [.agg (setC p b q).toArray] h = some (.bool (validS p b q), h') ∧ Old h h' := by
  refine ⟨h.alloc (setC p b q), CW_body is12' hG rfl ((t12_eq _ _ _).trans ?_), Kept.alloc _ _ _⟩
  have g : (h.alloc (setC p b q)).get h.next = some (setC p b q) := by rw [Heap.get_alloc, if_pos rfl]
  have l0 : ld1 (ptr h.next 0) (h.alloc (setC p b q)) = some (.int .i64 p, h.alloc (setC p b q)) := ld1_at g rfl
  have l1 : ld1 (ptr h.next 1) (h.alloc (setC p b q)) = some (.int .i64 b, h.alloc (setC p b q)) := ld1_at g rfl
  have l2 : ld1 (ptr h.next 2) (h.alloc (setC p b q)) = some (.int .i64 q, h.alloc (setC p b q)) := ld1_at g rfl
  unfold t12 validS
  simp -implicitDefEqProofs only [box_set, thenV_some, addP_ptr, pu_some, Nat.zero_add, l0, l1, l2, bin_geq, bin_leq, bOf_bool]
  rcases hb0 : decide (p ≥ 2) with _ | _ <;> rcases hb1 : decide (p ≤ 16) with _ | _ <;> rcases hb2 : decide (b ≥ 4) with _ | _ <;> rcases hb3 : decide (b ≤ 4096) with _ | _ <;> rcases hb4 : decide (q ≥ 0) with _ | _ <;> rcases hb5 : decide (q ≤ 4294967295) with _ | _ <;>
    simp -implicitDefEqProofs only [sF, beq_self_eq_true, guardK_true, guardK_false, thenV_some, pu_some, l0, l1, l2, bin_geq, bin_leq, hb0, hb1, hb2, hb3, hb4, hb5, bOf_bool, if_true, Bool.false_eq_true, if_false, Bool.and_true, Bool.true_and, Bool.and_false, Bool.false_and]
theorem r13 : ∃ h', CW 13 [.agg (setC p b q).toArray] h = some (.bool (validS p b q), h') ∧ Old h h' := by
  refine ⟨h.alloc (setC p b q), CW_body is13 hG rfl ((t13_eq _ _ _).trans ?_), Kept.alloc _ _ _⟩
  have g : (h.alloc (setC p b q)).get h.next = some (setC p b q) := by rw [Heap.get_alloc, if_pos rfl]
  have l0 : ld1 (ptr h.next 0) (h.alloc (setC p b q)) = some (.int .i64 p, h.alloc (setC p b q)) := ld1_at g rfl
  have l1 : ld1 (ptr h.next 1) (h.alloc (setC p b q)) = some (.int .i64 b, h.alloc (setC p b q)) := ld1_at g rfl
  have l2 : ld1 (ptr h.next 2) (h.alloc (setC p b q)) = some (.int .i64 q, h.alloc (setC p b q)) := ld1_at g rfl
  unfold t13 validS
  simp -implicitDefEqProofs only [box_set, thenV_some, addP_ptr, pu_some, Nat.zero_add, l0, l1, l2, bin_geq, bin_leq, bOf_bool]
  rcases hb0 : decide (p ≥ 2) with _ | _ <;> rcases hb1 : decide (p ≤ 16) with _ | _ <;> rcases hb2 : decide (b ≥ 4) with _ | _ <;> rcases hb3 : decide (b ≤ 4096) with _ | _ <;> rcases hb4 : decide (q ≥ 0) with _ | _ <;> rcases hb5 : decide (q ≤ 4294967295) with _ | _ <;>
    simp -implicitDefEqProofs only [sF, beq_self_eq_true, guardK_true, guardK_false, thenV_some, pu_some, l0, l1, l2, bin_geq, bin_leq, hb0, hb1, hb2, hb3, hb4, hb5, bOf_bool, if_true, Bool.false_eq_true, if_false, Bool.and_true, Bool.true_and, Bool.and_false, Bool.false_and]
end
end
end Go.Proofs.YtdmnphocgfnlpaaGreatDoor

namespace Go.Proofs.YtdmnphocgfnlpaaGreatDoor
open Go Go.Abs
noncomputable section
/-- The events that a slice of one's own holds. -/
def EvV (h : Heap) (v : Value) (es : List Ev) : Prop := ∃ N cells, OwnC h N 6 v es.length cells ∧ EvL h (fun b => b < h.next ∧ baseOf v ≠ some b) cells es
theorem EvV.nil (h : Heap) : EvV h (.slice none 0 0) [] := ⟨0, [], OwnC.nil h 0 6, EvL.nil h _⟩
theorem EvV.old {h h' : Heap} {v : Value} {es : List Ev} (x : EvV h v es) (o : Old h h') : EvV h' v es := by
  obtain ⟨N, cells, h1, h2⟩ := x
  exact ⟨N, cells, h1.keep o (fun _ _ h => h), (h2.keep o (fun _ _ h => h)).mono fun b hb => ⟨Nat.lt_of_lt_of_le hb.1 o.next, hb.2⟩⟩
def u1 (l : List Nat) : Rd := Rd.skip ⟨l, 0⟩ 1
def u2 (l : List Nat) : Rd := (u1 l).skip 2
def u3 (l : List Nat) : Rd := (u2 l).skip 4
theorem ldSet {h : Heap} {b : Nat} {x y z : Int} (g : h.get b = some (setC x y z)) : ldN 3 (ptr b 0) h = some (.agg (setC x y z).toArray, h) := ldN_all g rfl rfl
end
end Go.Proofs.YtdmnphocgfnlpaaGreatDoor

namespace Go.Proofs.YtdmnphocgfnlpaaGreatDoor
open Go Go.Abs
noncomputable section
theorem chkI (k : IntKind) (n : Int) (h : Heap) : chkR true (some (.int k n, h)) (.int k n) = true := by simp [chkR, same, veq]
theorem bsl_ev0 (g : Heap) : bslR 6 (.agg ev0.toArray) 0 [] g = some (.slice (some ⟨g.next, 0, none⟩) 0 0, g.alloc []) := rfl
theorem hag0 : (Value.agg #[.int .u8 0, .int .i64 0, .int .i64 0, .int .i64 0, .int .u64 0, .slice none 0 0]) = .agg ev0.toArray := rfl
end
end Go.Proofs.YtdmnphocgfnlpaaGreatDoor

namespace Go.Proofs.YtdmnphocgfnlpaaGreatDoor
open Go Go.Abs
noncomputable section
end
end Go.Proofs.YtdmnphocgfnlpaaGreatDoor

namespace Go.Proofs.YtdmnphocgfnlpaaGreatDoor
open Go Go.Abs
noncomputable section
/-- The events of a slice, as they are read. -/
def EvS (h : Heap) (v : Value) (es : List Ev) : Prop :=
  ∃ a c, v = .slice a es.length c ∧ ∀ (i : Nat) (e : Ev), es[i]? = some e → ∃ p cs, idxS 6 v (.int .i64 (i : Int)) = some p ∧ EvAt h (fun _ => True) cs e ∧ (∀ h', Old h h' → ldN 6 p h' = some (.agg cs.toArray, h')) ∧ ∃ b o, p = ptr b o ∧ ∀ h' (j : Nat) x, Old h h' → cs[j]? = some x → ld1 (ptr b (o + j)) h' = some (x, h')
theorem EvS.old {h h' : Heap} {v : Value} {es : List Ev} (x : EvS h v es) (o : Old h h') : EvS h' v es := by
  obtain ⟨a, c, hv, hx⟩ := x
  refine ⟨a, c, hv, fun i e he => ?_⟩
  obtain ⟨p, cs, h1, h2, h3, b, q, h4, h5⟩ := hx i e he
  exact ⟨p, cs, h1, h2.keep o (fun _ _ h => h), fun h'' o' => h3 h'' (o.trans o'), b, q, h4, fun h'' j x o' => h5 h'' j x (o.trans o')⟩
theorem EvV.toS {h : Heap} {v : Value} {es : List Ev} (x : EvV h v es) : EvS h v es := by
  obtain ⟨N, cells, ⟨o1, o2, o3, o4⟩, el⟩ := x
  have hs : ∀ {i : Nat} {e : Ev}, es[i]? = some e → i < es.length := fun h => (List.getElem?_eq_some_iff.1 h).1
  rcases o4 with ⟨rfl, h4⟩ | ⟨b, s, rfl, h5, ⟨rfl, h4⟩ | ⟨rfl, h6⟩⟩
  · exact ⟨none, 0, by rw [h4], fun i e he => absurd (hs he) (by omega)⟩
  · exact ⟨some ⟨b, 0, none⟩, es.length, rfl, fun i e he => absurd (hs he) (by omega)⟩
  · refine ⟨some ⟨b, 0, some 6⟩, es.length, rfl, fun i e he => ?_⟩
    have hi := hs he
    have hidx : (0 : Int) ≤ (i : Int) ∧ (i : Int) < (es.length : Int) := by omega
    have hl := el.len
    refine ⟨ptr b (0 + i * 6), (cells.drop (6 * i)).take 6, ?_, (el.ev i e he).mono (fun _ _ => trivial), fun h' o => ?_, b, 0 + i * 6, rfl, fun h' j x o hj => ?_⟩
    · simp only [idxS, hidx, and_self, if_true, Int.toNat_natCast]
    · have hc : (cells.drop (0 + i * 6)).take 6 = (cells.drop (6 * i)).take 6 := by rw [Nat.zero_add, Nat.mul_comm]
      have := ldN_at (n := 6) (o := 0 + i * 6) (o.getE h6 (fun h => h)) (by omega) (by
        rw [hc]
        obtain ⟨a, c, h1, _⟩ := el.ev i e he
        rw [h1]; rfl)
      rw [hc] at this
      exact this
    · obtain ⟨a, c, h1, _⟩ := el.ev i e he
      rw [h1] at hj
      have hjl : j < 6 := (List.getElem?_eq_some_iff.1 hj).1
      refine ld1_at (o.getE h6 (fun h => h)) ?_ ?_
      · rw [← h1, List.getElem?_take, if_pos hjl, List.getElem?_drop] at hj
        rw [← hj]
        congr 1
        omega
      · rcases (show j = 0 ∨ j = 1 ∨ j = 2 ∨ j = 3 ∨ j = 4 ∨ j = 5 by omega) with rfl | rfl | rfl | rfl | rfl | rfl <;> (cases hj; rfl)
theorem sT : ((some true : Option Bool) == some false) = false := rfl
end
end Go.Proofs.YtdmnphocgfnlpaaGreatDoor

namespace Go.Proofs.YtdmnphocgfnlpaaGreatDoor
open Go Go.Abs
noncomputable section
theorem is42' : IsFn Tryz.prog 42 Tryz.f42 := ⟨by kernel_rfl, by kernel_rfl, by kernel_rfl, by kernel_rfl⟩
theorem bsl2 (h : Heap) (x y : Nat) : bslR 1 (.int .u8 0) 2 [(0, u8 x), (1, u8 y)] h = some (.slice (some ⟨h.next, 0, none⟩) 2 2, h.alloc [u8 x, u8 y]) := rfl
theorem bytes2 (h : Heap) {x y : Nat} (hx : x < 256) (hy : y < 256) : sliceBytes (some ⟨h.next, 0, none⟩) 2 (h.alloc [u8 x, u8 y]) = some [x, y] := by
  have := sliceBytes_at (h := h.alloc [u8 x, u8 y]) (b := h.next) (off := 0) (n := 2) (s := none) (l := [x, y]) (by rw [Heap.get_alloc, if_pos rfl]; rfl) (by simp) (by simp [hx, hy])
  rw [this]; rfl
theorem beB2 (n : Nat) : beB 2 n = [n / 256 % 256, n % 256] := by
  show [n / 256 ^ 1 % 256, n / 256 ^ 0 % 256] = _
  simp
theorem r42 {h : Heap} {N w lim : Nat} {l : List Nat} (W : IsW h N w lim l) {a : Option Addr} {n c : Nat} {m : List Nat} (hm : sliceBytes a n h = some m) (ha : ∀ y, a = some y → 0 < n → Fr h w y.block) (hn : n ≤ 65535) (hfit : l.length + (n + 2) ≤ lim) (hsz : l.length + n + 8 ≤ 100000000) :
    ∃ h', CW 42 [ptr w 0, .slice a n c] h = some (.tuple #[], h') ∧ IsW h' N w lim (l ++ (beB 2 n ++ m)) ∧ WS w h h' := by
  obtain ⟨h1, e1, W1, k1⟩ := r91 W (n := n + 2) hfit
  have hsm := W.small
  have hx : n / 256 % 256 < 256 := Nat.mod_lt _ (by decide)
  have hy : n % 256 < 256 := Nat.mod_lt _ (by decide)
  have o1 : Old h1 (h1.alloc [u8 (n / 256 % 256), u8 (n % 256)]) := Kept.alloc _ _ _
  have k1a : WS w h (h1.alloc [u8 (n / 256 % 256), u8 (n % 256)]) := k1.trans (WS.of_old W1.lt o1)
  obtain ⟨v1, v2, g1, g2, f1, f2, f3, W2, k2⟩ := w_append (c := 2) (W1.alloc [u8 (n / 256 % 256), u8 (n % 256)]) (bytes2 h1 hx hy) (by omega)
  have k12 : WS w h g2 := k1a.trans k2
  obtain ⟨v3, v4, g3, g4, d1, d2, d3, W3, k3⟩ := w_append (c := c) W2 (k12.bytes hm ha) (by simp; omega)
  have hl2 : ld1 (ptr w 2) h1 = some (v1, h1) := by
    obtain ⟨vv, q1, q2, q3⟩ := W1.ex
    have e1 : ld1 (ptr w 2) h1 = some (vv, h1) := ld1_at q1 rfl (q2.cell.2.2)
    have e2 : ld1 (ptr w 2) (h1.alloc [u8 (n / 256 % 256), u8 (n % 256)]) = some (vv, h1.alloc [u8 (n / 256 % 256), u8 (n % 256)]) := ld1_at (Heap.get_alloc_some q1 _) rfl (q2.cell.2.2)
    rw [e2] at f1
    simp only [Option.some.injEq, Prod.mk.injEq, and_true] at f1
    rw [← f1]; exact e1
  have hl : lenL (.slice a n c) = some (i64n n) := rfl
  have hgt : bin Tryz.prog .gtr 3 (i64n n) (.int .i64 65535) = some (.bool false) := by
    rw [show (Value.int .i64 65535) = .int .i64 ((65535 : Nat) : Int) from rfl, gtr3, decide_eq_false (by omega)]
  have ha2 : bin Tryz.prog .add 3 (i64n n) (.int .i64 2) = some (i64n (n + 2)) := add3 (b := 2) (by omega)
  have hsh : bin Tryz.prog .shr 3 (i64n n) (.int .u64 8) = some (i64n (n / 256)) := by
    have := bin_shr_nat Tryz.prog 3 (k := .i64) (k' := .u64) (a := n) (b := 8) (by decide)
    exact this
  have c1 : IntKind.wrap .u8 ((n / 256 : Nat) : Int) = ((n / 256 % 256 : Nat) : Int) := by rw [wrap_u8_mod]; omega
  have c2 : IntKind.wrap .u8 ((n : Nat) : Int) = ((n % 256 : Nat) : Int) := by rw [wrap_u8_mod]; omega
  refine ⟨g4, CW_body is42' W.g4 rfl ((t42_eq _ _ _ _).trans ?_), ?_, k12.trans k3⟩
  · unfold t42
    simp -implicitDefEqProofs only [thenV_some, eql110, pu_some, hl, hgt, ha2, e1, nilCheck_ptr, addP_ptr, Nat.zero_add, hl2, hsh]
    simp -implicitDefEqProofs only [i64n, cvI_int, c1, c2, thenV_some]
    rw [show (Value.int .u8 ((n / 256 % 256 : Nat) : Int)) = u8 (n / 256 % 256) from rfl, show (Value.int .u8 ((n % 256 : Nat) : Int)) = u8 (n % 256) from rfl, bsl2]
    simp -implicitDefEqProofs only [thenV_some, f2, f3, d1, d2, d3, pu_some, nilCheck_ptr, addP_ptr, Nat.zero_add]
  · rw [beB2, ← List.append_assoc]; exact W3
end
end Go.Proofs.YtdmnphocgfnlpaaGreatDoor

namespace Go.Proofs.YtdmnphocgfnlpaaGreatDoor
open Go Go.Abs
noncomputable section
/-- An event whose numbers are of their types. -/
structure Ev.Wf (e : Ev) : Prop where
  k : 0 ≤ e.kind ∧ e.kind < 256
  p : -9223372036854775808 ≤ e.peer ∧ e.peer < 9223372036854775808
  a : -9223372036854775808 ≤ e.a ∧ e.a < 9223372036854775808
  b : -9223372036854775808 ≤ e.b ∧ e.b < 9223372036854775808
  d : 0 ≤ e.draw ∧ e.draw < 18446744073709551616
def writB (e : Ev) : Bool := decide (e.peer ≥ 0) && decide (e.peer ≤ 255) && decide (e.a ≥ 0) && decide (e.a ≤ 65535) && decide (e.b ≥ 0) && decide (e.b ≤ 65535) && decide ((e.data.length : Int) ≤ 65535)
def encE (e : Ev) : List Nat := beB 1 e.kind.toNat ++ (beB 1 e.peer.toNat ++ (beB 2 e.a.toNat ++ (beB 2 e.b.toNat ++ (beB 8 e.draw.toNat ++ (beB 2 e.data.length ++ e.data)))))
theorem encE_len (e : Ev) : (encE e).length = 16 + e.data.length := by
  unfold encE
  simp only [List.length_append, beB_length]
  omega
theorem is40' : IsFn Tryz.prog 40 Tryz.f40 := ⟨by kernel_rfl, by kernel_rfl, by kernel_rfl, by kernel_rfl⟩
theorem box_ev (h : Heap) (e : Ev) (a : Option Addr) (n c : Nat) : box (.agg (evc e (.slice a n c)).toArray) h = some (ptr h.next 0, h.alloc (evc e (.slice a n c))) := box_at h _ rfl
theorem r40 {h : Heap} (hG : 2 ≤ h.n0) (e : Ev) (a : Option Addr) (c : Nat) : ∃ h', CW 40 [.agg (evc e (.slice a e.data.length c)).toArray] h = some (.bool (writB e), h') ∧ Old h h' := by
  let K := evc e (.slice a e.data.length c)
  refine ⟨h.alloc K, CW_body is40' hG rfl ((t40_eq _ _ _).trans ?_), Kept.alloc _ _ _⟩
  have g : (h.alloc K).get h.next = some K := by rw [Heap.get_alloc, if_pos rfl]
  have l1 : ld1 (ptr h.next 1) (h.alloc K) = some (.int .i64 e.peer, h.alloc K) := ld1_at g rfl
  have l2 : ld1 (ptr h.next 2) (h.alloc K) = some (.int .i64 e.a, h.alloc K) := ld1_at g rfl
  have l3 : ld1 (ptr h.next 3) (h.alloc K) = some (.int .i64 e.b, h.alloc K) := ld1_at g rfl
  have l5 : ld1 (ptr h.next 5) (h.alloc K) = some (.slice a e.data.length c, h.alloc K) := ld1_at g rfl
  unfold t40 writB
  simp -implicitDefEqProofs only [box_ev, show h.alloc (evc e (.slice a e.data.length c)) = h.alloc K from rfl, thenV_some, addP_ptr, pu_some, Nat.zero_add, l1, bin_geq, bOf_bool]
  rcases hb0 : decide (e.peer ≥ 0) with _ | _ <;> rcases hb1 : decide (e.peer ≤ 255) with _ | _ <;> rcases hb2 : decide (e.a ≥ 0) with _ | _ <;> rcases hb3 : decide (e.a ≤ 65535) with _ | _ <;> rcases hb4 : decide (e.b ≥ 0) with _ | _ <;> rcases hb5 : decide (e.b ≤ 65535) with _ | _ <;> rcases hb6 : decide ((e.data.length : Int) ≤ 65535) with _ | _ <;>
    simp -implicitDefEqProofs only [sF, beq_self_eq_true, guardK_true, guardK_false, thenV_some, pu_some, l1, l2, l3, l5, lenL_slice, bin_geq, bin_leq, hb0, hb1, hb2, hb3, hb4, hb5, hb6, bOf_bool, if_true, Bool.false_eq_true, if_false, Bool.and_true, Bool.true_and, Bool.and_false, Bool.false_and]
theorem results9 : Tryz.f9.results.toList = [.tmp 4, .tmp 5] := by kernel_rfl
theorem res_two {rs : List ResultVar} {n i j : Nat} (hr : rs = [.tmp i, .tmp j]) (hi : i < n) (hj : j < n) (x : Nat → Value) (h : Heap) : resultsA Tryz.prog rs (mkF n x) h = some (.tuple #[x i, x j], h) := by
  subst hr
  simp only [resultsA, List.mapM_cons, List.mapM_nil, resultA, getD_mkF hi, getD_mkF hj]
  rfl
end
end Go.Proofs.YtdmnphocgfnlpaaGreatDoor

namespace Go.Proofs.YtdmnphocgfnlpaaGreatDoor
open Go Go.Abs
noncomputable section
/-- The limit of Script's Writer. -/
def maxI : Nat := 9223372036854775807
/-- What stands before a round of Script's loop: k events are still to come. -/
structure SL (h0 : Heap) (h1 : Heap) (N w : Nat) (v : Value) (es : List Ev) (l0 : List Nat) (k : Nat) (y : Nat → Value) (g : Heap) : Prop where
  hk : k ≤ es.length
  y6 : y 6 = ptr w 0
  y28 : y 28 = v
  y29 : y 29 = .int .i64 es.length
  y30 : y 30 = .int .i64 ((es.length - k : Nat) : Int)
  cur : IsW g N w maxI (l0 ++ (es.take (es.length - k)).flatMap encE)
  len : (l0 ++ (es.take (es.length - k)).flatMap encE).length ≤ 100 + (es.length - k) * 65600
  all : (es.take (es.length - k)).all writB = true
  ws : WS w h1 g
/-- What stands behind it. -/
def SF (h1 : Heap) (N w : Nat) (es : List Ev) (l0 : List Nat) (ex : Ex) (y : Nat → Value) (g : Heap) : Prop :=
  WS w h1 g ∧ ((ex = .exit 0 ∧ y 6 = ptr w 0 ∧ es.all writB = true ∧ IsW g N w maxI (l0 ++ es.flatMap encE) ∧ (l0 ++ es.flatMap encE).length ≤ 6000000) ∨ (ex = .ret ∧ es.all writB = false ∧ y 4 = .slice none 0 0 ∧ y 5 = .int .i64 2))
theorem take_snoc {α : Type} {l : List α} {i : Nat} {x : α} (h : l[i]? = some x) : l.take (i + 1) = l.take i ++ [x] := by
  rw [List.take_add_one, h]; rfl
set_option maxRecDepth 100000 in
theorem script_round {h0 h1 : Heap} {N w : Nat} {v : Value} {es : List Ev} {l0 : List Nat} (hS : EvS h0 v es) (hwf : ∀ e ∈ es, e.Wf) (h80 : es.length ≤ 80) (o01 : Old h0 h1) (hfr : ∀ b, b < h0.next → Fr h1 w b)
    {k : Nat} {y : Nat → Value} {g : Heap} (I : SL h0 h1 N w v es l0 k y g) :
    ∃ ex x' h', t9l9_111111010 CW y g = some (ex, mkF 69 x', h') ∧ ((ex = .normal ∧ ∃ j, j < k ∧ SL h0 h1 N w v es l0 j x' h') ∨ (ex ≠ .normal ∧ SF h1 N w es l0 ex x' h')) := by
  obtain ⟨hk, y6, y28, y29, y30, W, hlen, hall, ws⟩ := I
  unfold t9l9_111111010
  simp -implicitDefEqProofs only [y29, y30, thenV_some, pu_some, bin_lss]
  by_cases hz : k = 0
  · have hd : ¬ (((es.length - k : Nat) : Int) < (es.length : Int)) := by omega
    simp -implicitDefEqProofs only [decide_eq_false hd]
    rw [hz, Nat.sub_zero, List.take_of_length_le (Nat.le_refl _)] at W hlen hall
    refine ⟨_, _, _, rfl, .inr ⟨by simp, ws, .inl ⟨rfl, ?_, hall, W, by omega⟩⟩⟩
    simp only [up_cons, up_nil, Nat.reduceEqDiff, if_false, y6]
  have hd : (((es.length - k : Nat) : Int) < (es.length : Int)) := by omega
  have hi : es.length - k < es.length := by omega
  obtain ⟨av, cv, hv, hx⟩ := hS
  have hE0 := List.getElem?_eq_getElem hi
  generalize hE : es[es.length - k] = e at *
  have hmem : e ∈ es := List.mem_of_getElem? hE0
  have wf := hwf e hmem
  obtain ⟨p, cs, i1, ⟨a, c, hc, hb, hgd, _⟩, l1, -⟩ := hx _ _ hE0
  -- the heaps
  have og : Old h0 g := ⟨ws.n0.trans o01.n0, Nat.le_trans o01.next ws.next, fun d hd _ => (ws.getB d (hfr d hd)).trans (o01.getB d hd (fun h => h))⟩
  have hw := W.lt
  let ga := g.alloc ev0
  have na : ga.next = g.next + 1 := Heap.next_alloc ..
  have n0g := g.n0_le_next
  have q1 : ga.get g.next = some ev0 := by rw [Heap.get_alloc, if_pos rfl]
  let gb := ga.set g.next cs
  have s1 : stN 6 (ptr g.next 0) (.agg cs.toArray) ga = some (undef, gb) := by
    have : gb = ga.set g.next (evc e (.slice a e.data.length c)) := by show ga.set g.next cs = _; rw [hc]
    rw [hc, this]
    exact stN_whole q1 n0g rfl rfl rfl
  have kab : Kept ga gb (fun c => c = g.next) := Kept.set (h := ga) n0g q1 (.inr rfl)
  have ogb : Old g gb := (Kept.alloc g ev0 _).also kab (fun d hd hh => by have hh : d = g.next := hh; omega)
  have m1 : gb.get g.next = some (evc e (.slice a e.data.length c)) := by rw [← hc]; exact Heap.get_set_same (h := ga) n0g q1 _
  have nb : g.next < gb.next := gb.lt_of_get m1
  have ld6 : ldN 6 (ptr g.next 0) gb = some (.agg cs.toArray, gb) := by rw [hc]; exact ldN_all m1 rfl rfl
  have wgb : WS w g gb := WS.of_old hw ogb
  have Wb := W.old ogb
  obtain ⟨gc, e40, obc⟩ := r40 (h := gb) Wb.g4 e a c
  rw [← hc] at e40
  have ogc : Old g gc := ogb.trans obc
  have wgc : WS w g gc := WS.of_old hw ogc
  have Wc := W.old ogc
  have m2 : gc.get g.next = some (evc e (.slice a e.data.length c)) := obc.getE m1 (fun h => h)
  simp -implicitDefEqProofs only [decide_eq_true hd, y28, i1, l1 g og, pu_some, thenV_some, newC_eq, show [Value.int .u8 0, .int .i64 0, .int .i64 0, .int .i64 0, .int .u64 0, .slice none 0 0] = ev0 from rfl, show g.alloc ev0 = ga from rfl, s1, ld6, e40, unA_not]
  by_cases hwr : writB e = true
  rotate_left
  · have hwr' : writB e = false := by simpa using hwr
    simp -implicitDefEqProofs only [hwr', Bool.not_false]
    refine ⟨_, _, _, rfl, .inr ⟨by simp, ws.trans wgc, .inr ⟨rfl, ?_, ?_, ?_⟩⟩⟩
    · rw [List.all_eq_false]
      exact ⟨e, hmem, by rw [hwr']; decide⟩
    · simp only [up_cons, up_nil, Nat.reduceEqDiff, if_false, if_true]
    · simp only [up_cons, up_nil, Nat.reduceEqDiff, if_false, if_true]
  simp -implicitDefEqProofs only [hwr, Bool.not_true]
  have hww := hwr
  unfold writB at hww
  simp only [Bool.and_eq_true, decide_eq_true_eq] at hww
  obtain ⟨⟨⟨⟨⟨⟨b1, b2⟩, b3⟩, b4⟩, b5⟩, b6⟩, b7⟩ := hww
  obtain ⟨⟨k1, k2⟩, _, _, _, ⟨d1, d2⟩⟩ := wf
  -- the block of the event is none of the Writer's
  have fr8 : Fr gc w g.next := by
    refine ⟨by have := obc.next; omega, by omega, ?_⟩
    obtain ⟨vv, z1, z2, z3, z4⟩ := W.ex
    have hwb : wb gc w = baseOf vv := by unfold wb; rw [ogc.getE z1 (fun h => h)]
    rw [hwb]
    intro hh
    have := z4 _ hh
    omega
  have frD : ∀ y, a = some y → 0 < e.data.length → Fr gc w y.block := by
    intro y0 hy hp
    obtain ⟨b, off, s, kk, hx, hkk, _⟩ := (sliceBytes_spec hb).2.2 hp
    rw [hx] at hy
    cases hy
    exact wgc.fr _ (ws.fr _ (hfr _ (h0.lt_of_get hkk)))
  have hkn : e.kind = ((e.kind.toNat : Nat) : Int) := (Int.toNat_of_nonneg k1).symm
  have hpn : e.peer = ((e.peer.toNat : Nat) : Int) := (Int.toNat_of_nonneg b1).symm
  have han : e.a = ((e.a.toNat : Nat) : Int) := (Int.toNat_of_nonneg b3).symm
  have hbn : e.b = ((e.b.toNat : Nat) : Int) := (Int.toNat_of_nonneg b5).symm
  have hdn : e.draw = ((e.draw.toNat : Nat) : Int) := (Int.toNat_of_nonneg d1).symm
  have w1 : IntKind.wrap .u8 e.peer = e.peer := wrap_u8 (by omega) (by omega)
  have w2 : IntKind.wrap .u16 e.a = e.a := wrap_u16 (by omega) (by omega)
  have w3 : IntKind.wrap .u16 e.b = e.b := wrap_u16 (by omega) (by omega)
  generalize hcur : l0 ++ (es.take (es.length - k)).flatMap encE = cur at *
  have hcl : cur.length + 66000 ≤ 100000000 := by omega
  have hmx : maxI = 9223372036854775807 := rfl
  obtain ⟨g1, x1, W1, k1'⟩ := r37 Wc (v := e.kind.toNat) (by omega) (by omega) (by omega)
  obtain ⟨g2, x2, W2, k2'⟩ := r37 W1 (v := e.peer.toNat) (by simp only [List.length_append, beB_length]; omega) (by simp only [List.length_append, beB_length]; omega) (by omega)
  obtain ⟨g3, x3, W3, k3'⟩ := r38 W2 (v := e.a.toNat) (by simp only [List.length_append, beB_length]; omega) (by simp only [List.length_append, beB_length]; omega) (by omega)
  obtain ⟨g4, x4, W4, k4'⟩ := r38 W3 (v := e.b.toNat) (by simp only [List.length_append, beB_length]; omega) (by simp only [List.length_append, beB_length]; omega) (by omega)
  obtain ⟨g5, x5, W5, k5'⟩ := r41 W4 (v := e.draw.toNat) (by simp only [List.length_append, beB_length]; omega) (by simp only [List.length_append, beB_length]; omega) (by omega)
  have c12 := k1'.trans k2'
  have c13 := c12.trans k3'
  have c14 := c13.trans k4'
  have c15 := c14.trans k5'
  have hbc : sliceBytes a e.data.length gc = some e.data := Old.bytes (Kept.trans og ogc) hb
  obtain ⟨g6, x6, W6, k6'⟩ := r42 (c := c) W5 (c15.bytes hbc frD) (fun y0 hy hp => c15.fr _ (frD y0 hy hp)) (by omega) (by simp only [List.length_append, beB_length]; omega) (by simp only [List.length_append, beB_length]; omega)
  have ld : ∀ {hh : Heap} (kk : WS w gc hh) (o : Nat) (x : Value), (evc e (.slice a e.data.length c))[o]? = some x → isHole x = false → ld1 (ptr g.next o) hh = some (x, hh) := fun kk o x hx hh => ld1_at ((kk.get _ fr8).trans m2) hx hh
  rw [← hkn] at x1
  rw [← hpn] at x2
  rw [← han] at x3
  rw [← hbn] at x4
  rw [← hdn] at x5
  have w9 : IntKind.wrap .i64 (((es.length - k : Nat) : Int) + 1) = ((es.length - (k - 1) : Nat) : Int) := by rw [wrap_i64 (by omega) (by omega)]; omega
  simp -implicitDefEqProofs only [y6, addP_ptr, Nat.zero_add, pu_some, thenV_some, ld (WS.refl w gc) 0 _ rfl rfl, x1, ld k1' 1 _ rfl rfl, cvI_int, w1, x2, ld c12 2 _ rfl rfl, w2, x3, ld c13 3 _ rfl rfl, w3, x4, ld c14 4 _ rfl rfl, x5, ld c15 5 _ rfl rfl, x6, bin_add, w9]
  have htake : es.take (es.length - (k - 1)) = es.take (es.length - k) ++ [e] := by
    rw [show es.length - (k - 1) = es.length - k + 1 by omega]
    exact take_snoc hE0
  have hfl : l0 ++ (es.take (es.length - (k - 1))).flatMap encE = cur ++ encE e := by
    rw [htake, List.flatMap_append, ← List.append_assoc, hcur]; simp
  refine ⟨_, _, _, rfl, .inl ⟨rfl, k - 1, by omega, by omega, ?_, ?_, ?_, ?_, ?_, ?_, ?_, ((ws.trans wgc).trans c15).trans k6'⟩⟩
  · simp only [up_cons, up_nil, Nat.reduceEqDiff, if_false, y6]
  · simp only [up_cons, up_nil, Nat.reduceEqDiff, if_false, y28]
  · simp only [up_cons, up_nil, Nat.reduceEqDiff, if_false, y29]
  · simp only [up_cons, up_nil, Nat.reduceEqDiff, if_false, if_true]
  · rw [hfl]
    unfold encE
    simpa only [List.append_assoc] using W6
  · rw [hfl, List.length_append, encE_len]
    omega
  · rw [htake, List.all_append, hall]
    simp [hwr]
end
end Go.Proofs.YtdmnphocgfnlpaaGreatDoor

namespace Go.Proofs.YtdmnphocgfnlpaaGreatDoor
open Go Go.Abs
noncomputable section
theorem eql_selfI (t : TypeId) (k : IntKind) (n : Int) : bin Tryz.prog .eql t (.int k n) (.int k n) = some (.bool true) := by rw [bin_eql]; simp
end
end Go.Proofs.YtdmnphocgfnlpaaGreatDoor

namespace Go.Proofs.YtdmnphocgfnlpaaGreatDoor
open Go Go.Abs
noncomputable section
def okScript (p b q : Int) (es : List Ev) : Bool := validS p b q && es.all writB
def scriptL (p b q : Int) (es : List Ev) : List Nat := beB 1 p.toNat ++ (beB 2 b.toNat ++ (beB 4 q.toNat ++ es.flatMap encE))
/-- A slice of bytes. -/
def BytesV (h : Heap) (v : Value) (l : List Nat) : Prop := ∃ a c, v = .slice a l.length c ∧ sliceBytes a l.length h = some l ∧ goodS a l.length c = true
theorem BytesV.old {h h' : Heap} {v : Value} {l : List Nat} (x : BytesV h v l) (o : Old h h') : BytesV h' v l := by
  obtain ⟨a, c, h1, h2, h3⟩ := x
  exact ⟨a, c, h1, o.bytes h2, h3⟩
theorem is9 : IsFn Tryz.prog 9 Tryz.f9 := ⟨by kernel_rfl, by kernel_rfl, by kernel_rfl, by kernel_rfl⟩
theorem valid_range {p b q : Int} (h : validS p b q = true) : (2 ≤ p ∧ p ≤ 16) ∧ (4 ≤ b ∧ b ≤ 4096) ∧ 0 ≤ q ∧ q ≤ 4294967295 := by
  unfold validS at h
  simp only [Bool.and_eq_true, decide_eq_true_eq] at h
  obtain ⟨⟨⟨⟨⟨b1, b2⟩, b3⟩, b4⟩, b5⟩, b6⟩ := h
  omega
theorem i64max : Value.int .i64 9223372036854775807 = i64n maxI := rfl
set_option maxRecDepth 100000 in
theorem r9 {h : Heap} (hG : 2 ≤ h.n0) (p b q : Int) {v : Value} {es : List Ev} (hS : EvS h v es) (hwf : ∀ e ∈ es, e.Wf) (h80 : es.length ≤ 80) :
    ∃ r : Value × Heap, CW 9 [.agg (setC p b q).toArray, v] h = some r ∧ ∃ u h', r = (.tuple #[u, .int .i64 (if okScript p b q es = true then 0 else 2)], h') ∧ Old h h' ∧ BytesV h' u (if okScript p b q es = true then scriptL p b q es else []) ∧
      (okScript p b q es = true → (scriptL p b q es).length ≤ 6000000) := by
  suffices hh : ∃ r : Value × Heap, t9 CW (.agg (setC p b q).toArray) v h = some r ∧ ∃ u h', r = (.tuple #[u, .int .i64 (if okScript p b q es = true then 0 else 2)], h') ∧ Old h h' ∧ BytesV h' u (if okScript p b q es = true then scriptL p b q es else []) ∧
      (okScript p b q es = true → (scriptL p b q es).length ≤ 6000000) by
    obtain ⟨r, h1, h2⟩ := hh
    exact ⟨r, CW_body is9 hG rfl ((t9_eq _ _ _ _).trans h1), h2⟩
  let ha := h.alloc (setC p b q)
  have oa : Old h ha := Kept.alloc _ _ _
  have g : ha.get h.next = some (setC p b q) := by rw [Heap.get_alloc, if_pos rfl]
  obtain ⟨hb, e12, oab⟩ := r12 (h := ha) hG p b q
  have ob : Old h hb := oa.trans oab
  have gb : hb.get h.next = some (setC p b q) := oab.getE g (fun h => h)
  unfold t9
  simp -implicitDefEqProofs only [box_set, show h.alloc (setC p b q) = ha from rfl, thenV_some, ldSet g, e12, unA_not, pu_some]
  by_cases hv : validS p b q = true
  rotate_left
  · have hv' : validS p b q = false := by simpa using hv
    have hok : ¬ (okScript p b q es = true) := by unfold okScript; rw [hv']; simp
    simp -implicitDefEqProofs only [hv', Bool.not_false]
    exact ⟨_, rfl, .slice none 0 0, hb, by rw [if_neg hok], ob, by rw [if_neg hok]; exact ⟨none, 0, rfl, rfl, rfl⟩, fun h => absurd h hok⟩
  obtain ⟨⟨v1, v2⟩, ⟨v3, v4⟩, v5, v6⟩ := valid_range hv
  have hpn : p = ((p.toNat : Nat) : Int) := (Int.toNat_of_nonneg (by omega)).symm
  have hbn : b = ((b.toNat : Nat) : Int) := (Int.toNat_of_nonneg (by omega)).symm
  have hqn : q = ((q.toNat : Nat) : Int) := (Int.toNat_of_nonneg (by omega)).symm
  have w1 : IntKind.wrap .u8 p = p := wrap_u8 (by omega) (by omega)
  have w2 : IntKind.wrap .u16 b = b := wrap_u16 (by omega) (by omega)
  have w3 : IntKind.wrap .u32 q = q := wrap_u32 (by omega) (by omega)
  have hmx : maxI = 9223372036854775807 := rfl
  obtain ⟨h1, x1, W1, o1, f1⟩ := r36 hb (by rw [ob.n0]; exact hG) (lim := maxI) (by omega)
  have o01 : Old h h1 := ob.trans o1
  have ln := hb.lt_of_get gb
  have fr : Fr h1 hb.next h.next := f1 _ ln
  have m1 : h1.get h.next = some (setC p b q) := o1.getE gb (fun h => h)
  obtain ⟨h2, x2, W2, k2⟩ := r37 W1 (v := p.toNat) (by simp; omega) (by simp) (by omega)
  obtain ⟨h3, x3, W3, k3⟩ := r38 W2 (v := b.toNat) (by simp [beB_length]; omega) (by simp [beB_length]) (by omega)
  obtain ⟨h4, x4, W4, k4⟩ := r39 W3 (v := q.toNat) (by simp [beB_length]; omega) (by simp [beB_length]) (by omega)
  rw [← hpn] at x2
  rw [← hbn] at x3
  rw [← hqn] at x4
  have k24 := (k2.trans k3).trans k4
  have ld : ∀ {hh : Heap} (kk : WS hb.next h1 hh) (o : Nat) (x : Value), (setC p b q)[o]? = some x → isHole x = false → ld1 (ptr h.next o) hh = some (x, hh) := fun kk o x hx hh => ld1_at ((kk.get _ fr).trans m1) hx hh
  have hlen : lenL v = some (.int .i64 es.length) := by obtain ⟨a, c, hv, _⟩ := hS; rw [hv]; rfl
  simp -implicitDefEqProofs only [hv, Bool.not_true, i64max, x1, thenV_some, addP_ptr, Nat.zero_add, pu_some, ld (WS.refl _ _) 0 _ rfl rfl, cvI_int, w1, x2, ld k2 1 _ rfl rfl, w2, x3, ld (k2.trans k3) 2 _ rfl rfl, w3, x4, hlen]
  have hfr : ∀ c, c < h.next → Fr h1 hb.next c := fun c hc => f1 c (Nat.lt_of_lt_of_le hc ob.next)
  let l0 := beB 1 p.toNat ++ (beB 2 b.toNat ++ beB 4 q.toNat)
  have hl0 : [] ++ beB 1 p.toNat ++ beB 2 b.toNat ++ beB 4 q.toNat = l0 := by simp [l0]
  rw [hl0] at W4
  have hl0n : l0.length = 7 := by simp [l0, beB_length]
  refine endL_fin (n := 69) (fin := fun ex y g => SF h1 hb.next hb.next es l0 ex y g) (Q := fun o : Out => ∃ r : Value × Heap, o = some r ∧ ∃ u h', r = (.tuple #[u, .int .i64 (if okScript p b q es = true then 0 else 2)], h') ∧ Old h h' ∧ BytesV h' u (if okScript p b q es = true then scriptL p b q es else []) ∧
      (okScript p b q es = true → (scriptL p b q es).length ≤ 6000000))
    (loop_fin (t9l9_111111010_eq CW) (Inv := fun k y g => SL h h1 hb.next hb.next v es l0 k y g) (fun k y g I => script_round hS hwf h80 o01 hfr I) es.length (by have : rounds = 18446744073709551616 := rfl; omega) ?_) ?_
  · refine ⟨Nat.le_refl _, rfl, rfl, rfl, by rw [Nat.sub_self]; rfl, ?_, ?_, ?_, k24⟩
    · rw [Nat.sub_self, List.take_zero, List.flatMap_nil, List.append_nil]; exact W4
    · rw [Nat.sub_self, List.take_zero, List.flatMap_nil, List.append_nil]; omega
    · rw [Nat.sub_self]; rfl
  · intro ex y g hf
    obtain ⟨ws, hf⟩ := hf
    have og : Old h g := ⟨ws.n0.trans o01.n0, Nat.le_trans o01.next ws.next, fun d hd _ => (ws.getB d (hfr d hd)).trans (o01.getB d hd (fun h => h))⟩
    rcases hf with ⟨rfl, y6, hall, W, hlim⟩ | ⟨rfl, hall, y4, y5⟩
    · have hok : okScript p b q es = true := by unfold okScript; rw [hv, hall]; rfl
      have hsc : l0 ++ es.flatMap encE = scriptL p b q es := by simp [l0, scriptL]
      rw [hsc] at W hlim
      obtain ⟨a, c, h', e1, e2, e3, e4, _⟩ := r43 W (by omega)
      rw [if_pos hok, if_pos hok]
      refine ⟨_, ?_, .slice a (scriptL p b q es).length c, h', rfl, og.trans e4, ⟨a, c, rfl, e2, e3⟩, fun _ => hlim⟩
      rw [endL_exit]
      unfold b9_10
      rw [if_pos rfl, t9k9_8_eq]
      unfold t9k9_8
      have z0 : extractA (.tuple #[.slice a (scriptL p b q es).length c, .int .i64 0]) 0 = some (.slice a (scriptL p b q es).length c) := rfl
      have z1 : extractA (.tuple #[.slice a (scriptL p b q es).length c, .int .i64 0]) 1 = some (.int .i64 0) := rfl
      simp -implicitDefEqProofs only [y6, thenV_some, e1, pu_some, z0, z1]
    · have hok : ¬ (okScript p b q es = true) := by unfold okScript; rw [hall]; simp
      rw [if_neg hok, if_neg hok]
      refine ⟨_, ?_, .slice none 0 0, g, rfl, og, ⟨none, 0, rfl, rfl, rfl⟩, fun h => absurd h hok⟩
      rw [endL_ret, res_two results9 (by decide) (by decide), y4, y5]
end
end Go.Proofs.YtdmnphocgfnlpaaGreatDoor

namespace Go.Proofs.YtdmnphocgfnlpaaGreatDoor
open Go Go.Abs
noncomputable section
theorem is10 : IsFn Tryz.prog 10 Tryz.f10 := ⟨by kernel_rfl, by kernel_rfl, by kernel_rfl, by kernel_rfl⟩
/-- What stands before a round of own's loop. -/
structure OL (h0 : Heap) (N : Nat) (v : Value) (es : List Ev) (k : Nat) (y : Nat → Value) (g : Heap) : Prop where
  hk : k ≤ es.length
  y0 : y 0 = v
  y4 : y 4 = .int .i64 ((es.length - k : Nat) : Int)
  ex : ∃ cells, OwnC g N 6 (y 3) (es.length - k) cells ∧ EvL g (fun b => b < g.next ∧ baseOf (y 3) ≠ some b) cells (es.take (es.length - k)) ∧ (∀ b, baseOf (y 3) = some b → b < g.next)
  n0 : g.n0 ≤ N
  Nn : N ≤ g.next
  hN : h0.next ≤ N
  old : Old h0 g
set_option maxRecDepth 100000 in
theorem own_round {h0 : Heap} {N : Nat} {v : Value} {es : List Ev} (hS : EvS h0 v es) (h80 : es.length ≤ 1000000) (hdl : ∀ e ∈ es, e.data.length ≤ 100000000)
    {k : Nat} {y : Nat → Value} {g : Heap} (I : OL h0 N v es k y g) :
    Rnd 27 (OL h0 N v es) (fun ex y g => ex = .exit 0 ∧ Old h0 g ∧ EvV g (y 3) es) k (t10l10_11010 CW y g) := by
  obtain ⟨hk, y0, y4, ⟨cells, oc, el, hbv⟩, n0, Nn, hN, og⟩ := I
  obtain ⟨av, cv, hv, hx⟩ := hS
  have hlen : lenL v = some (.int .i64 es.length) := by rw [hv]; rfl
  unfold t10l10_11010
  simp -implicitDefEqProofs only [y0, y4, thenV_some, hlen, pu_some, bin_lss]
  by_cases hz : k = 0
  · have hd : ¬ (((es.length - k : Nat) : Int) < (es.length : Int)) := by omega
    simp -implicitDefEqProofs only [decide_eq_false hd]
    rw [hz, Nat.sub_zero] at oc
    rw [hz, Nat.sub_zero, List.take_of_length_le (Nat.le_refl _)] at el
    refine Rnd.out 0 ⟨rfl, og, ⟨N, cells, ?_, ?_⟩⟩ <;> simp only [up_cons, up_nil, Nat.reduceEqDiff, if_false]
    · exact oc
    · exact el
  have hd : (((es.length - k : Nat) : Int) < (es.length : Int)) := by omega
  have hi : es.length - k < es.length := by omega
  have hE0 := List.getElem?_eq_getElem hi
  generalize hE : es[es.length - k] = e at *
  have hmem : e ∈ es := List.mem_of_getElem? hE0
  obtain ⟨p, cs, i1, ⟨a, c, hc, hb, hgd, _⟩, l1, -⟩ := hx _ _ hE0
  have hdata := hdl e hmem
  let ga := g.alloc ev0
  have na : ga.next = g.next + 1 := Heap.next_alloc ..
  have n0g := g.n0_le_next
  have q1 : ga.get g.next = some ev0 := by rw [Heap.get_alloc, if_pos rfl]
  let gb := ga.set g.next cs
  have s1 : stN 6 (ptr g.next 0) (.agg cs.toArray) ga = some (undef, gb) := by
    have : gb = ga.set g.next (evc e (.slice a e.data.length c)) := by show ga.set g.next cs = _; rw [hc]
    rw [hc, this]
    exact stN_whole q1 n0g rfl rfl rfl
  have kab : Kept ga gb (fun c => c = g.next) := Kept.set (h := ga) n0g q1 (.inr rfl)
  have ogb : Old g gb := (Kept.alloc g ev0 _).also kab (fun d hd hh => by have hh : d = g.next := hh; omega)
  have m1 : gb.get g.next = some (evc e (.slice a e.data.length c)) := by rw [← hc]; exact Heap.get_set_same (h := ga) n0g q1 _
  have nb : g.next < gb.next := gb.lt_of_get m1
  let gc := gb.alloc []
  have nc : gc.next = gb.next + 1 := Heap.next_alloc ..
  have obc : Old gb gc := Kept.alloc _ _ _
  have m2 : gc.get g.next = some (evc e (.slice a e.data.length c)) := obc.getE m1 (fun h => h)
  have l5 : ld1 (ptr g.next 5) gc = some (.slice a e.data.length c, gc) := ld1_at m2 rfl
  have ogc : Old g gc := ogb.trans obc
  have hbc : sliceBytes a e.data.length gc = some e.data := Old.bytes (Kept.trans og ogc) hb
  obtain ⟨bd, sd, cd, gd, e1, e2, e3, e4, e5, e6, e7⟩ := append_fresh (g := gc) (E := gb.next) (c := c) gb.n0_le_next hbc hdata
  have ocd : Old gc gd := ⟨e5, e6, fun d hd _ => e7 d hd⟩
  have m3 : gd.get g.next = some (evc e (.slice a e.data.length c)) := ocd.getE m2 (fun h => h)
  have n0d : gd.n0 ≤ g.next := by rw [ocd.n0, ogc.n0]; exact n0g
  let K := evc e (.slice (some ⟨bd, 0, sd⟩) e.data.length cd)
  let ge := gd.set g.next K
  have s2 : stN 1 (ptr g.next 5) (.slice (some ⟨bd, 0, sd⟩) e.data.length cd) gd = some (undef, ge) := stN1_at m3 (by simp [evc]) n0d rfl rfl
  have kde : Kept gd ge (fun c => c = g.next) := Kept.set n0d m3 (.inr rfl)
  have m4 : ge.get g.next = some K := Heap.get_set_same n0d m3 _
  have oge : Old g ge := (ogc.trans ocd).also kde (fun d hd hh => by have hh : d = g.next := hh; omega)
  have ld6 : ldN 6 (ptr g.next 0) ge = some (.agg K.toArray, ge) := ldN_all m4 rfl rfl
  have hbs : bslR 6 (.agg ev0.toArray) 1 [(0, .agg K.toArray)] ge = some (.slice (some ⟨ge.next, 0, none⟩) 1 1, ge.alloc K) := bsl_ev ge e.kind e.peer e.a e.b e.draw (some ⟨bd, 0, sd⟩) e.data.length cd
  have g9 : (ge.alloc K).get ge.next = some K := by rw [Heap.get_alloc, if_pos rfl]
  have k9 : Old ge (ge.alloc K) := Kept.alloc _ _ _
  have n9 : (ge.alloc K).next = ge.next + 1 := Heap.next_alloc ..
  have o9 : Old g (ge.alloc K) := oge.trans k9
  have oc9 : OwnC (ge.alloc K) N 6 (y 3) (es.length - k) cells := oc.keep o9 (fun _ _ h => h)
  obtain ⟨v', hA, x1, x2, x3, x4⟩ := append_own (by_ := 64) (m := 1) oc9 (by rw [o9.n0]; exact n0) (by have := o9.next; omega) (by decide) (x := .slice (some ⟨ge.next, 0, none⟩) 1 1) rfl (firstA_one g9 rfl (by decide) rfl) rfl rfl rfl (by omega) (by omega)
  have kA : Kept (ge.alloc K) hA (fun c => baseOf (y 3) = some c) := x3.mono fun _ _ h => h.1
  have w9 : IntKind.wrap .i64 (((es.length - k : Nat) : Int) + 1) = ((es.length - (k - 1) : Nat) : Int) := by rw [wrap_i64 (by omega) (by omega)]; omega
  simp -implicitDefEqProofs only [decide_eq_true hd, i1, l1 g og, pu_some, thenV_some, newC_eq, show [Value.int .u8 0, .int .i64 0, .int .i64 0, .int .i64 0, .int .u64 0, .slice none 0 0] = ev0 from rfl, show g.alloc ev0 = ga from rfl, s1, bsl_bytes, show gb.alloc [] = gc from rfl, addP_ptr, Nat.zero_add, l5, e1, s2, ld6, hag0, hbs, x1, bin_add, w9]
  have hbase : ∀ b, baseOf (y 3) = some b → N ≤ b := fun b hb => oc.base hb
  have base' : ∀ b, baseOf v' = some b → b < hA.next := by
    intro b hb'
    rcases x4 with rfl | ⟨h1', h2'⟩
    · have := hbv b hb'; have := o9.next; have := kA.next; omega
    · rw [h1'] at hb'; cases hb'; exact h2'
  have data : EvAt hA (fun b => b < hA.next ∧ baseOf v' ≠ some b) K e := by
    have d6 : EvAt gd (fun b => gb.next ≤ b ∧ b < gd.next) K e := by
      refine ⟨some ⟨bd, 0, sd⟩, cd, rfl, e2, fun _ => e3, fun y0 hy => ?_⟩
      cases hy
      rcases e4 with rfl | ⟨rfl, h⟩
      · exact ⟨Nat.le_refl _, show gb.next < gd.next by omega⟩
      · exact ⟨show gb.next ≤ gc.next by omega, h⟩
    have dA := ((d6.keep kde (fun b hb1 hb2 => by have hb2 : b = g.next := hb2; omega)).keep k9 (fun _ _ h => h)).keep kA (fun b hb1 hb2 => by have := hbv b hb2; have := ogb.next; omega)
    refine dA.mono fun b hb1 => ⟨?_, ?_⟩
    · have := kde.next; have := kA.next; omega
    · intro hb2
      have := ogb.next
      rcases x4 with rfl | ⟨h1', _⟩
      · have := hbv b hb2; omega
      · rw [h1'] at hb2; cases hb2; have := kde.next; omega
  have prev : EvL hA (fun b => b < hA.next ∧ baseOf v' ≠ some b) cells (es.take (es.length - k)) := by
    refine ((el.keep o9 (fun _ _ h => h)).keep kA (fun b hb1 hb2 => hb1.2 hb2)).mono fun b hb1 => ⟨?_, ?_⟩
    · have := o9.next; have := kA.next; omega
    · intro hb2
      rcases x4 with rfl | ⟨h1', _⟩
      · exact hb1.2 hb2
      · rw [h1'] at hb2; cases hb2; have := o9.next; omega
  have htake : es.take (es.length - (k - 1)) = es.take (es.length - k) ++ [e] := by
    rw [show es.length - (k - 1) = es.length - k + 1 by omega]
    exact take_snoc hE0
  have hn1 : es.length - (k - 1) = es.length - k + 1 := by omega
  refine Rnd.next (k - 1) (by omega) ⟨by omega, ?_, ?_, ?_, ?_, ?_, hN, ?_⟩
  · simp only [up_cons, up_nil, Nat.reduceEqDiff, if_false, y0]
  · simp only [up_cons, up_nil, Nat.reduceEqDiff, if_false, if_true]
  · simp only [up_cons, up_nil, Nat.reduceEqDiff, if_false, if_true]
    refine ⟨cells ++ K, ?_, ?_, base'⟩
    · rw [hn1]; exact x2
    · rw [htake]; exact prev.snoc data
  · rw [kA.n0, o9.n0]; exact n0
  · have := kA.next; have := o9.next; omega
  · refine (og.trans o9).also kA (fun d hd hh => ?_)
    have := hbase _ hh
    omega
/-- own: a copy of a list of events. -/
theorem r10 {h : Heap} (hG : 2 ≤ h.n0) {v : Value} {es : List Ev} (hS : EvS h v es) (h80 : es.length ≤ 1000000) (hdl : ∀ e ∈ es, e.data.length ≤ 100000000) :
    ∃ w h', CW 10 [v] h = some (w, h') ∧ Old h h' ∧ EvV h' w es := by
  suffices hh : ∃ r : Value × Heap, t10 CW v h = some r ∧ Old h r.2 ∧ EvV r.2 r.1 es by
    obtain ⟨⟨w, h'⟩, h1, h2⟩ := hh
    exact ⟨w, h', CW_body is10 hG rfl ((t10_eq _ _ _).trans h1), h2⟩
  unfold t10
  simp -implicitDefEqProofs only [thenV_some, show [Value.int .u8 0, .int .i64 0, .int .i64 0, .int .i64 0, .int .u64 0, .slice none 0 0] = ev0 from rfl, hag0, bsl_ev0]
  have o1 : Old h (h.alloc []) := Kept.alloc _ _ _
  have n1 : (h.alloc []).next = h.next + 1 := Heap.next_alloc ..
  refine endL_fin (n := 27) (fin := fun ex y g => ex = .exit 0 ∧ Old h g ∧ EvV g (y 3) es) (Q := fun o : Out => ∃ r : Value × Heap, o = some r ∧ Old h r.2 ∧ EvV r.2 r.1 es)
    (loop_fin (t10l10_11010_eq CW) (Inv := fun k y g => OL h h.next v es k y g) (fun k y g I => own_round hS h80 hdl I) es.length (by have : rounds = 18446744073709551616 := rfl; omega) ?_) ?_
  · refine ⟨Nat.le_refl _, rfl, by rw [Nat.sub_self]; rfl, ⟨[], ?_, ?_, ?_⟩, h.n0_le_next, by omega, Nat.le_refl _, o1⟩
    · rw [Nat.sub_self]; exact OwnC.empty _ (Nat.le_refl _)
    · rw [Nat.sub_self]; exact EvL.nil _ _
    · intro b hb; cases hb; show h.next < (h.alloc []).next; omega
  · rintro ex y g ⟨rfl, og, ev⟩
    refine ⟨(y 3, g), ?_, og, ev⟩
    rw [endL_exit]
    unfold b10_4
    rw [if_pos rfl, t10k10_2_eq]
    unfold t10k10_2
    simp -implicitDefEqProofs only [thenV_some]
end
end Go.Proofs.YtdmnphocgfnlpaaGreatDoor

namespace Go.Proofs.YtdmnphocgfnlpaaGreatDoor
open Go Go.Abs
noncomputable section
/-- Bytes that grow, beside what else is there. -/
structure RB (h0 g : Heap) (N : Nat) (u : Value) (cur : List Nat) : Prop where
  own : OwnB g N u cur
  lt : ∀ b, baseOf u = some b → b < g.next
  n0 : g.n0 ≤ N
  nN : N ≤ g.next
  old : Old h0 g
  hN : h0.next ≤ N
  g2 : 2 ≤ g.n0
/-- Blocks that are not the growing bytes stay. -/
structure St (g : Heap) (u : Value) (g' : Heap) (u' : Value) : Prop where
  next : g.next ≤ g'.next
  ap : ∀ b k, g.get b = some k → baseOf u ≠ some b → g'.get b = some k ∧ baseOf u' ≠ some b
theorem St.refl (g : Heap) (u : Value) : St g u g u := ⟨Nat.le_refl _, fun _ _ h1 h2 => ⟨h1, h2⟩⟩
theorem St.trans {a b c : Heap} {u v w : Value} (x : St a u b v) (y : St b v c w) : St a u c w :=
  ⟨Nat.le_trans x.next y.next, fun d k h1 h2 => by obtain ⟨h3, h4⟩ := x.ap d k h1 h2; exact y.ap d k h3 h4⟩
theorem rb_old {h0 g g' : Heap} {N : Nat} {u : Value} {cur : List Nat} (R : RB h0 g N u cur) (o : Old g g') : RB h0 g' N u cur ∧ St g u g' u :=
  ⟨⟨R.own.keep o (fun _ _ h => h), fun b hb => Nat.lt_of_lt_of_le (R.lt b hb) o.next, by rw [o.n0]; exact R.n0, Nat.le_trans R.nN o.next, R.old.trans o, R.hN, by rw [o.n0]; exact R.g2⟩, ⟨o.next, fun b k h1 h2 => ⟨o.getE h1 (fun h => h), h2⟩⟩⟩
theorem rb_app {h0 g : Heap} {N : Nat} {u : Value} {cur m : List Nat} {a : Option Addr} {n c : Nat} (R : RB h0 g N u cur) (hm : sliceBytes a n g = some m) (hb : cur.length + n ≤ 100000000) :
    ∃ u' g', appendA 1 1 u (.slice a n c) g = some (u', g') ∧ RB h0 g' N u' (cur ++ m) ∧ St g u g' u' := by
  obtain ⟨u', g', e1, e2, k, e4⟩ := append_ownB (c := c) R.own R.n0 R.nN hm hb
  refine ⟨u', g', e1, ⟨e2, fun b hb' => ?_, by rw [k.n0]; exact R.n0, Nat.le_trans R.nN k.next, R.old.also k (fun d hd hh => ?_), R.hN, by rw [k.n0]; exact R.g2⟩, ⟨k.next, fun b kk h1 h2 => ⟨k.getE h1 h2, ?_⟩⟩⟩
  · rcases e4 with rfl | ⟨h1, h2⟩
    · exact Nat.lt_of_lt_of_le (R.lt b hb') k.next
    · rw [h1] at hb'; cases hb'; exact h2
  · have := R.own.own.base hh
    have := R.hN
    omega
  · rcases e4 with rfl | ⟨h3, _⟩
    · exact h2
    · rw [h3]
      intro hh
      cases hh
      have := g.lt_of_get h1
      omega
theorem rb_num {h0 g : Heap} {N : Nat} {u : Value} {cur : List Nat} (R : RB h0 g N u cur) {n k : Nat} (h1 : 1 ≤ k) (hk : k ≤ 8) (hn : n < 18446744073709551616) (hb : cur.length + 8 ≤ 100000000) :
    ∃ v g1 u' g2, CW 44 [.int .u64 (n : Int), i64n k] g = some (v, g1) ∧ Old g g1 ∧ appendA 1 1 u v g1 = some (u', g2) ∧ RB h0 g2 N u' (cur ++ beB k n) ∧ St g u g2 u' := by
  obtain ⟨v, g1, e1, ow, o1⟩ := r44 g R.g2 h1 hk hn
  obtain ⟨a, c, hv, s1, _⟩ := ow.bytes
  obtain ⟨R1, S1⟩ := rb_old R o1
  obtain ⟨u', g2, e2, R2, S2⟩ := rb_app (c := c) R1 s1 (by rw [beB_length]; omega)
  exact ⟨v, g1, u', g2, e1, o1, by rw [hv]; exact e2, R2, S1.trans S2⟩
/-- What stands before a round. -/
structure TL (h0 : Heap) (N : Nat) (v : Value) (es : List Ev) (l0 : List Nat) (k : Nat) (y : Nat → Value) (g : Heap) : Prop where
  hk : k ≤ es.length
  y1 : y 1 = v
  y7 : y 7 = .int .i64 ((es.length - k : Nat) : Int)
  cur : RB h0 g N (y 6) (l0 ++ (es.take (es.length - k)).flatMap encE)
  len : (l0 ++ (es.take (es.length - k)).flatMap encE).length ≤ 100 + (es.length - k) * 65600
  all : (es.take (es.length - k)).all writB = true
/-- What stands behind the loop. -/
def TF (h0 : Heap) (N : Nat) (es : List Ev) (l0 : List Nat) (ex : Ex) (y : Nat → Value) (g : Heap) : Prop :=
  Old h0 g ∧ ((ex = .exit 0 ∧ es.all writB = true ∧ RB h0 g N (y 6) (l0 ++ es.flatMap encE)) ∨ (ex = .ret ∧ es.all writB = false ∧ y 4 = .slice none 0 0 ∧ y 5 = .int .i64 2))
theorem beB1 {x : Nat} (h : x < 256) : beB 1 x = [x] := by simp [beB, Nat.mod_eq_of_lt h]
set_option maxRecDepth 100000 in
set_option maxHeartbeats 1000000 in
theorem refs_round {h0 : Heap} {N : Nat} {v : Value} {es : List Ev} {l0 : List Nat} (hS : EvS h0 v es) (hwf : ∀ e ∈ es, e.Wf) (h80 : es.length ≤ 80) {k : Nat} {y : Nat → Value} {g : Heap} (I : TL h0 N v es l0 k y g) :
    Rnd 106 (TL h0 N v es l0) (TF h0 N es l0) k (t11l11_1111010 CW y g) := by
  obtain ⟨hk, y1, y7, R, hlen, hall⟩ := I
  have og := R.old
  obtain ⟨av, cv, hv, hx⟩ := hS
  have hlenv : lenL v = some (.int .i64 es.length) := by rw [hv]; rfl
  unfold t11l11_1111010
  simp -implicitDefEqProofs only [y1, y7, thenV_some, hlenv, pu_some, bin_lss]
  by_cases hz : k = 0
  · have hd : ¬ (((es.length - k : Nat) : Int) < (es.length : Int)) := by omega
    simp -implicitDefEqProofs only [decide_eq_false hd]
    rw [hz, Nat.sub_zero, List.take_of_length_le (Nat.le_refl _)] at R hall
    refine Rnd.out 0 ⟨og, .inl ⟨rfl, hall, ?_⟩⟩
    simp only [up_cons, up_nil, Nat.reduceEqDiff, if_false]
    exact R
  have hd : (((es.length - k : Nat) : Int) < (es.length : Int)) := by omega
  have hi : es.length - k < es.length := by omega
  have hE0 := List.getElem?_eq_getElem hi
  generalize hE : es[es.length - k] = e at *
  have hmem : e ∈ es := List.mem_of_getElem? hE0
  have wf := hwf e hmem
  obtain ⟨p, cs, i1, ⟨a, c, hc, hb, hgd, _⟩, l1, -⟩ := hx _ _ hE0
  let ga := g.alloc ev0
  have na : ga.next = g.next + 1 := Heap.next_alloc ..
  have n0g := g.n0_le_next
  have q1 : ga.get g.next = some ev0 := by rw [Heap.get_alloc, if_pos rfl]
  let gb := ga.set g.next cs
  have s1 : stN 6 (ptr g.next 0) (.agg cs.toArray) ga = some (undef, gb) := by
    have : gb = ga.set g.next (evc e (.slice a e.data.length c)) := by show ga.set g.next cs = _; rw [hc]
    rw [hc, this]
    exact stN_whole q1 n0g rfl rfl rfl
  have kab : Kept ga gb (fun c => c = g.next) := Kept.set (h := ga) n0g q1 (.inr rfl)
  have ogb : Old g gb := (Kept.alloc g ev0 _).also kab (fun d hd hh => by have hh : d = g.next := hh; omega)
  have m1 : gb.get g.next = some (evc e (.slice a e.data.length c)) := by rw [← hc]; exact Heap.get_set_same (h := ga) n0g q1 _
  obtain ⟨Rb, Sb⟩ := rb_old R ogb
  have apb : baseOf (y 6) ≠ some g.next := fun hh => by have := R.lt _ hh; omega
  have ld : ∀ {hh : Heap} {u : Value} (kk : St gb (y 6) hh u) (o : Nat) (x : Value), (evc e (.slice a e.data.length c))[o]? = some x → isHole x = false → ld1 (ptr g.next o) hh = some (x, hh) := fun kk o x hx hh => ld1_at (kk.ap _ _ m1 apb).1 hx hh
  have lb := fun (o : Nat) (x : Value) (hx : (evc e (.slice a e.data.length c))[o]? = some x) (hh : isHole x = false) => ld (St.refl gb (y 6)) o x hx hh
  simp -implicitDefEqProofs only [decide_eq_true hd, i1, l1 g og, pu_some, thenV_some, newC_eq, show [Value.int .u8 0, .int .i64 0, .int .i64 0, .int .i64 0, .int .u64 0, .slice none 0 0] = ev0 from rfl, show g.alloc ev0 = ga from rfl, s1, addP_ptr, Nat.zero_add, lb 1 _ rfl rfl, bin_lss]
  have bad : writB e = false → ∀ x' : Nat → Value, x' 4 = .slice none 0 0 → x' 5 = .int .i64 2 → Rnd 106 (TL h0 N v es l0) (TF h0 N es l0) k (some (.ret, mkF 106 x', gb)) := by
    intro hw x' x4 x5
    refine Rnd.ret ⟨og.trans ogb, .inr ⟨rfl, ?_, x4, x5⟩⟩
    rw [List.all_eq_false]
    exact ⟨e, hmem, by rw [hw]; decide⟩
  by_cases c1 : e.peer < 0
  · simp -implicitDefEqProofs only [decide_eq_true c1, bOf_bool, sT, guardK_false, thenV_some, if_true]
    refine bad ?_ _ ?_ ?_
    · unfold writB; rw [decide_eq_false (by omega : ¬ e.peer ≥ 0)]; simp
    all_goals simp only [up_cons, up_nil, Nat.reduceEqDiff, if_false, if_true]
  simp -implicitDefEqProofs only [decide_eq_false c1, bOf_bool, beq_self_eq_true, guardK_true, thenV_some, pu_some, lb 1 _ rfl rfl, bin_gtr, Bool.false_eq_true, if_false]
  by_cases c2 : e.peer > 255
  · simp -implicitDefEqProofs only [decide_eq_true c2, bOf_bool, sT, guardK_false, thenV_some, if_true]
    refine bad ?_ _ ?_ ?_
    · unfold writB; rw [decide_eq_false (by omega : ¬ e.peer ≤ 255)]; simp
    all_goals simp only [up_cons, up_nil, Nat.reduceEqDiff, if_false, if_true]
  simp -implicitDefEqProofs only [decide_eq_false c2, bOf_bool, beq_self_eq_true, guardK_true, thenV_some, pu_some, lb 2 _ rfl rfl, bin_lss, Bool.false_eq_true, if_false]
  by_cases c3 : e.a < 0
  · simp -implicitDefEqProofs only [decide_eq_true c3, bOf_bool, sT, guardK_false, thenV_some, if_true]
    refine bad ?_ _ ?_ ?_
    · unfold writB; rw [decide_eq_false (by omega : ¬ e.a ≥ 0)]; simp
    all_goals simp only [up_cons, up_nil, Nat.reduceEqDiff, if_false, if_true]
  simp -implicitDefEqProofs only [decide_eq_false c3, bOf_bool, beq_self_eq_true, guardK_true, thenV_some, pu_some, lb 2 _ rfl rfl, bin_gtr, Bool.false_eq_true, if_false]
  by_cases c4 : e.a > 65535
  · simp -implicitDefEqProofs only [decide_eq_true c4, bOf_bool, sT, guardK_false, thenV_some, if_true]
    refine bad ?_ _ ?_ ?_
    · unfold writB; rw [decide_eq_false (by omega : ¬ e.a ≤ 65535)]; simp
    all_goals simp only [up_cons, up_nil, Nat.reduceEqDiff, if_false, if_true]
  simp -implicitDefEqProofs only [decide_eq_false c4, bOf_bool, beq_self_eq_true, guardK_true, thenV_some, pu_some, lb 3 _ rfl rfl, bin_lss, Bool.false_eq_true, if_false]
  by_cases c5 : e.b < 0
  · simp -implicitDefEqProofs only [decide_eq_true c5, bOf_bool, sT, guardK_false, thenV_some, if_true]
    refine bad ?_ _ ?_ ?_
    · unfold writB; rw [decide_eq_false (by omega : ¬ e.b ≥ 0)]; simp
    all_goals simp only [up_cons, up_nil, Nat.reduceEqDiff, if_false, if_true]
  simp -implicitDefEqProofs only [decide_eq_false c5, bOf_bool, beq_self_eq_true, guardK_true, thenV_some, pu_some, lb 3 _ rfl rfl, bin_gtr, Bool.false_eq_true, if_false]
  by_cases c6 : e.b > 65535
  · simp -implicitDefEqProofs only [decide_eq_true c6, bOf_bool, sT, guardK_false, thenV_some, if_true]
    refine bad ?_ _ ?_ ?_
    · unfold writB; rw [decide_eq_false (by omega : ¬ e.b ≤ 65535)]; simp
    all_goals simp only [up_cons, up_nil, Nat.reduceEqDiff, if_false, if_true]
  simp -implicitDefEqProofs only [decide_eq_false c6, bOf_bool, beq_self_eq_true, guardK_true, thenV_some, pu_some, lb 5 _ rfl rfl, lenL_slice, bin_gtr, Bool.false_eq_true, if_false]
  by_cases c7 : (e.data.length : Int) > 65535
  · simp -implicitDefEqProofs only [decide_eq_true c7]
    refine bad ?_ _ ?_ ?_
    · unfold writB; rw [decide_eq_false (by omega : ¬ (e.data.length : Int) ≤ 65535)]; simp
    all_goals simp only [up_cons, up_nil, Nat.reduceEqDiff, if_false, if_true]
  have hwr : writB e = true := by
    unfold writB
    rw [decide_eq_true (by omega : e.peer ≥ 0), decide_eq_true (by omega : e.peer ≤ 255), decide_eq_true (by omega : e.a ≥ 0), decide_eq_true (by omega : e.a ≤ 65535), decide_eq_true (by omega : e.b ≥ 0), decide_eq_true (by omega : e.b ≤ 65535), decide_eq_true (by omega : (e.data.length : Int) ≤ 65535)]
    rfl
  obtain ⟨⟨k1, k2⟩, _, _, _, ⟨d1, d2⟩⟩ := wf
  have hkn : e.kind = ((e.kind.toNat : Nat) : Int) := (Int.toNat_of_nonneg k1).symm
  have hpn : e.peer = ((e.peer.toNat : Nat) : Int) := (Int.toNat_of_nonneg (by omega)).symm
  have han : e.a = ((e.a.toNat : Nat) : Int) := (Int.toNat_of_nonneg (by omega)).symm
  have hbn : e.b = ((e.b.toNat : Nat) : Int) := (Int.toNat_of_nonneg (by omega)).symm
  have hdn : e.draw = ((e.draw.toNat : Nat) : Int) := (Int.toNat_of_nonneg d1).symm
  have w1 : IntKind.wrap .u8 e.peer = e.peer := wrap_u8 (by omega) (by omega)
  have w2 : IntKind.wrap .u64 e.a = e.a := wrap_u64 (by omega) (by omega)
  have w3 : IntKind.wrap .u64 e.b = e.b := wrap_u64 (by omega) (by omega)
  have w4 : IntKind.wrap .u64 ((e.data.length : Nat) : Int) = ((e.data.length : Nat) : Int) := wrap_u64 (by omega) (by omega)
  have w9 : IntKind.wrap .i64 (((es.length - k : Nat) : Int) + 1) = ((es.length - (k - 1) : Nat) : Int) := by rw [wrap_i64 (by omega) (by omega)]; omega
  generalize hcur : l0 ++ (es.take (es.length - k)).flatMap encE = cur at *
  have hcl : cur.length + 66000 ≤ 100000000 := by omega
  have hx8 : e.kind.toNat < 256 := by omega
  have hy8 : e.peer.toNat < 256 := by omega
  -- kind and peer
  have olit : Old gb (gb.alloc [u8 e.kind.toNat, u8 e.peer.toNat]) := Kept.alloc _ _ _
  obtain ⟨Rl, Sl⟩ := rb_old Rb olit
  obtain ⟨u1, g1, x1, R1, S1⟩ := rb_app (c := 2) Rl (bytes2 gb hx8 hy8) (by omega)
  have S1 := Sl.trans S1
  have hl1 : (cur ++ [e.kind.toNat, e.peer.toNat]).length = cur.length + 2 := by simp
  obtain ⟨v2, f2, u2, g2, z2, o2, x2, R2, S2⟩ := rb_num R1 (n := e.a.toNat) (k := 2) (by decide) (by decide) (by omega) (by omega)
  obtain ⟨v3, f3, u3, g3, z3, o3, x3, R3, S3⟩ := rb_num R2 (n := e.b.toNat) (k := 2) (by decide) (by decide) (by omega) (by simp only [List.length_append, beB_length, hl1]; simp; omega)
  obtain ⟨v4, f4, u4, g4, z4, o4, x4, R4, S4⟩ := rb_num R3 (n := e.draw.toNat) (k := 8) (by decide) (by decide) (by omega) (by simp only [List.length_append, beB_length, hl1]; simp; omega)
  obtain ⟨v5, f5, u5, g5, z5, o5, x5, R5, S5⟩ := rb_num R4 (n := e.data.length) (k := 2) (by decide) (by decide) (by omega) (by simp only [List.length_append, beB_length, hl1]; simp; omega)
  have hb5 : sliceBytes a e.data.length g5 = some e.data := Old.bytes R5.old hb
  obtain ⟨u6, g6, x6, R6, S6⟩ := rb_app (c := c) R5 hb5 (by simp only [List.length_append, beB_length, hl1]; omega)
  have T1 := S1
  have T2 := T1.trans S2
  have T3 := T2.trans S3
  have T4 := T3.trans S4
  have T5 := T4.trans S5
  have T1' : St gb (y 6) f2 u1 := T1.trans (rb_old R1 o2).2
  have T3' : St gb (y 6) f4 u3 := T3.trans (rb_old R3 o4).2
  rw [← han] at z2
  rw [← hbn] at z3
  rw [← hdn] at z4
  have z2 : CW 44 [.int .u64 e.a, .int .i64 2] g1 = some (v2, f2) := z2
  have z3 : CW 44 [.int .u64 e.b, .int .i64 2] g2 = some (v3, f3) := z3
  have z4 : CW 44 [.int .u64 e.draw, .int .i64 8] g3 = some (v4, f4) := z4
  have z5 : CW 44 [.int .u64 (e.data.length : Int), .int .i64 2] g4 = some (v5, f5) := z5
  have hbs : bslR 1 (.int .u8 0) 2 [(0, .int .u8 e.kind), (1, .int .u8 e.peer)] gb = some (.slice (some ⟨gb.next, 0, none⟩) 2 2, gb.alloc [u8 e.kind.toNat, u8 e.peer.toNat]) := by
    have := bsl2 gb e.kind.toNat e.peer.toNat
    have e1 : u8 e.kind.toNat = .int .u8 e.kind := by show Value.int .u8 _ = _; rw [← hkn]
    have e2 : u8 e.peer.toNat = .int .u8 e.peer := by show Value.int .u8 _ = _; rw [← hpn]
    rw [e1, e2] at this ⊢
    exact this
  have ck : ∀ (aa : Option Addr) (n cc : Nat) (hh : Heap), chkR true (some (.slice aa n cc, hh)) (.slice aa n cc) = true := fun aa n cc hh => by simp [chkR, same, veq]
  simp -implicitDefEqProofs only [decide_eq_false c7, lb 0 _ rfl rfl, lb 1 _ rfl rfl, cvI_int, w1, thenV_some, pu_some, hbs, x1, ld T1 2 _ rfl rfl, w2, z2, x2, ld T2 3 _ rfl rfl, w3, z3, x3,
    ld T1 3 _ rfl rfl, ld T1' 3 _ rfl rfl, chkI, Bool.and_self, ld T3 4 _ rfl rfl, z4, x4, ld T4 5 _ rfl rfl, lenL_slice, w4, z5, x5, ld T3 5 _ rfl rfl, ld T3' 5 _ rfl rfl, ck, ld T5 5 _ rfl rfl, x6, bin_add, w9]
  have htake : es.take (es.length - (k - 1)) = es.take (es.length - k) ++ [e] := by
    rw [show es.length - (k - 1) = es.length - k + 1 by omega]
    exact take_snoc hE0
  have hfl : l0 ++ (es.take (es.length - (k - 1))).flatMap encE = cur ++ encE e := by
    rw [htake, List.flatMap_append, ← List.append_assoc, hcur]; simp
  refine Rnd.next (k - 1) (by omega) ⟨by omega, ?_, ?_, ?_, ?_, ?_⟩
  · simp only [up_cons, up_nil, Nat.reduceEqDiff, if_false, y1]
  · simp only [up_cons, up_nil, Nat.reduceEqDiff, if_false, if_true]
  · simp only [up_cons, up_nil, Nat.reduceEqDiff, if_false, if_true]
    rw [hfl]
    have hen : cur ++ encE e = cur ++ [e.kind.toNat, e.peer.toNat] ++ beB 2 e.a.toNat ++ beB 2 e.b.toNat ++ beB 8 e.draw.toNat ++ beB 2 e.data.length ++ e.data := by
      unfold encE
      rw [beB1 hx8, beB1 hy8]
      simp only [List.append_assoc, List.cons_append, List.nil_append]
    rw [hen]
    exact R6
  · rw [hfl, List.length_append, encE_len]
    omega
  · rw [htake, List.all_append, hall]
    simp [hwr]
end
end Go.Proofs.YtdmnphocgfnlpaaGreatDoor

