/-
  The swarm: the calls' evaluator.
  Conditions: as each theorem states.
  The wire's known run; the calls' evaluator; lists of typed cells, and their equality.
  Conditions: as each theorem states.
  The wire: a message's cells, and what is read of them.
  Conditions: as each theorem states.
  The wire: copies of slices, and of messages.
  Conditions: as each theorem states.
  Taken over from the disk's texts: numbers of functions and types are mapped.
  Conditions: as each theorem states.
  Taken over from the disk's texts: numbers of functions and types are mapped.
  Conditions: as each theorem states.
  The wire: Raw, the checksum, digests read.
  Conditions: as each theorem states.
  The swarm: a Reader's reads, whether they fail or not.
  Conditions: as each theorem states.
  The swarm: a Reader's text: a length of two bytes and the bytes.
  Conditions: as each theorem states.
  The swarm: small laws of the machine's operations.
  Conditions: as each theorem states.
  The swarm: events, and lists of events in memory.
  Conditions: as each theorem states.
  The swarm: one round of Parse's loop: an event is read.
  Conditions: as each theorem states.
  The swarm: Parse's loop over events.
  Conditions: as each theorem states.
  The wire: two manifests, and two messages, are compared.
  Conditions: as each theorem states.
  Taken over from the disk's texts: numbers of functions and types are mapped.
  Conditions: as each theorem states.
  Taken over from the disk's texts: numbers of functions and types are mapped.
  Conditions: as each theorem states.
  The swarm: setups that are valid; Parse.
  Conditions: as each theorem states.
  The swarm: Parse.
  Conditions: as each theorem states.
  The swarm: the document's Parse.
  Conditions: as each theorem states.
  The swarm: the document's Parse, whole.
  Conditions: as each theorem states.
  The swarm: lists of events compared.
  Conditions: as each theorem states.
  The swarm: a Writer's text: a length of two bytes and the bytes.
  Conditions: as each theorem states.
  The swarm: events that can be written, and their bytes.
  Conditions: as each theorem states.
  The swarm: a nil world, and a nil peer, have nothing.
  Conditions: as each theorem states.
  The swarm: a new disk, a new world.
  Conditions: as each theorem states.
  The swarm: New; what a world of empty disks has.
  Conditions: as each theorem states.
  The swarm: SwarmAbsent.
  Conditions: as each theorem states.
-/
import Derived.Test.YtdmnphocgfnlpaaGreatDoorG16
namespace Go.Proofs.YtdmnphocgfnlpaaGreatDoor
open Go Go.Abs
noncomputable section
theorem prog_mixed : Tryz.prog.follows .mixedOrders = true := by kernel_rfl
theorem okF_sound : ∀ f fn, okF f = true → Tryz.prog.funcs[f]? = some fn → fnOk Tryz.prog fn = true := by
  intro f fn h1 h2
  unfold okF at h1
  rw [h2] at h1
  exact h1
theorem known_lt : 8 < Tryz.prog.funcs.size := Nat.le_of_ble_eq_true (by kernel_rfl)
theorem known_WB : WB (callQ Tryz.prog okF X0 smF 100000 60) 8 [] (bareG Tryz.prog DI) fun v _ => v = .bool true := by
  refine ⟨fun v _ => isTrueV v, known_runs, fun v h e => ?_⟩
  have e : isTrueV v = true := e
  unfold isTrueV at e
  split at e
  · rfl
  · cases e
def s8 (args : List Value) (h : Heap) : Out := by
  classical exact if args = [] ∧ h.get 1 = some roundsL then some (.bool true, h) else none
theorem s8_eq {h : Heap} (g : h.get 1 = some roundsL) : s8 [] h = some (.bool true, h) := by
  unfold s8
  rw [if_pos ⟨rfl, g⟩]
theorem c8 : Contract Tryz.prog 8 s8 := by
  refine Contract.closedQ (callQ_sound (sm := smF) X0_sound (by unfold rounds; omega) prog_mixed okF_sound 60) known_lt (v := .bool true) rfl DI ?_ known_WB s8 ?_
  · intro b cs e
    unfold DI at e
    split at e
    · cases e; kernel_rfl
    · cases e
  · intro args h r e
    unfold s8 at e
    split at e
    · rename_i hh
      cases e
      refine ⟨hh.1, rfl, fun b cs _ hd => ?_⟩
      unfold DI at hd
      split at hd
      · cases hd; exact hh.2
      · cases hd
    · cases e
abbrev XL : List (FuncId × (List Value → Heap → Out)) := [(8, s8)]
abbrev XX : CallF := callL XL
theorem XX_sound : CSound Tryz.prog XX := callL_sound _ (by
  intro p hp
  simp only [List.mem_cons, List.not_mem_nil, or_false] at hp
  subst hp
  exact c8)
/-- Calls of the seat's functions: what is known of some, and the bodies of all others. -/
def CW : CallF := CC Tryz.prog XX
theorem CW_body {f : FuncId} {fn : Func} (i : IsFn Tryz.prog f fn) {args : List Value} {h : Heap} {r : Value × Heap} (hg : 2 ≤ h.n0) (hX : XX f args h = none) (e : bodyK Tryz.prog CW fn args h = some r) : CW f args h = some r :=
  CC_body i (by rw [globals2]; exact hg) hX e
theorem r8 {h : Heap} (g : h.get 1 = some roundsL) : CW 8 [] h = some (.bool true, h) := CC_known (show XX 8 [] h = some (.bool true, h) from s8_eq g)
end
end Go.Proofs.YtdmnphocgfnlpaaGreatDoor

namespace Go.Proofs.YtdmnphocgfnlpaaGreatDoor
open Go Go.Abs
/-- Nothing that was there has changed. -/
abbrev Old (h h' : Heap) : Prop := Kept h h' (fun _ => False)
theorem Old.get {h h' : Heap} (o : Old h h') {b : Nat} {k : Blk} (e : h.get b = some k) : h'.get b = some k := (Kept.get o b (h.lt_of_get e) (fun h => h)).trans e
theorem thenV_congr {γ : Type} {o o' : Out} {f : Value → Heap → Option γ} (h : o = o') : thenV o f = thenV o' f := by rw [h]
/-- Kinds of cells. -/
inductive Kd where
  | u8
  | i (k : IntKind)
  | b
def Kd.has : Kd → Value → Prop
  | .u8, v => ∃ n : Nat, v = .int .u8 n ∧ n < 256
  | .i k, v => ∃ n : Int, v = .int k n ∧ (Lit.int k n).wf = true
  | .b, v => ∃ t : Bool, v = .bool t
theorem Kd.has.cell {k : Kd} {v : Value} (h : k.has v) : isHole v = false ∧ v.oneCell' = true ∧ flat v = true ∧ v.cells = #[v] := by
  cases k with
  | u8 => obtain ⟨n, rfl, _⟩ := h; exact ⟨rfl, rfl, rfl, rfl⟩
  | i k => obtain ⟨n, rfl, _⟩ := h; exact ⟨rfl, rfl, rfl, rfl⟩
  | b => obtain ⟨t, rfl⟩ := h; exact ⟨rfl, rfl, rfl, rfl⟩
/-- Cells of these kinds. -/
def Typed (ks : List Kd) (cs : List Value) : Prop := cs.length = ks.length ∧ ∀ (j : Nat) (k : Kd), ks[j]? = some k → ∃ v, cs[j]? = some v ∧ k.has v
theorem Typed.cell {ks : List Kd} {cs : List Value} (h : Typed ks cs) {j : Nat} {v : Value} (hv : cs[j]? = some v) : isHole v = false ∧ v.oneCell' = true ∧ flat v = true ∧ v.cells = #[v] := by
  have hj := (List.getElem?_eq_some_iff.1 hv).1
  have hj' : j < ks.length := by rw [← h.1]; exact hj
  obtain ⟨w, hw, hk⟩ := h.2 j _ (List.getElem?_eq_getElem hj')
  rw [hv] at hw
  cases hw
  exact hk.cell
theorem Typed.all {ks : List Kd} {cs : List Value} (h : Typed ks cs) : Abs.noHoles cs = true ∧ oneCells cs = true ∧ flatAll cs = true := by
  have key : ∀ v ∈ cs, isHole v = false ∧ v.oneCell' = true ∧ flat v = true := fun v hv => by
    obtain ⟨j, hj⟩ := List.mem_iff_getElem?.1 hv
    obtain ⟨a, b, c, _⟩ := h.cell hj
    exact ⟨a, b, c⟩
  refine ⟨?_, ?_, ?_⟩
  · unfold Abs.noHoles
    rw [List.all_eq_true]
    exact fun v hv => by rw [(key v hv).1]; rfl
  · unfold oneCells
    rw [List.all_eq_true]
    exact fun v hv => (key v hv).2.1
  · unfold flatAll
    rw [List.all_eq_true]
    exact fun v hv => (key v hv).2.2
end Go.Proofs.YtdmnphocgfnlpaaGreatDoor

namespace Go.Proofs.YtdmnphocgfnlpaaGreatDoor
open Go Go.Abs
theorem box_at (h : Heap) (cs : List Value) (hc : oneCells cs = true) : box (.agg cs.toArray) h = some (ptr h.next 0, h.alloc cs) := by
  have e : (Value.agg cs.toArray).cells = cs.toArray := rfl
  unfold box
  rw [e, if_pos (by simpa using hc)]
  simp [Abs.newRow]
end Go.Proofs.YtdmnphocgfnlpaaGreatDoor

namespace Go.Proofs.YtdmnphocgfnlpaaGreatDoor
open Go Go.Abs
attribute [local congr] thenV_congr
end Go.Proofs.YtdmnphocgfnlpaaGreatDoor

namespace Go.Proofs.YtdmnphocgfnlpaaGreatDoor
open Go Go.Abs
section
section bytes
end bytes

end
section
/-- A slice of bytes as they come. -/
def goodS (a : Option Addr) (n c : Nat) : Bool := Nat.ble n c && (match a with | some ⟨_, _, some s⟩ => s == 1 | _ => true)
theorem sliceBytes_congr {a : Option Addr} {n : Nat} {h h' : Heap} (e : ∀ x, a = some x → h'.get x.block = h.get x.block) : sliceBytes a n h' = sliceBytes a n h := by
  unfold sliceBytes firstA
  cases a with
  | none => rfl
  | some x => simp only [e x rfl]
end
section
theorem sliceBytes_at {h : Heap} {b off n : Nat} {s : Option Nat} {l : List Nat} (hg : h.get b = some (l.map u8)) (hl : off + n ≤ l.length) (hb : ∀ x ∈ l, x < 256) : sliceBytes (some ⟨b, off, s⟩) n h = some ((l.drop off).take n) := by
  unfold sliceBytes
  rw [Option.bind_eq_some_iff]
  refine ⟨((l.drop off).take n).map u8, ?_, bytesOf_map (fun y hy => hb y (List.mem_of_mem_drop (List.mem_of_mem_take hy)))⟩
  simp only [firstA, hg, Nat.mul_one]
  by_cases h0 : n = 0
  · rw [if_pos h0, h0]; rfl
  · rw [if_neg h0, if_pos ⟨by simpa using hl, noHoles_part _ _ _⟩]
    simp
end
section
end
section
end
section
theorem Old.bytes {h h' : Heap} (o : Old h h') {a : Option Addr} {n : Nat} {l : List Nat} (e : sliceBytes a n h = some l) : sliceBytes a n h' = some l := sliceBytes_mono e fun _ _ => o.get
/-- What is not touched holds the bytes that it held. -/
theorem _root_.Go.Abs.Kept.bytes {h h' : Heap} {B : Nat → Prop} (k : Kept h h' B) {a : Option Addr} {n : Nat} {l : List Nat} (e : sliceBytes a n h = some l) (hb : ∀ y, a = some y → 0 < n → ¬ B y.block) : sliceBytes a n h' = some l := by
  by_cases h0 : n = 0
  · subst h0
    obtain ⟨hl, _, _⟩ := sliceBytes_spec e
    have : l = [] := List.length_eq_zero_iff.1 hl
    subst this
    cases a with
    | none => rfl
    | some x => unfold sliceBytes firstA; simp; rfl
  · obtain ⟨_, _, h3⟩ := sliceBytes_spec e
    obtain ⟨b, off, s, c, rfl, hc, _⟩ := h3 (by omega)
    rw [sliceBytes_congr (h := h) (fun y hy => by cases hy; exact k.get b (h.lt_of_get hc) (hb _ rfl (by omega)))]
    exact e
/-- A Reader: what is left, and its error. -/
structure IsR (h : Heap) (p r : Nat) (l : List Nat) (e : Int) : Prop where
  ex : ∃ a n c, h.get r = some [.slice a n c, .int .i64 e] ∧ sliceBytes a n h = some l ∧ goodS a n c = true ∧ ∀ y, a = some y → p ≤ y.block ∧ y.block < r
  n0 : h.n0 ≤ r
  len : l.length ≤ 100000000
  g4 : 2 ≤ h.n0
  pr : p ≤ r
theorem IsR.keep {h h' : Heap} {B : Nat → Prop} {p r : Nat} {l : List Nat} {e : Int} (R : IsR h p r l e) (k : Old h h') : IsR h' p r l e := by
  obtain ⟨a, n, c, h1, h2, h3⟩ := R.ex
  exact ⟨⟨a, n, c, k.getE h1 (fun h => h), k.bytes h2, h3⟩, k.n0 ▸ R.n0, R.len, k.n0 ▸ R.g4, R.pr⟩
end
section
theorem IsR.byte {h : Heap} {p r : Nat} {l : List Nat} {e : Int} (R : IsR h p r l e) : ∀ x ∈ l, x < 256 := by
  obtain ⟨a, n, c, _, h2, _⟩ := R.ex
  exact (sliceBytes_spec h2).2.1
section
variable {p r : Nat} {l : List Nat} {h : Heap} (R : IsR h p r l 0)
include R
end
end
end Go.Proofs.YtdmnphocgfnlpaaGreatDoor

namespace Go.Proofs.YtdmnphocgfnlpaaGreatDoor
open Go Go.Abs
section
theorem getB_kill {h : Heap} {L : Nat} (h0 : h.n0 ≤ L) (hn : L < h.next) {c : Nat} (hc : c ≠ L) : (h.kill L).getB c = h.getB c := by
  unfold Heap.kill
  rw [Heap.getB_put h h0 hn, if_neg hc]
end
section
theorem IsR.lt {h : Heap} {p r : Nat} {l : List Nat} {e : Int} (R : IsR h p r l e) : r < h.next := by
  obtain ⟨a, n, c, h1, _, _⟩ := R.ex
  exact h.lt_of_get h1
end
section
end
section
def baseOf : Value → Option Nat
  | .slice (some a) _ _ => some a.block
  | _ => none
/-- A slice that grows: nothing yet, or a block of its own. -/
def OwnC (h : Heap) (N size : Nat) (v : Value) (len : Nat) (cells : List Value) : Prop :=
  cells.length = len * size ∧ Abs.noHoles cells = true ∧ oneCells cells = true ∧
  ((v = .slice none 0 0 ∧ len = 0) ∨ ∃ b s, v = .slice (some ⟨b, 0, s⟩) len len ∧ N ≤ b ∧ ((s = none ∧ len = 0) ∨ (s = some size ∧ h.get b = some cells)))
theorem OwnC.nil (h : Heap) (N size : Nat) : OwnC h N size (.slice none 0 0) 0 [] := ⟨by simp, rfl, rfl, .inl ⟨rfl, rfl⟩⟩
theorem OwnC.keep {h h' : Heap} {N size : Nat} {v : Value} {len : Nat} {cells : List Value} (o : OwnC h N size v len cells) {B : Nat → Prop} (k : Kept h h' B) (hB : ∀ b, baseOf v = some b → ¬ B b) : OwnC h' N size v len cells := by
  obtain ⟨h1, h2, h3, h4⟩ := o
  refine ⟨h1, h2, h3, ?_⟩
  rcases h4 with h4 | ⟨b, s, rfl, h5, h6 | ⟨h6, h7⟩⟩
  · exact .inl h4
  · exact .inr ⟨b, s, rfl, h5, .inl h6⟩
  · exact .inr ⟨b, s, rfl, h5, .inr ⟨h6, k.getE h7 (hB b rfl)⟩⟩
theorem noHoles_append (a b : List Value) (ha : Abs.noHoles a = true) (hb : Abs.noHoles b = true) : Abs.noHoles (a ++ b) = true := by
  unfold Abs.noHoles at *
  rw [List.all_append, ha, hb]; rfl
theorem oneCells_append (a b : List Value) (ha : oneCells a = true) (hb : oneCells b = true) : oneCells (a ++ b) = true := by
  unfold oneCells at *
  rw [List.all_append, ha, hb]; rfl
theorem append_own {h : Heap} {N size by_ len m : Nat} {v x : Value} {cells news : List Value} (o : OwnC h N size v len cells) (h0 : h.n0 ≤ N) (hN : N ≤ h.next) (hs : 0 < size) (hx : lenA x = some m) (hf : firstA size m x h = some news)
    (h1 : oneCells news = true) (h2 : Abs.noHoles news = true) (hl : news.length = m * size) (hb : (len + m) * by_ ≤ 140737488355328) (hc : len + m ≤ 4611686018427387904) :
    ∃ v' h', appendA size by_ v x h = some (v', h') ∧ OwnC h' N size v' (len + m) (cells ++ news) ∧ Kept h h' (fun c => baseOf v = some c ∧ h.get c = some cells) ∧ (v' = v ∨ (baseOf v' = some h.next ∧ h.next < h'.next)) := by
  have o' := o
  obtain ⟨o1, o2, o3, o4⟩ := o
  have hcond : ∀ len' : Nat, len' = len → (!(oneCells news) || !(decide ((len' + m) * by_ ≤ 140737488355328)) || !(decide (len' + m ≤ 4611686018427387904)) || decide (news.length ≠ m * size)) = false := by
    rintro _ rfl
    rw [h1, decide_eq_true hb, decide_eq_true hc, decide_eq_false (by omega)]; rfl
  by_cases hm : m = 0
  · subst hm
    have hn : news = [] := List.length_eq_zero_iff.1 (by omega)
    subst hn
    have ho : OwnC h N size v (len + 0) (cells ++ []) := by rw [List.append_nil]; exact o'
    refine ⟨v, h, ?_, ho, Kept.refl _ _, .inl rfl⟩
    rcases o4 with ⟨rfl, rfl⟩ | ⟨b, s, rfl, h5, h6⟩
    · unfold appendA
      simp only [hx, hf]
      rw [if_neg (by rw [hcond 0 rfl]; decide), if_pos (by omega), if_pos trivial]
    · unfold appendA
      simp only [hx, hf]
      rw [if_neg (by rw [hcond len rfl]; decide), if_pos (by omega), if_pos trivial]
  · have fresh : ∀ cs : List Value, cs = [] → len = 0 → OwnC (h.alloc news) N size (.slice (some ⟨h.next, 0, some size⟩) (len + m) (len + m)) (len + m) (cs ++ news) := by
      rintro _ rfl rfl
      exact ⟨by simpa using hl, by simpa using h2, by simpa using h1, .inr ⟨h.next, _, rfl, hN, .inr ⟨rfl, by rw [Heap.get_alloc, if_pos rfl]; rfl⟩⟩⟩
    rcases o4 with ⟨rfl, rfl⟩ | ⟨b, s, rfl, h5, ⟨rfl, rfl⟩ | ⟨rfl, h6⟩⟩
    · have hce : cells = [] := List.length_eq_zero_iff.1 (by simpa using o1)
      refine ⟨_, _, ?_, fresh cells hce rfl, Kept.alloc _ _ _, .inr ⟨rfl, by simp⟩⟩
      unfold appendA
      simp only [hx, hf]
      rw [if_neg (by rw [hcond 0 rfl]; decide), if_neg (by omega), if_pos trivial]
    · have hce : cells = [] := List.length_eq_zero_iff.1 (by simpa using o1)
      refine ⟨_, _, ?_, fresh cells hce rfl, Kept.alloc _ _ _, .inr ⟨rfl, by simp⟩⟩
      unfold appendA
      simp only [hx, hf]
      have f0 : firstA size 0 (.slice (some ⟨b, 0, none⟩) 0 0) h = some [] := by simp [firstA]
      rw [if_neg (by rw [hcond 0 rfl]; decide), if_neg (by omega)]
      simp only [f0]
      rw [if_neg (by simp)]; rfl
    · have hf2 : firstA size len (.slice (some ⟨b, 0, some size⟩) len len) h = some cells := by
        simp only [firstA]
        by_cases hz : len * size = 0
        · rw [if_pos hz]
          have : cells = [] := List.length_eq_zero_iff.1 (by omega)
          rw [this]
        · rw [if_neg hz]
          simp only [h6]
          have e : (cells.drop 0).take (len * size) = cells := by rw [List.drop_zero, List.take_of_length_le (by omega)]
          simp only [e]
          rw [if_pos ⟨by omega, o2⟩]
      have hlt := h.lt_of_get h6
      have hk : ∀ c, c < h.next → c ≠ b → ((h.kill b).alloc (cells ++ news)).getB c = h.getB c := by
        intro c hc hne
        rw [Heap.getB_alloc, if_neg (by rw [Heap.next_kill]; omega)]
        exact getB_kill (by omega) hlt hne
      refine ⟨.slice (some ⟨h.next, 0, some size⟩) (len + m) (len + m), (h.kill b).alloc (cells ++ news), ?_, ⟨by rw [List.length_append, o1, hl, Nat.add_mul], noHoles_append _ _ o2 h2, oneCells_append _ _ o3 h1, .inr ⟨h.next, _, rfl, hN, .inr ⟨rfl, ?_⟩⟩⟩, ⟨rfl, by simp, fun c hc hB => hk c hc (fun e => hB (by rw [e]; exact ⟨rfl, h6⟩))⟩, .inr ⟨rfl, by simp⟩⟩
      · unfold appendA
        simp only [hx, hf]
        rw [if_neg (by rw [hcond len rfl]; decide), if_neg (by omega)]
        simp only [hf2]
        rw [if_neg (by simp [o1]), if_pos (by simp [h6]; omega)]
      · rw [Heap.get_alloc, if_pos (by rw [Heap.next_kill])]
/-- Bytes that grow. -/
structure OwnB (h : Heap) (N : Nat) (v : Value) (l : List Nat) : Prop where
  own : OwnC h N 1 v l.length (l.map u8)
  byte : ∀ x ∈ l, x < 256
theorem OwnB.nil (h : Heap) (N : Nat) : OwnB h N (.slice none 0 0) [] := ⟨.nil h N 1, by simp⟩
theorem OwnB.keep {h h' : Heap} {N : Nat} {v : Value} {l : List Nat} (o : OwnB h N v l) {B : Nat → Prop} (k : Kept h h' B) (hB : ∀ b, baseOf v = some b → ¬ B b) : OwnB h' N v l := ⟨o.own.keep k hB, o.byte⟩
theorem OwnB.bytes {h : Heap} {N : Nat} {v : Value} {l : List Nat} (o : OwnB h N v l) : ∃ a c, v = .slice a l.length c ∧ sliceBytes a l.length h = some l ∧ goodS a l.length c = true ∧ (∀ y, a = some y → N ≤ y.block) ∧ (∀ y, a = some y → baseOf v = some y.block) := by
  obtain ⟨⟨o1, o2, o3, o4⟩, ob⟩ := o
  rcases o4 with ⟨rfl, h4⟩ | ⟨b, s, rfl, h5, ⟨rfl, h4⟩ | ⟨rfl, h6⟩⟩
  · have : l = [] := List.length_eq_zero_iff.1 h4
    subst this
    exact ⟨none, 0, rfl, rfl, rfl, fun y hy => (by cases hy), fun y hy => (by cases hy)⟩
  · have : l = [] := List.length_eq_zero_iff.1 h4
    subst this
    exact ⟨_, _, rfl, rfl, rfl, fun y hy => (by cases hy; exact h5), fun y hy => (by cases hy; rfl)⟩
  · refine ⟨_, _, rfl, ?_, ?_, fun y hy => by cases hy; exact h5, fun y hy => by cases hy; rfl⟩
    · have := sliceBytes_at (off := 0) (n := l.length) (s := some 1) h6 (by omega) ob
      rw [this, List.drop_zero, List.take_of_length_le (Nat.le_refl _)]
    · unfold goodS
      rw [Nat.ble_eq_true_of_le (Nat.le_refl _)]; rfl
end
section
end
section
/-- A Writer that has not failed: its limit and its bytes; all that is its own lies at N or above. -/
structure IsW (h : Heap) (N w lim : Nat) (l : List Nat) : Prop where
  ex : ∃ v, h.get w = some [i64n lim, .bool false, v] ∧ OwnB h N v l ∧ baseOf v ≠ some w ∧ ∀ b, baseOf v = some b → b < h.next
  n0 : h.n0 ≤ N
  Nw : N ≤ w
  small : lim ≤ 9223372036854775807
  g4 : 2 ≤ h.n0
/-- The block of a Writer's bytes. -/
noncomputable def wb (h : Heap) (w : Nat) : Option Nat := match h.get w with
  | some [_, _, v] => baseOf v
  | _ => none
/-- A block that a Writer does not own. -/
def Fr (h : Heap) (w b : Nat) : Prop := b < h.next ∧ b ≠ w ∧ wb h w ≠ some b
/-- All that the Writer does not own is as it was. -/
structure WS (w : Nat) (h h' : Heap) : Prop where
  n0 : h'.n0 = h.n0
  next : h.next ≤ h'.next
  getB : ∀ b, Fr h w b → h'.getB b = h.getB b
  fr : ∀ b, Fr h w b → Fr h' w b
theorem WS.get {w : Nat} {h h' : Heap} (x : WS w h h') (b : Nat) (f : Fr h w b) : h'.get b = h.get b := by
  unfold Heap.get
  rw [x.getB b f]
theorem WS.refl (w : Nat) (h : Heap) : WS w h h := ⟨rfl, Nat.le_refl _, fun _ _ => rfl, fun _ f => f⟩
theorem WS.trans {w : Nat} {a b c : Heap} (x : WS w a b) (y : WS w b c) : WS w a c := ⟨y.n0.trans x.n0, Nat.le_trans x.next y.next, fun d f => (y.getB d (x.fr d f)).trans (x.getB d f), fun d f => y.fr d (x.fr d f)⟩
theorem WS.bytes {w : Nat} {h h' : Heap} (k : WS w h h') {a : Option Addr} {n : Nat} {l : List Nat} (e : sliceBytes a n h = some l) (hb : ∀ y, a = some y → 0 < n → Fr h w y.block) : sliceBytes a n h' = some l := by
  by_cases h0 : n = 0
  · subst h0
    obtain ⟨hl, _, _⟩ := sliceBytes_spec e
    have : l = [] := List.length_eq_zero_iff.1 hl
    subst this
    cases a with
    | none => rfl
    | some x => unfold sliceBytes firstA; simp; rfl
  · obtain ⟨_, _, h3⟩ := sliceBytes_spec e
    obtain ⟨b, off, s, c, rfl, hc, _⟩ := h3 (by omega)
    rw [sliceBytes_congr (h := h) (fun y hy => by cases hy; exact k.get b (hb _ rfl (by omega)))]
    exact e
theorem IsW.lt {h : Heap} {N w lim : Nat} {l : List Nat} (W : IsW h N w lim l) : w < h.next := by
  obtain ⟨v, h1, _⟩ := W.ex
  exact h.lt_of_get h1
theorem OwnB.cell {h : Heap} {N : Nat} {v : Value} {l : List Nat} (o : OwnB h N v l) : v.cells = #[v] ∧ v.oneCell' = true ∧ isHole v = false := by
  obtain ⟨a, c, rfl, _⟩ := o.bytes
  exact ⟨rfl, rfl, rfl⟩
theorem IsW.old {h h' : Heap} {N w lim : Nat} {l : List Nat} (W : IsW h N w lim l) (o : Old h h') : IsW h' N w lim l := by
  obtain ⟨v, h1, h2, h3, h4⟩ := W.ex
  exact ⟨⟨v, o.getE h1 (fun h => h), h2.keep o (fun _ _ h => h), h3, fun b hb => Nat.lt_of_lt_of_le (h4 b hb) o.next⟩, by rw [o.n0]; exact W.n0, W.Nw, W.small, by rw [o.n0]; exact W.g4⟩
theorem IsW.alloc {h : Heap} {N w lim : Nat} {l : List Nat} (W : IsW h N w lim l) (k : Blk) : IsW (h.alloc k) N w lim l := W.old (Kept.alloc _ _ _)
end
section
section
variable {h : Heap} {N w lim : Nat} {l : List Nat} (W : IsW h N w lim l)
include W
end

end
end Go.Proofs.YtdmnphocgfnlpaaGreatDoor

namespace Go.Proofs.YtdmnphocgfnlpaaGreatDoor
open Go Go.Abs
attribute [local congr] thenV_congr
end Go.Proofs.YtdmnphocgfnlpaaGreatDoor

namespace Go.Proofs.YtdmnphocgfnlpaaGreatDoor
open Go Go.Abs
noncomputable section
/-- What a Reader has left, and its error (0: none). -/
structure Rd where
  l : List Nat
  e : Int
abbrev Rd.ok (s : Rd) (n : Nat) : Prop := s.e = 0 ∧ n ≤ s.l.length
def Rd.skip (s : Rd) (n : Nat) : Rd := if s.ok n then ⟨s.l.drop n, 0⟩ else if s.e = 0 then ⟨s.l, 4⟩ else s
section
variable {p r : Nat} {h : Heap}
end
end
end Go.Proofs.YtdmnphocgfnlpaaGreatDoor

namespace Go.Proofs.YtdmnphocgfnlpaaGreatDoor
open Go Go.Abs
noncomputable section
abbrev Rd.has (s : Rd) : Prop := s.e = 0 ∧ 2 ≤ s.l.length ∧ be (s.l.take 2) ≤ s.l.length - 2
def Rd.text (s : Rd) : List Nat := if s.has then (s.l.drop 2).take (be (s.l.take 2)) else []
def Rd.after (s : Rd) : Rd := if s.has then ⟨(s.l.drop 2).drop (be (s.l.take 2)), 0⟩ else if s.e = 0 then ⟨s.l, 4⟩ else s
section
variable {p r : Nat} {h : Heap}
end
end
end Go.Proofs.YtdmnphocgfnlpaaGreatDoor

namespace Go.Proofs.YtdmnphocgfnlpaaGreatDoor
open Go Go.Abs
theorem mid {k A B C : List Value} {p n : Nat} (h : k = A ++ (B ++ C)) (hA : A.length = p) (hB : B.length = n) : (k.drop p).take n = B := by
  subst h hA hB
  rw [List.drop_left, List.take_left]
theorem ldN_mid {h : Heap} {b p n : Nat} {k A B C : List Value} (g : h.get b = some k) (e : k = A ++ (B ++ C)) (hA : A.length = p) (hB : B.length = n) (nh : Abs.noHoles B = true) : ldN n (ptr b p) h = some (.agg B.toArray, h) := by
  have hm := mid e hA hB
  have hl : p + n ≤ k.length := by rw [e, List.length_append, List.length_append]; omega
  have := ldN_at g (o := p) (n := n) hl (by rw [hm]; exact nh)
  rw [hm] at this
  exact this
theorem ldN_all {h : Heap} {b n : Nat} {k : List Value} (g : h.get b = some k) (hl : k.length = n) (nh : Abs.noHoles k = true) : ldN n (ptr b 0) h = some (.agg k.toArray, h) := ldN_mid g (A := []) (B := k) (C := []) (by simp) rfl hl nh
theorem newC_eq (cs : List Value) (h : Heap) : newC cs h = some (ptr h.next 0, h.alloc cs) := rfl
theorem stN_whole {h : Heap} {b : Nat} {k k' : Blk} (hk : h.get b = some k) (h0 : h.n0 ≤ b) {n : Nat} (hn : k.length = n) (hn' : k'.length = n) (ho : oneCells k' = true) : stN n (ptr b 0) (.agg k'.toArray) h = some (undef, h.set b k') := by
  unfold stN ptr
  have hc : (Value.agg k'.toArray).cells = k'.toArray := rfl
  simp only [hc, List.size_toArray, hn', if_true]
  unfold stL
  simp only [hk]
  rw [if_pos (by simp [ho, h0, hn, hn'])]
  have : splice k 0 k' = k' := by simp [splice, hn, hn']
  simp [this]
theorem ld_agg {t n : Nat} (h1 : aggT Tryz.prog t = some true) (h2 : sizeT Tryz.prog t = some n) (v : Value) (h : Heap) : ld Tryz.prog t v h = ldN n v h := by
  unfold ld
  rw [h1, h2]
theorem getD_mkF {n k : Nat} (hk : k < n) (x : Nat → Value) : (mkF n x).getD k undef = x k := by
  unfold mkF
  simp [hk]
theorem res_cell {rs : List ResultVar} {n k t z : Nat} (hr : rs = [.cell k t]) (h1 : aggT Tryz.prog t = some true) (h2 : sizeT Tryz.prog t = some z) (hk : k < n) (x : Nat → Value) {h : Heap} {v : Value} (e : ldN z (x k) h = some (v, h)) : resultsA Tryz.prog rs (mkF n x) h = some (v, h) := by
  subst hr
  simp only [resultsA, resultA, getD_mkF hk, ld_agg h1 h2, e]
  rfl
end Go.Proofs.YtdmnphocgfnlpaaGreatDoor

namespace Go.Proofs.YtdmnphocgfnlpaaGreatDoor
open Go Go.Abs
noncomputable section
structure Ev where
  kind : Int
  peer : Int
  a : Int
  b : Int
  draw : Int
  data : List Nat
def evc (e : Ev) (v : Value) : List Value := [.int .u8 e.kind, .int .i64 e.peer, .int .i64 e.a, .int .i64 e.b, .int .u64 e.draw, v]
/-- An event's cells; its data lie in blocks of Q. -/
def EvAt (h : Heap) (Q : Nat → Prop) (cs : List Value) (e : Ev) : Prop :=
  ∃ a c, cs = evc e (.slice a e.data.length c) ∧ sliceBytes a e.data.length h = some e.data ∧ (0 < e.data.length → goodS a e.data.length c = true) ∧ ∀ y, a = some y → Q y.block
theorem EvAt.keep {h h' : Heap} {Q B : Nat → Prop} {cs : List Value} {e : Ev} (x : EvAt h Q cs e) (k : Kept h h' B) (hB : ∀ b, Q b → ¬ B b) : EvAt h' Q cs e := by
  obtain ⟨a, c, h1, h2, h3, h4⟩ := x
  exact ⟨a, c, h1, k.bytes h2 fun y hy _ => hB _ (h4 y hy), h3, h4⟩
theorem EvAt.mono {h : Heap} {Q Q' : Nat → Prop} {cs : List Value} {e : Ev} (x : EvAt h Q cs e) (hQ : ∀ b, Q b → Q' b) : EvAt h Q' cs e := by
  obtain ⟨a, c, h1, h2, h3, h4⟩ := x
  exact ⟨a, c, h1, h2, h3, fun y hy => hQ _ (h4 y hy)⟩
/-- The cells of a list of events. -/
structure EvL (h : Heap) (Q : Nat → Prop) (cells : List Value) (es : List Ev) : Prop where
  len : cells.length = es.length * 6
  ev : ∀ i e, es[i]? = some e → EvAt h Q ((cells.drop (6 * i)).take 6) e
theorem EvL.keep {h h' : Heap} {Q B : Nat → Prop} {cs : List Value} {es : List Ev} (x : EvL h Q cs es) (k : Kept h h' B) (hB : ∀ b, Q b → ¬ B b) : EvL h' Q cs es :=
  ⟨x.len, fun i e he => (x.ev i e he).keep k hB⟩
theorem EvL.mono {h : Heap} {Q Q' : Nat → Prop} {cs : List Value} {es : List Ev} (x : EvL h Q cs es) (hQ : ∀ b, Q b → Q' b) : EvL h Q' cs es :=
  ⟨x.len, fun i e he => (x.ev i e he).mono hQ⟩
theorem EvL.nil (h : Heap) (Q : Nat → Prop) : EvL h Q [] [] := ⟨rfl, fun i e he => by cases i <;> cases he⟩
theorem EvL.snoc {h : Heap} {Q : Nat → Prop} {cells cs : List Value} {es : List Ev} {e : Ev} (x : EvL h Q cells es) (y : EvAt h Q cs e) : EvL h Q (cells ++ cs) (es ++ [e]) := by
  have hl : cs.length = 6 := by obtain ⟨a, c, h1, _⟩ := y; rw [h1]; rfl
  refine ⟨by rw [List.length_append, x.len, hl, List.length_append]; simp; omega, fun i f hf => ?_⟩
  rcases Nat.lt_or_ge i es.length with hi | hi
  · rw [List.getElem?_append_left hi] at hf
    have hq := x.ev i f hf
    have h6 : 6 * i + 6 ≤ cells.length := by rw [x.len]; omega
    rw [List.drop_append_of_le_length (by omega), List.take_append_of_le_length (by simp; omega)]
    exact hq
  · have : i = es.length := by
      have := (List.getElem?_eq_some_iff.1 hf).1
      simp at this; omega
    subst this
    rw [List.getElem?_append_right (Nat.le_refl _), Nat.sub_self] at hf
    have hf : e = f := Option.some.inj hf
    subst hf
    have hlen : 6 * es.length = cells.length := by rw [x.len]; omega
    rw [hlen, List.drop_left, List.take_of_length_le (by omega)]
    exact y
end
end Go.Proofs.YtdmnphocgfnlpaaGreatDoor

namespace Go.Proofs.YtdmnphocgfnlpaaGreatDoor
open Go Go.Abs
noncomputable section
/-- The Reader's states within an event. -/
def q1 (l : List Nat) : Rd := Rd.skip ⟨l, 0⟩ 1
def q2 (l : List Nat) : Rd := (q1 l).skip 1
def q3 (l : List Nat) : Rd := (q2 l).skip 2
def q4 (l : List Nat) : Rd := (q3 l).skip 2
def q5 (l : List Nat) : Rd := (q4 l).skip 8
def q6 (l : List Nat) : Rd := (q5 l).after
end
end Go.Proofs.YtdmnphocgfnlpaaGreatDoor

namespace Go.Proofs.YtdmnphocgfnlpaaGreatDoor
open Go Go.Abs
noncomputable section
theorem OwnC.base {h : Heap} {N size : Nat} {v : Value} {len : Nat} {cells : List Value} (o : OwnC h N size v len cells) {b : Nat} (hb : baseOf v = some b) : N ≤ b := by
  obtain ⟨_, _, _, h4⟩ := o
  rcases h4 with ⟨rfl, _⟩ | ⟨b', s, rfl, h5, _⟩
  · cases hb
  · cases hb; exact h5
theorem firstA_one {h : Heap} {b : Nat} {cs : List Value} {n : Nat} (g : h.get b = some cs) (hl : cs.length = n) (h0 : 0 < n) (nh : Abs.noHoles cs = true) : firstA n 1 (.slice (some ⟨b, 0, none⟩) 1 1) h = some cs := by
  have e : (cs.drop 0).take (1 * n) = cs := by rw [List.drop_zero, List.take_of_length_le (by omega)]
  simp only [firstA]
  rw [if_neg (by omega)]
  simp only [g, e]
  rw [if_pos ⟨by omega, nh⟩]
theorem neq31 (a : Int) : bin Tryz.prog .neq 31 (.int .i64 a) (.int .i64 0) = some (.bool (a != 0)) := bin_neq ..
end
end Go.Proofs.YtdmnphocgfnlpaaGreatDoor

namespace Go.Proofs.YtdmnphocgfnlpaaGreatDoor
open Go Go.Abs
attribute [local congr] thenV_congr
end Go.Proofs.YtdmnphocgfnlpaaGreatDoor

namespace Go.Proofs.YtdmnphocgfnlpaaGreatDoor
open Go Go.Abs
section
end
end Go.Proofs.YtdmnphocgfnlpaaGreatDoor

namespace Go.Proofs.YtdmnphocgfnlpaaGreatDoor
open Go Go.Abs
section
theorem OwnC.empty (h : Heap) {N size b : Nat} (hb : N ≤ b) : OwnC h N size (.slice (some ⟨b, 0, none⟩) 0 0) 0 [] := ⟨by simp, rfl, rfl, .inr ⟨b, none, rfl, hb, .inl ⟨rfl, rfl⟩⟩⟩
end
section
end
section
end
end Go.Proofs.YtdmnphocgfnlpaaGreatDoor

namespace Go.Proofs.YtdmnphocgfnlpaaGreatDoor
open Go Go.Abs
noncomputable section
def setC (p b q : Int) : List Value := [.int .i64 p, .int .i64 b, .int .i64 q]
def validS (p b q : Int) : Bool := decide (p ≥ 2) && decide (p ≤ 16) && decide (b ≥ 4) && decide (b ≤ 4096) && decide (q ≥ 0) && decide (q ≤ 4294967295)
theorem is12' : IsFn Tryz.prog 12 Tryz.f12 := ⟨by kernel_rfl, by kernel_rfl, by kernel_rfl, by kernel_rfl⟩
theorem sF : ((some false : Option Bool) == some true) = false := rfl
theorem box_set (h : Heap) (p b q : Int) : box (.agg (setC p b q).toArray) h = some (ptr h.next 0, h.alloc (setC p b q)) := box_at h _ rfl
section
variable {h : Heap} (hG : 2 ≤ h.n0) (p b q : Int)
include hG
theorem r12 : ∃ h', CW 12 [.agg (setC p b q).toArray] h = some (.bool (validS p b q), h') ∧ Old h h' := by
  refine ⟨h.alloc (setC p b q), CW_body is12' hG rfl ((t12_eq _ _ _).trans ?_), Kept.alloc _ _ _⟩
  have g : (h.alloc (setC p b q)).get h.next = some (setC p b q) := by rw [Heap.get_alloc, if_pos rfl]
  have l0 : ld1 (ptr h.next 0) (h.alloc (setC p b q)) = some (.int .i64 p, h.alloc (setC p b q)) := ld1_at g rfl
  have l1 : ld1 (ptr h.next 1) (h.alloc (setC p b q)) = some (.int .i64 b, h.alloc (setC p b q)) := ld1_at g rfl
  have l2 : ld1 (ptr h.next 2) (h.alloc (setC p b q)) = some (.int .i64 q, h.alloc (setC p b q)) := ld1_at g rfl
  unfold t12 validS
  simp -implicitDefEqProofs only [box_set, thenV_some, addP_ptr, pu_some, Nat.zero_add, l0, l1, l2, bin_geq, bin_leq, bOf_bool]
  rcases hb0 : decide (p ≥ 2) with _ | _ <;> rcases hb1 : decide (p ≤ 16) with _ | _ <;> rcases hb2 : decide (b ≥ 4) with _ | _ <;> rcases hb3 : decide (b ≤ 4096) with _ | _ <;> rcases hb4 : decide (q ≥ 0) with _ | _ <;> rcases hb5 : decide (q ≤ 4294967295) with _ | _ <;>
    simp -implicitDefEqProofs only [sF, beq_self_eq_true, guardK_true, guardK_false, thenV_some, pu_some, l0, l1, l2, bin_geq, bin_leq, hb0, hb1, hb2, hb3, hb4, hb5, bOf_bool, if_true, Bool.false_eq_true, if_false, Bool.and_true, Bool.true_and, Bool.and_false, Bool.false_and]
end
end
end Go.Proofs.YtdmnphocgfnlpaaGreatDoor

namespace Go.Proofs.YtdmnphocgfnlpaaGreatDoor
open Go Go.Abs
noncomputable section
/-- The events that a slice of one's own holds. -/
def EvV (h : Heap) (v : Value) (es : List Ev) : Prop := ∃ N cells, OwnC h N 6 v es.length cells ∧ EvL h (fun b => b < h.next ∧ baseOf v ≠ some b) cells es
theorem EvV.nil (h : Heap) : EvV h (.slice none 0 0) [] := ⟨0, [], OwnC.nil h 0 6, EvL.nil h _⟩
theorem EvV.old {h h' : Heap} {v : Value} {es : List Ev} (x : EvV h v es) (o : Old h h') : EvV h' v es := by
  obtain ⟨N, cells, h1, h2⟩ := x
  exact ⟨N, cells, h1.keep o (fun _ _ h => h), (h2.keep o (fun _ _ h => h)).mono fun b hb => ⟨Nat.lt_of_lt_of_le hb.1 o.next, hb.2⟩⟩
def u1 (l : List Nat) : Rd := Rd.skip ⟨l, 0⟩ 1
def u2 (l : List Nat) : Rd := (u1 l).skip 2
def u3 (l : List Nat) : Rd := (u2 l).skip 4
theorem ldSet {h : Heap} {b : Nat} {x y z : Int} (g : h.get b = some (setC x y z)) : ldN 3 (ptr b 0) h = some (.agg (setC x y z).toArray, h) := ldN_all g rfl rfl
end
end Go.Proofs.YtdmnphocgfnlpaaGreatDoor

namespace Go.Proofs.YtdmnphocgfnlpaaGreatDoor
open Go Go.Abs
noncomputable section
end
end Go.Proofs.YtdmnphocgfnlpaaGreatDoor

namespace Go.Proofs.YtdmnphocgfnlpaaGreatDoor
open Go Go.Abs
noncomputable section
end
end Go.Proofs.YtdmnphocgfnlpaaGreatDoor

namespace Go.Proofs.YtdmnphocgfnlpaaGreatDoor
open Go Go.Abs
noncomputable section
/-- The events of a slice, as they are read. -/
def EvS (h : Heap) (v : Value) (es : List Ev) : Prop :=
  ∃ a c, v = .slice a es.length c ∧ ∀ (i : Nat) (e : Ev), es[i]? = some e → ∃ p cs, idxS 6 v (.int .i64 (i : Int)) = some p ∧ EvAt h (fun _ => True) cs e ∧ (∀ h', Old h h' → ldN 6 p h' = some (.agg cs.toArray, h')) ∧ ∃ b o, p = ptr b o ∧ ∀ h' (j : Nat) x, Old h h' → cs[j]? = some x → ld1 (ptr b (o + j)) h' = some (x, h')
theorem EvS.old {h h' : Heap} {v : Value} {es : List Ev} (x : EvS h v es) (o : Old h h') : EvS h' v es := by
  obtain ⟨a, c, hv, hx⟩ := x
  refine ⟨a, c, hv, fun i e he => ?_⟩
  obtain ⟨p, cs, h1, h2, h3, b, q, h4, h5⟩ := hx i e he
  exact ⟨p, cs, h1, h2.keep o (fun _ _ h => h), fun h'' o' => h3 h'' (o.trans o'), b, q, h4, fun h'' j x o' => h5 h'' j x (o.trans o')⟩
theorem neq_selfI (t : TypeId) (k : IntKind) (n : Int) : bin Tryz.prog .neq t (.int k n) (.int k n) = some (.bool false) := by rw [bin_neq]; simp
theorem sT : ((some true : Option Bool) == some false) = false := rfl
end
end Go.Proofs.YtdmnphocgfnlpaaGreatDoor

namespace Go.Proofs.YtdmnphocgfnlpaaGreatDoor
open Go Go.Abs
noncomputable section
end
end Go.Proofs.YtdmnphocgfnlpaaGreatDoor

namespace Go.Proofs.YtdmnphocgfnlpaaGreatDoor
open Go Go.Abs
noncomputable section
/-- An event whose numbers are of their types. -/
structure Ev.Wf (e : Ev) : Prop where
  k : 0 ≤ e.kind ∧ e.kind < 256
  p : -9223372036854775808 ≤ e.peer ∧ e.peer < 9223372036854775808
  a : -9223372036854775808 ≤ e.a ∧ e.a < 9223372036854775808
  b : -9223372036854775808 ≤ e.b ∧ e.b < 9223372036854775808
  d : 0 ≤ e.draw ∧ e.draw < 18446744073709551616
theorem box_ev (h : Heap) (e : Ev) (a : Option Addr) (n c : Nat) : box (.agg (evc e (.slice a n c)).toArray) h = some (ptr h.next 0, h.alloc (evc e (.slice a n c))) := box_at h _ rfl
end
end Go.Proofs.YtdmnphocgfnlpaaGreatDoor

namespace Go.Proofs.YtdmnphocgfnlpaaGreatDoor
open Go Go.Abs
noncomputable section
theorem eql_selfN (t : TypeId) (k : IntKind) (n : Int) : bin Tryz.prog .eql t (.int k n) (.int k n) = some (.bool true) := by rw [bin_eql]; simp
theorem nn44 : bin Tryz.prog .eql 44 (.pointer none) (.pointer none) = some (.bool true) := by kernel_rfl
theorem nn104 : bin Tryz.prog .eql 104 (.pointer none) (.pointer none) = some (.bool true) := by kernel_rfl
theorem is19 : IsFn Tryz.prog 19 Tryz.f19 := ⟨by kernel_rfl, by kernel_rfl, by kernel_rfl, by kernel_rfl⟩
theorem is20 : IsFn Tryz.prog 20 Tryz.f20 := ⟨by kernel_rfl, by kernel_rfl, by kernel_rfl, by kernel_rfl⟩
theorem is21 : IsFn Tryz.prog 21 Tryz.f21 := ⟨by kernel_rfl, by kernel_rfl, by kernel_rfl, by kernel_rfl⟩
theorem is22 : IsFn Tryz.prog 22 Tryz.f22 := ⟨by kernel_rfl, by kernel_rfl, by kernel_rfl, by kernel_rfl⟩
theorem is23 : IsFn Tryz.prog 23 Tryz.f23 := ⟨by kernel_rfl, by kernel_rfl, by kernel_rfl, by kernel_rfl⟩
theorem is24 : IsFn Tryz.prog 24 Tryz.f24 := ⟨by kernel_rfl, by kernel_rfl, by kernel_rfl, by kernel_rfl⟩
theorem is25 : IsFn Tryz.prog 25 Tryz.f25 := ⟨by kernel_rfl, by kernel_rfl, by kernel_rfl, by kernel_rfl⟩
theorem is26 : IsFn Tryz.prog 26 Tryz.f26 := ⟨by kernel_rfl, by kernel_rfl, by kernel_rfl, by kernel_rfl⟩
theorem is27 : IsFn Tryz.prog 27 Tryz.f27 := ⟨by kernel_rfl, by kernel_rfl, by kernel_rfl, by kernel_rfl⟩
theorem is28 : IsFn Tryz.prog 28 Tryz.f28 := ⟨by kernel_rfl, by kernel_rfl, by kernel_rfl, by kernel_rfl⟩
theorem is29' : IsFn Tryz.prog 29 Tryz.f29 := ⟨by kernel_rfl, by kernel_rfl, by kernel_rfl, by kernel_rfl⟩
theorem is31' : IsFn Tryz.prog 31 Tryz.f31 := ⟨by kernel_rfl, by kernel_rfl, by kernel_rfl, by kernel_rfl⟩
theorem is32 : IsFn Tryz.prog 32 Tryz.f32 := ⟨by kernel_rfl, by kernel_rfl, by kernel_rfl, by kernel_rfl⟩
theorem is33 : IsFn Tryz.prog 33 Tryz.f33 := ⟨by kernel_rfl, by kernel_rfl, by kernel_rfl, by kernel_rfl⟩
theorem is34 : IsFn Tryz.prog 34 Tryz.f34 := ⟨by kernel_rfl, by kernel_rfl, by kernel_rfl, by kernel_rfl⟩
theorem is60' : IsFn Tryz.prog 60 Tryz.f60 := ⟨by kernel_rfl, by kernel_rfl, by kernel_rfl, by kernel_rfl⟩
theorem is63' : IsFn Tryz.prog 63 Tryz.f63 := ⟨by kernel_rfl, by kernel_rfl, by kernel_rfl, by kernel_rfl⟩
theorem is65' : IsFn Tryz.prog 65 Tryz.f65 := ⟨by kernel_rfl, by kernel_rfl, by kernel_rfl, by kernel_rfl⟩
theorem is71 : IsFn Tryz.prog 71 Tryz.f71 := ⟨by kernel_rfl, by kernel_rfl, by kernel_rfl, by kernel_rfl⟩
theorem is88' : IsFn Tryz.prog 88 Tryz.f88 := ⟨by kernel_rfl, by kernel_rfl, by kernel_rfl, by kernel_rfl⟩
theorem is89 : IsFn Tryz.prog 89 Tryz.f89 := ⟨by kernel_rfl, by kernel_rfl, by kernel_rfl, by kernel_rfl⟩
theorem is112' : IsFn Tryz.prog 112 Tryz.f112 := ⟨by kernel_rfl, by kernel_rfl, by kernel_rfl, by kernel_rfl⟩
section
variable {h : Heap} (hG : 2 ≤ h.n0)
include hG
theorem n19 (e : Ev) (a : Option Addr) (n c : Nat) : ∃ h', CW 19 [.pointer none, .agg (evc e (.slice a n c)).toArray] h = some (.bool false, h') ∧ Old h h' := by
  refine ⟨_, CW_body is19 hG rfl ((t19_eq _ _ _ _).trans ?_), Kept.alloc h (evc e (.slice a n c)) _⟩
  unfold t19
  simp -implicitDefEqProofs only [box_ev, thenV_some, nn44, pu_some, bOf_bool, sT, guardK_false, if_true]
theorem n23 : CW 23 [.pointer none] h = some (.slice none 0 0, h) := by
  refine CW_body is23 hG rfl ((t23_eq _ _ _).trans ?_)
  unfold t23
  simp -implicitDefEqProofs only [thenV_some, nn44, pu_some]
theorem n20 : CW 20 [.pointer none] h = some (.bool false, h) := by
  refine CW_body is20 hG rfl ((t20_eq _ _ _).trans ?_)
  unfold t20
  simp -implicitDefEqProofs only [thenV_some, n23 hG, lenL_slice, pu_some, show ((0 : Nat) : Int) = 0 from rfl, eql_selfN]
theorem n21 : CW 21 [.pointer none] h = some (.int .u64 0, h) := by
  refine CW_body is21 hG rfl ((t21_eq _ _ _).trans ?_)
  unfold t21
  simp -implicitDefEqProofs only [thenV_some, nn44, pu_some]
theorem n22 : CW 22 [.pointer none] h = some (.slice none 0 0, h) := by
  refine CW_body is22 hG rfl ((t22_eq _ _ _).trans ?_)
  unfold t22
  simp -implicitDefEqProofs only [thenV_some, nn44, pu_some]
theorem n24 : CW 24 [.pointer none] h = some (.slice none 0 0, h) := by
  refine CW_body is24 hG rfl ((t24_eq _ _ _).trans ?_)
  unfold t24
  simp -implicitDefEqProofs only [thenV_some, nn44, pu_some]
theorem n25 : CW 25 [.pointer none] h = some (.slice none 0 0, h) := by
  refine CW_body is25 hG rfl ((t25_eq _ _ _).trans ?_)
  unfold t25
  simp -implicitDefEqProofs only [thenV_some, nn44, pu_some]
theorem n26 : CW 26 [.pointer none] h = some (.slice none 0 0, h) := by
  refine CW_body is26 hG rfl ((t26_eq _ _ _).trans ?_)
  unfold t26
  simp -implicitDefEqProofs only [thenV_some, nn44, pu_some]
theorem n27 : ∃ h', CW 27 [.pointer none] h = some (.slice none 0 0, h') ∧ Old h h' := by
  have b : box (.pointer none) h = some (ptr h.next 0, h.alloc [.pointer none]) := rfl
  have g : (h.alloc [.pointer none]).get h.next = some [.pointer none] := by rw [Heap.get_alloc, if_pos rfl]
  have l : ld1 (ptr h.next 0) (h.alloc [.pointer none]) = some (.pointer none, h.alloc [.pointer none]) := ld1_at g rfl
  refine ⟨_, CW_body is27 hG rfl ((t27_eq _ _ _).trans ?_), Kept.alloc h [.pointer none] _⟩
  unfold t27
  simp -implicitDefEqProofs only [b, l, thenV_some, nn44, pu_some]
theorem n28 (v : Value) : CW 28 [.pointer none, v] h = some (.slice none 0 0, h) := by
  refine CW_body is28 hG rfl ((t28_eq _ _ _ _).trans ?_)
  unfold t28
  simp -implicitDefEqProofs only [thenV_some, nn44, pu_some, bOf_bool, sT, guardK_false, if_true]
theorem n60 (v : Value) : CW 60 [.pointer none, v] h = some (.pointer none, h) := by
  refine CW_body is60' hG rfl ((t60_eq _ _ _ _).trans ?_)
  unfold t60
  simp -implicitDefEqProofs only [thenV_some, nn44, pu_some, bOf_bool, sT, guardK_false, if_true]
theorem n112 : CW 112 [.pointer none] h = some (.int .i64 1, h) := by
  refine CW_body is112' hG rfl ((t112_eq _ _ _).trans ?_)
  unfold t112
  simp -implicitDefEqProofs only [thenV_some, nn104, pu_some]
theorem n65 : CW 65 [.pointer none] h = some (.slice none 0 0, h) := by
  refine CW_body is65' hG rfl ((t65_eq _ _ _).trans ?_)
  unfold t65
  simp -implicitDefEqProofs only [thenV_some, n112 hG, neq31, show ((1 : Int) != 0) = true from rfl, pu_some]
theorem n63 : CW 63 [.pointer none] h = some (.slice none 0 0, h) := by
  refine CW_body is63' hG rfl ((t63_eq _ _ _).trans ?_)
  unfold t63
  simp -implicitDefEqProofs only [thenV_some, n112 hG, neq31, show ((1 : Int) != 0) = true from rfl, pu_some]
theorem n71 : CW 71 [.pointer none] h = some (.slice none 0 0, h) := by
  refine CW_body is71 hG rfl ((t71_eq _ _ _).trans ?_)
  unfold t71
  simp -implicitDefEqProofs only [thenV_some, n112 hG, neq31, show ((1 : Int) != 0) = true from rfl, pu_some]
theorem n88 : CW 88 [.pointer none] h = some (.int .u64 0, h) := by
  refine CW_body is88' hG rfl ((t88_eq _ _ _).trans ?_)
  unfold t88
  simp -implicitDefEqProofs only [thenV_some, n112 hG, neq31, show ((1 : Int) != 0) = true from rfl, pu_some]
/-- What a world's peer that is not there has. -/
theorem p29 {w v : Value} (e : CW 60 [w, v] h = some (.pointer none, h)) : CW 29 [w, v] h = some (.slice none 0 0, h) := by
  refine CW_body is29' hG rfl ((t29_eq _ _ _ _).trans ?_)
  unfold t29
  simp -implicitDefEqProofs only [thenV_some, e, n65 hG]
theorem p32 {w v : Value} (e : CW 60 [w, v] h = some (.pointer none, h)) : CW 32 [w, v] h = some (.slice none 0 0, h) := by
  refine CW_body is32 hG rfl ((t32_eq _ _ _ _).trans ?_)
  unfold t32
  simp -implicitDefEqProofs only [thenV_some, e, n63 hG]
theorem p33 {w v : Value} (e : CW 60 [w, v] h = some (.pointer none, h)) : CW 33 [w, v] h = some (.slice none 0 0, h) := by
  refine CW_body is33 hG rfl ((t33_eq _ _ _ _).trans ?_)
  unfold t33
  simp -implicitDefEqProofs only [thenV_some, e, n71 hG]
theorem p31 {w v : Value} (e : CW 60 [w, v] h = some (.pointer none, h)) : CW 31 [w, v] h = some (.int .u64 0, h) := by
  refine CW_body is31' hG rfl ((t31_eq _ _ _ _).trans ?_)
  unfold t31
  simp -implicitDefEqProofs only [thenV_some, e, n88 hG]
end
end
end Go.Proofs.YtdmnphocgfnlpaaGreatDoor

namespace Go.Proofs.YtdmnphocgfnlpaaGreatDoor
open Go Go.Abs
noncomputable section
theorem is87' : IsFn Tryz.prog 87 Tryz.f87 := ⟨by kernel_rfl, by kernel_rfl, by kernel_rfl, by kernel_rfl⟩
theorem is30 : IsFn Tryz.prog 30 Tryz.f30 := ⟨by kernel_rfl, by kernel_rfl, by kernel_rfl, by kernel_rfl⟩
/-- Eight empty blocks. -/
def blk8 : List Value := zeros (Value.agg (List.replicate 128 (.int .u8 0)).toArray).cells.toList 8
theorem blk8_len : blk8.length = 1024 := by kernel_rfl
theorem blk8_one : oneCells blk8 = true := by kernel_rfl
theorem blk8_hole : Abs.noHoles blk8 = true := by kernel_rfl
theorem mk8 (h : Heap) : mkR 128 128 (.agg (List.replicate 128 (.int .u8 0)).toArray) (.int .i64 8) (.int .i64 8) h = some (.slice (some ⟨h.next, 0, none⟩) 8 8, h.alloc blk8) := by
  unfold mkR
  dsimp only
  rw [if_pos (by kernel_rfl)]
  rfl
def hd8 (b : Nat) : List Value := [.slice (some ⟨b, 0, none⟩) 8 8, .bool false, .bool false, .int .i64 0, .int .i64 0, .int .i64 0]
theorem bld_hd (b : Nat) : bldR [(.slice none 0 0), (.bool false), (.bool false), (.int .i64 0), (.int .i64 0), (.int .i64 0)] [(0, 1, .slice (some ⟨b, 0, none⟩) 8 8)] = some (.agg (hd8 b).toArray) := rfl
theorem r87 {h : Heap} (hG : 2 ≤ h.n0) : ∃ d bb h', CW 87 [.int .i64 8] h = some (.tuple #[ptr d 0, .int .i64 0], h') ∧ Dq h' d bb 8 blk8 ∧ Old h h' ∧ h.next ≤ d ∧ h.next ≤ bb := by
  let h1 := h.alloc blk8
  have n1 : h1.next = h.next + 1 := Heap.next_alloc ..
  have g1 : h1.get h.next = some blk8 := by rw [Heap.get_alloc, if_pos rfl]
  have b2 : box (.agg (hd8 h.next).toArray) h1 = some (ptr h1.next 0, h1.alloc (hd8 h.next)) := box_at h1 _ rfl
  have g2 : (h1.alloc (hd8 h.next)).get h1.next = some (hd8 h.next) := by rw [Heap.get_alloc, if_pos rfl]
  refine ⟨h1.next, h.next, h1.alloc (hd8 h.next), CW_body is87' hG rfl ((t87_eq _ _ _).trans ?_), ⟨⟨_, g2⟩, (Kept.alloc h1 (hd8 h.next) (fun _ => False)).getE g1 (fun h => h), blk8_len, by decide, blk8_one, blk8_hole⟩, (Kept.alloc h blk8 _).trans (Kept.alloc h1 _ _), by omega, Nat.le_refl _⟩
  have e1 : bin Tryz.prog .lss 3 (.int .i64 8) (.int .i64 4) = some (.bool false) := by rw [bin_lss]; rfl
  have e2 : bin Tryz.prog .gtr 3 (.int .i64 8) (.int .i64 4096) = some (.bool false) := by rw [bin_gtr]; rfl
  unfold t87
  simp -implicitDefEqProofs only [thenV_some, e1, e2, pu_some, bOf_bool, beq_self_eq_true, guardK_true, Bool.false_eq_true, if_false, mk8, show h.alloc blk8 = h1 from rfl, bld_hd, b2]
/-- The slots of a world: disks of eight empty blocks, no peers. -/
structure DL (h : Heap) (Q : Nat → Prop) (cells : List Value) (n : Nat) : Prop where
  len : cells.length = n * 3
  slot : ∀ i, i < n → ∃ d bb, (cells.drop (3 * i)).take 3 = [ptr d 0, .pointer none, .bool false] ∧ Dq h d bb 8 blk8 ∧ Q d ∧ Q bb
theorem Dq.keep {h h' : Heap} {B : Nat → Prop} {d bb n : Nat} {k : List Value} (x : Dq h d bb n k) (o : Kept h h' B) (h1 : ¬ B d) (h2 : ¬ B bb) : Dq h' d bb n k := by
  obtain ⟨r, hr⟩ := x.hd
  exact ⟨⟨r, o.getE hr h1⟩, o.getE x.img h2, x.len, x.small, x.one, x.hole⟩
theorem DL.keep {h h' : Heap} {Q B : Nat → Prop} {cs : List Value} {n : Nat} (x : DL h Q cs n) (k : Kept h h' B) (hB : ∀ b, Q b → ¬ B b) : DL h' Q cs n :=
  ⟨x.len, fun i hi => by
    obtain ⟨d, bb, h1, h2, h3, h4⟩ := x.slot i hi
    exact ⟨d, bb, h1, h2.keep k (hB _ h3) (hB _ h4), h3, h4⟩⟩
theorem DL.mono {h : Heap} {Q Q' : Nat → Prop} {cs : List Value} {n : Nat} (x : DL h Q cs n) (hQ : ∀ b, Q b → Q' b) : DL h Q' cs n :=
  ⟨x.len, fun i hi => by
    obtain ⟨d, bb, h1, h2, h3, h4⟩ := x.slot i hi
    exact ⟨d, bb, h1, h2, hQ _ h3, hQ _ h4⟩⟩
theorem DL.snoc {h : Heap} {Q : Nat → Prop} {cells : List Value} {n d bb : Nat} (x : DL h Q cells n) (y : Dq h d bb 8 blk8) (qd : Q d) (qb : Q bb) : DL h Q (cells ++ [ptr d 0, .pointer none, .bool false]) (n + 1) := by
  refine ⟨by rw [List.length_append, x.len]; simp; omega, fun i hi => ?_⟩
  rcases Nat.lt_or_ge i n with hlt | hge
  · obtain ⟨d', bb', h1, h2⟩ := x.slot i hlt
    have := x.len
    exact ⟨d', bb', by rw [List.drop_append_of_le_length (by omega), List.take_append_of_le_length (by simp; omega)]; exact h1, h2⟩
  · obtain rfl : i = n := by omega
    have hl : 3 * i = cells.length := by rw [x.len]; omega
    exact ⟨d, bb, by rw [hl, List.drop_left]; rfl, y, qd, qb⟩
def wdC (p b q : Int) (v : Value) : List Value := [.int .i64 p, .int .i64 b, .int .i64 q, v, .slice none 0 0, .slice none 0 0, .slice none 0 0, .int .u64 0]
/-- A world of n empty disks. -/
structure Wd (h : Heap) (w n : Nat) : Prop where
  ex : ∃ p b q v N cells, h.get w = some (wdC p b q v) ∧ OwnC h N 3 v n cells ∧ DL h (fun b => b < h.next ∧ baseOf v ≠ some b ∧ b ≠ w) cells n
theorem Wd.old {h h' : Heap} {w n : Nat} (x : Wd h w n) (o : Old h h') : Wd h' w n := by
  obtain ⟨p, b, q, v, N, cells, h1, h2, h3⟩ := x.ex
  exact ⟨p, b, q, v, N, cells, o.getE h1 (fun h => h), h2.keep o (fun _ _ h => h), (h3.keep o (fun _ _ h => h)).mono fun b hb => ⟨Nat.lt_of_lt_of_le hb.1 o.next, hb.2⟩⟩
/-- What stands before a round of New's loop. -/
structure NL (h0 : Heap) (b1 w n : Nat) (p q : Int) (N : Nat) (k : Nat) (y : Nat → Value) (g : Heap) : Prop where
  hk : k ≤ n
  y1 : y 1 = ptr b1 0
  y4 : y 4 = ptr w 0
  y14 : y 14 = .int .i64 (n : Int)
  y15 : y 15 = .int .i64 ((n - k : Nat) : Int)
  ex : ∃ v cells, g.get w = some (wdC p 8 q v) ∧ OwnC g N 3 v (n - k) cells ∧ DL g (fun b => b < g.next ∧ baseOf v ≠ some b ∧ b ≠ w) cells (n - k) ∧ ∀ b, baseOf v = some b → b < g.next
  sb : g.get b1 = some (setC p 8 q)
  wN : w < N
  bN : b1 < N
  bw : b1 ≠ w
  n0 : g.n0 ≤ w
  nN : N ≤ g.next
  old : Old h0 g
  hw : h0.next ≤ w
  g2 : 2 ≤ g.n0
set_option maxRecDepth 100000 in
theorem new_round {h0 : Heap} {b1 w n : Nat} {p q : Int} {N : Nat} (hn : n ≤ 16) {k : Nat} {y : Nat → Value} {g : Heap} (I : NL h0 b1 w n p q N k y g) :
    Rnd 39 (NL h0 b1 w n p q N) (fun ex y g => ex = .exit 0 ∧ y 4 = ptr w 0 ∧ Old h0 g ∧ Wd g w n) k (t30l30_111010 CW y g) := by
  obtain ⟨hk, y1, y4, y14, y15, ⟨v, cells, gw, oc, dl, hbv⟩, sb, wN, bN, bw, n0, nN, og, hw, g2⟩ := I
  unfold t30l30_111010
  simp -implicitDefEqProofs only [y14, y15, pu_some, thenV_some, bin_lss]
  by_cases hz : k = 0
  · have hd : ¬ (((n - k : Nat) : Int) < (n : Int)) := by omega
    simp -implicitDefEqProofs only [decide_eq_false hd]
    rw [hz, Nat.sub_zero] at oc dl
    refine Rnd.out 0 ⟨rfl, ?_, og, ⟨p, 8, q, v, N, cells, gw, oc, dl⟩⟩
    simp only [up_cons, up_nil, Nat.reduceEqDiff, if_false, y4]
  have hd : (((n - k : Nat) : Int) < (n : Int)) := by omega
  obtain ⟨d, bb, h1, e87, dq, o1, hdd, hbb⟩ := r87 (h := g) g2
  have lsb : ld1 (ptr b1 1) g = some (.int .i64 8, g) := ld1_at sb rfl
  have gw1 : h1.get w = some (wdC p 8 q v) := o1.getE gw (fun h => h)
  have vv : isHole v = false ∧ v.cells = #[v] ∧ v.oneCell' = true := by
    obtain ⟨_, _, _, h4⟩ := oc
    rcases h4 with ⟨rfl, _⟩ | ⟨b, s, rfl, _⟩ <;> exact ⟨rfl, rfl, rfl⟩
  have lv : ld1 (ptr w 3) h1 = some (v, h1) := ld1_at gw1 rfl vv.1
  let K : List Value := [ptr d 0, .pointer none, .bool false]
  have hbl : bldR [(.pointer none), (.pointer none), (.bool false)] [(0, 1, ptr d 0)] = some (.agg K.toArray) := rfl
  have hbs : bslR 3 (.agg #[(.pointer none), (.pointer none), (.bool false)]) 1 [(0, .agg K.toArray)] h1 = some (.slice (some ⟨h1.next, 0, none⟩) 1 1, h1.alloc K) := rfl
  have g9 : (h1.alloc K).get h1.next = some K := by rw [Heap.get_alloc, if_pos rfl]
  have k9 : Old h1 (h1.alloc K) := Kept.alloc _ _ _
  have n9 : (h1.alloc K).next = h1.next + 1 := Heap.next_alloc ..
  have o9 : Old g (h1.alloc K) := o1.trans k9
  have oc9 := oc.keep o9 (fun _ _ h => h)
  obtain ⟨v', hA, x1, x2, x3, x4⟩ := append_own (by_ := 24) (m := 1) oc9 (by rw [o9.n0]; omega) (by have := o9.next; omega) (by decide) (x := .slice (some ⟨h1.next, 0, none⟩) 1 1) rfl (firstA_one g9 rfl (by decide) rfl) rfl rfl rfl (by omega) (by omega)
  have kA : Kept (h1.alloc K) hA (fun c => baseOf v = some c) := x3.mono fun _ _ h => h.1
  have hbase : ∀ b, baseOf v = some b → N ≤ b := fun b hb => oc.base hb
  have gwA : hA.get w = some (wdC p 8 q v) := kA.getE (k9.getE gw1 (fun h => h)) (fun hh => by have := hbase _ hh; omega)
  have vv' : isHole v' = false ∧ v'.cells = #[v'] ∧ v'.oneCell' = true := by
    obtain ⟨_, _, _, h4⟩ := x2
    rcases h4 with ⟨rfl, _⟩ | ⟨b, s, rfl, _⟩ <;> exact ⟨rfl, rfl, rfl⟩
  have n0A : hA.n0 ≤ w := by rw [kA.n0, o9.n0]; exact n0
  let hB := hA.set w (wdC p 8 q v')
  have st : stN 1 (ptr w 3) v' hA = some (undef, hB) := stN1_at gwA (by simp [wdC]) n0A vv'.2.1 vv'.2.2
  have kB : Kept hA hB (fun c => c = w) := Kept.set n0A gwA (.inr rfl)
  have gwB : hB.get w = some (wdC p 8 q v') := Heap.get_set_same n0A gwA _
  have nB : hB.next = hA.next := Heap.next_set ..
  have w9 : IntKind.wrap .i64 (((n - k : Nat) : Int) + 1) = ((n - (k - 1) : Nat) : Int) := by rw [wrap_i64 (by omega) (by omega)]; omega
  have z1 : extractA (.tuple #[ptr d 0, .int .i64 0]) 0 = some (ptr d 0) := rfl
  have z2 : extractA (.tuple #[ptr d 0, .int .i64 0]) 1 = some (.int .i64 0) := rfl
  simp -implicitDefEqProofs only [decide_eq_true hd, y1, y4, addP_ptr, Nat.zero_add, Nat.reduceAdd, lsb, pu_some, thenV_some, e87, z1, z2, neq31, bne_self_eq_false, nilCheck_ptr, lv, hbl, hbs, x1, st, bin_add, w9]
  have base' : ∀ b, baseOf v' = some b → b < hB.next := by
    intro b hb'
    rw [nB]
    rcases x4 with rfl | ⟨h1', h2'⟩
    · have := hbv b hb'; have := o9.next; have := kA.next; omega
    · rw [h1'] at hb'; cases hb'; exact h2'
  have wlt := g.lt_of_get gw
  have fresh : ∀ b, g.next ≤ b → b < h1.next → b < hB.next ∧ baseOf v' ≠ some b ∧ b ≠ w := by
    intro b hb1 hb2
    refine ⟨by rw [nB]; have := kA.next; omega, fun hh => ?_, by omega⟩
    rcases x4 with rfl | ⟨h1', _⟩
    · have := hbv b hh; omega
    · rw [h1'] at hh; cases hh; omega
  have dlt : d < h1.next := by obtain ⟨r, hr⟩ := dq.hd; exact h1.lt_of_get hr
  have blt : bb < h1.next := h1.lt_of_get dq.img
  have dqB : Dq hB d bb 8 blk8 := ((dq.keep k9 (fun h => h) (fun h => h)).keep kA (fun hh => by have := hbv _ hh; omega) (fun hh => by have := hbv _ hh; omega)).keep kB (fun hh => by have hh : d = w := hh; omega) (fun hh => by have hh : bb = w := hh; omega)
  have prev : DL hB (fun b => b < hB.next ∧ baseOf v' ≠ some b ∧ b ≠ w) cells (n - k) := by
    refine (((dl.keep o9 (fun _ _ h => h)).keep kA (fun b hb1 hb2 => hb1.2.1 hb2)).keep kB (fun b hb1 hb2 => hb1.2.2 hb2)).mono fun b hb1 => ⟨?_, ?_, hb1.2.2⟩
    · rw [nB]; have := o9.next; have := kA.next; omega
    · intro hb2
      rcases x4 with rfl | ⟨h1', _⟩
      · exact hb1.2.1 hb2
      · rw [h1'] at hb2; cases hb2; have := o9.next; omega
  have hn1 : n - (k - 1) = n - k + 1 := by omega
  have sbB : hB.get b1 = some (setC p 8 q) := kB.getE (kA.getE (o9.getE sb (fun h => h)) (fun hh => by have := hbase _ hh; omega)) bw
  refine Rnd.next (k - 1) (by omega) ⟨by omega, ?_, ?_, ?_, ?_, ⟨v', cells ++ K, gwB, ?_, ?_, base'⟩, sbB, wN, bN, bw, ?_, ?_, ?_, hw, ?_⟩
  · simp only [up_cons, up_nil, Nat.reduceEqDiff, if_false, y1]
  · simp only [up_cons, up_nil, Nat.reduceEqDiff, if_false, y4]
  · simp only [up_cons, up_nil, Nat.reduceEqDiff, if_false, y14]
  · simp only [up_cons, up_nil, Nat.reduceEqDiff, if_false, if_true]
  · rw [hn1]
    refine x2.keep kB (fun b hb hh => ?_)
    have hh : b = w := hh
    have := x2.base hb
    omega
  · rw [hn1]
    exact prev.snoc dqB (fresh d hdd dlt) (fresh bb hbb blt)
  · rw [kB.n0]; exact n0A
  · rw [nB]; have := kA.next; have := o9.next; omega
  · refine ((og.trans o9).also kA (fun d hd hh => ?_)).also kB (fun d hd hh => by have hh : d = w := hh; omega)
    have := hbase _ hh
    omega
  · rw [kB.n0, kA.n0, o9.n0]; exact g2
end
end Go.Proofs.YtdmnphocgfnlpaaGreatDoor

namespace Go.Proofs.YtdmnphocgfnlpaaGreatDoor
open Go Go.Abs
noncomputable section
theorem valid_range' {p b q : Int} (h : validS p b q = true) : (2 ≤ p ∧ p ≤ 16) ∧ (4 ≤ b ∧ b ≤ 4096) ∧ 0 ≤ q ∧ q ≤ 4294967295 := by
  unfold validS at h
  simp only [Bool.and_eq_true, decide_eq_true_eq] at h
  obtain ⟨⟨⟨⟨⟨b1, b2⟩, b3⟩, b4⟩, b5⟩, b6⟩ := h
  omega
theorem nw44 (b : Nat) : bin Tryz.prog .eql 44 (ptr b 0) (.pointer none) = some (.bool false) := by kernel_rfl
/-- What New gives. -/
def NewR (p q : Int) (h : Heap) (r : Value × Heap) : Prop := (validS p 8 q = true ∧ ∃ w h', r = (.tuple #[ptr w 0, .int .i64 0], h') ∧ Old h h' ∧ Wd h' w p.toNat) ∨ (validS p 8 q = false ∧ ∃ h', r = (.tuple #[.pointer none, .int .i64 2], h') ∧ Old h h')
set_option maxRecDepth 100000 in
/-- New, of disks of eight blocks. -/
theorem r30 {h : Heap} (hG : 2 ≤ h.n0) (p q : Int) : ∃ r : Value × Heap, CW 30 [.agg (setC p 8 q).toArray] h = some r ∧
    NewR p q h r := by
  suffices hh : ∃ r : Value × Heap, t30 CW (.agg (setC p 8 q).toArray) h = some r ∧
    NewR p q h r by
    obtain ⟨r, h1, h2⟩ := hh
    exact ⟨r, CW_body is30 hG rfl ((t30_eq _ _ _).trans h1), h2⟩
  let ha := h.alloc (setC p 8 q)
  have oa : Old h ha := Kept.alloc _ _ _
  have na : ha.next = h.next + 1 := Heap.next_alloc ..
  have ga : ha.get h.next = some (setC p 8 q) := by rw [Heap.get_alloc, if_pos rfl]
  obtain ⟨hb, e12, oab⟩ := r12 (h := ha) hG p 8 q
  have ob : Old h hb := oa.trans oab
  have gb : hb.get h.next = some (setC p 8 q) := oab.getE ga (fun h => h)
  unfold t30
  simp -implicitDefEqProofs only [box_set, show h.alloc (setC p 8 q) = ha from rfl, thenV_some, ldSet ga, e12, unA_not, pu_some]
  by_cases hv : validS p 8 q = true
  rotate_left
  · have hv' : validS p 8 q = false := by simpa using hv
    simp -implicitDefEqProofs only [hv', Bool.not_false]
    exact ⟨_, rfl, .inr ⟨hv', hb, rfl, ob⟩⟩
  obtain ⟨⟨v1, v2⟩, _⟩ := valid_range' hv
  have hbl : bldR [(.int .i64 0), (.int .i64 0), (.int .i64 0), (.slice none 0 0), (.slice none 0 0), (.slice none 0 0), (.slice none 0 0), (.int .u64 0)] [(0, 3, .agg (setC p 8 q).toArray)] = some (.agg (wdC p 8 q (.slice none 0 0)).toArray) := rfl
  let hc := hb.alloc (wdC p 8 q (.slice none 0 0))
  have nc : hc.next = hb.next + 1 := Heap.next_alloc ..
  have bc : box (.agg (wdC p 8 q (.slice none 0 0)).toArray) hb = some (ptr hb.next 0, hc) := box_at hb _ rfl
  have gw : hc.get hb.next = some (wdC p 8 q (.slice none 0 0)) := by rw [Heap.get_alloc, if_pos rfl]
  have obc : Old hb hc := Kept.alloc _ _ _
  have gc : hc.get h.next = some (setC p 8 q) := obc.getE gb (fun h => h)
  have lp : ld1 (ptr h.next 0) hc = some (.int .i64 p, hc) := ld1_at gc rfl
  have lnb := hb.lt_of_get gb
  have n0 := h.n0_le_next
  have hpn : p = ((p.toNat : Nat) : Int) := (Int.toNat_of_nonneg (by omega)).symm
  simp -implicitDefEqProofs only [hv, Bool.not_true, ldSet gb, thenV_some, hbl, bc, pu_some, addP_ptr, Nat.zero_add, lp]
  refine endL_fin (n := 39) (fin := fun ex y g => ex = .exit 0 ∧ y 4 = ptr hb.next 0 ∧ Old h g ∧ Wd g hb.next p.toNat) (Q := fun o : Out => ∃ r : Value × Heap, o = some r ∧
    NewR p q h r)
    (loop_fin (t30l30_111010_eq CW) (Inv := fun k y g => NL h h.next hb.next p.toNat p q hc.next k y g) (fun k y g I => new_round (by omega) I) p.toNat (by have : rounds = 18446744073709551616 := rfl; omega) ?_) ?_
  · refine ⟨Nat.le_refl _, rfl, rfl, by rw [← hpn]; rfl, by rw [Nat.sub_self]; rfl, ⟨.slice none 0 0, [], gw, ?_, ?_, fun b hb => by cases hb⟩, gc, by omega, by omega, by omega, ?_, Nat.le_refl _, ob.trans obc, by omega, ?_⟩
    · rw [Nat.sub_self]; exact OwnC.nil _ _ _
    · rw [Nat.sub_self]; exact ⟨rfl, fun i hi => absurd hi (Nat.not_lt_zero i)⟩
    · rw [(ob.trans obc).n0]; omega
    · rw [(ob.trans obc).n0]; exact hG
  · rintro ex y g ⟨rfl, y4, og, wd⟩
    refine ⟨(.tuple #[ptr hb.next 0, .int .i64 0], g), ?_, .inl ⟨hv, hb.next, g, rfl, og, wd⟩⟩
    rw [endL_exit]
    unfold b30_7
    rw [if_pos rfl, t30k30_5_eq]
    unfold t30k30_5
    simp -implicitDefEqProofs only [y4, thenV_some]
/-- The slots of a world. -/
theorem Wd.slots {h : Heap} {w n : Nat} (x : Wd h w n) : ∃ v, ld1 (ptr w 3) h = some (v, h) ∧ lenL v = some (.int .i64 n) ∧ ∀ i, i < n → ∃ s o d bb, idxS 3 v (.int .i64 (i : Int)) = some (ptr s o) ∧ ld1 (ptr s o) h = some (ptr d 0, h) ∧ ld1 (ptr s (o + 1)) h = some (.pointer none, h) ∧ Dq h d bb 8 blk8 := by
  obtain ⟨p, b, q, v, N, cells, gw, ⟨o1, o2, o3, o4⟩, dl⟩ := x.ex
  have hv : isHole v = false := by rcases o4 with ⟨rfl, _⟩ | ⟨b, s, rfl, _⟩ <;> rfl
  refine ⟨v, ld1_at gw rfl hv, ?_, fun i hi => ?_⟩
  · rcases o4 with ⟨rfl, h4⟩ | ⟨b, s, rfl, _⟩
    · rw [h4]; rfl
    · rfl
  · obtain ⟨d, bb, hc, dq, _, _⟩ := dl.slot i hi
    rcases o4 with ⟨rfl, h4⟩ | ⟨b, s, rfl, h5, ⟨rfl, h4⟩ | ⟨rfl, h6⟩⟩
    · omega
    · omega
    · have hidx : (0 : Int) ≤ (i : Int) ∧ (i : Int) < (n : Int) := by omega
      have hj : ∀ j, j < 3 → cells[0 + i * 3 + j]? = [ptr d 0, Value.pointer none, .bool false][j]? := by
        intro j hj
        rw [← hc, List.getElem?_take, if_pos hj, List.getElem?_drop]
        congr 1
        omega
      exact ⟨b, 0 + i * 3, d, bb, by simp only [idxS, hidx, and_self, if_true, Int.toNat_natCast], ld1_at h6 (hj 0 (by decide)) rfl, ld1_at h6 (hj 1 (by decide)) rfl, dq⟩
section
variable {h : Heap} (hG : 2 ≤ h.n0) {w n : Nat} (x : Wd h w n)
include hG x
theorem w60 (i : Int) : CW 60 [ptr w 0, .int .i64 i] h = some (.pointer none, h) := by
  obtain ⟨v, lv, ll, hs⟩ := x.slots
  refine CW_body is60' hG rfl ((t60_eq _ _ _ _).trans ?_)
  unfold t60
  simp -implicitDefEqProofs only [thenV_some, nw44, pu_some, bOf_bool, beq_self_eq_true, guardK_true, bin_lss, Bool.false_eq_true, if_false]
  by_cases c1 : i < 0
  · simp -implicitDefEqProofs only [decide_eq_true c1, bOf_bool, sT, guardK_false, thenV_some, if_true]
  simp -implicitDefEqProofs only [decide_eq_false c1, bOf_bool, beq_self_eq_true, guardK_true, thenV_some, nilCheck_ptr, pu_some, addP_ptr, Nat.zero_add, lv, ll, bin_geq, Bool.false_eq_true, if_false]
  by_cases c2 : i ≥ (n : Int)
  · simp -implicitDefEqProofs only [decide_eq_true c2, thenV_some]
  obtain ⟨m, rfl⟩ : ∃ m : Nat, i = (m : Int) := ⟨i.toNat, (Int.toNat_of_nonneg (by omega)).symm⟩
  obtain ⟨s, o, d, bb, e1, e2, e3, dq⟩ := hs m (by omega)
  simp -implicitDefEqProofs only [decide_eq_false c2, thenV_some, nilCheck_ptr, pu_some, addP_ptr, Nat.zero_add, lv, e1, e3]
theorem w28 (i : Int) : ∃ v h', CW 28 [ptr w 0, .int .i64 i] h = some (v, h') ∧ Old h h' ∧ ∃ m : Nat, lenL v = some (.int .i64 (m : Int)) ∧ (decide ((m : Int) ≠ 0) = (decide (i ≥ 0) && decide (i < (n : Int)))) := by
  obtain ⟨v, lv, ll, hs⟩ := x.slots
  have start : ∀ {r : Value × Heap}, t28 CW (ptr w 0) (.int .i64 i) h = some r → CW 28 [ptr w 0, .int .i64 i] h = some r := fun e => CW_body is28 hG rfl ((t28_eq _ _ _ _).trans e)
  by_cases c1 : i < 0
  · refine ⟨.slice none 0 0, h, start ?_, Kept.refl _ _, 0, rfl, ?_⟩
    · unfold t28
      simp -implicitDefEqProofs only [thenV_some, nw44, pu_some, bOf_bool, beq_self_eq_true, guardK_true, bin_lss, Bool.false_eq_true, if_false, decide_eq_true c1, sT, guardK_false, if_true]
    · rw [decide_eq_false (by omega : ¬ i ≥ 0)]; rfl
  by_cases c2 : i ≥ (n : Int)
  · refine ⟨.slice none 0 0, h, start ?_, Kept.refl _ _, 0, rfl, ?_⟩
    · unfold t28
      simp -implicitDefEqProofs only [thenV_some, nw44, pu_some, bOf_bool, beq_self_eq_true, guardK_true, bin_lss, Bool.false_eq_true, if_false, decide_eq_false c1, nilCheck_ptr, addP_ptr, Nat.zero_add, lv, ll, bin_geq, decide_eq_true c2]
    · rw [decide_eq_false (by omega : ¬ i < (n : Int)), Bool.and_false]; rfl
  obtain ⟨m, rfl⟩ : ∃ m : Nat, i = (m : Int) := ⟨i.toNat, (Int.toNat_of_nonneg (by omega)).symm⟩
  obtain ⟨s, o, d, bb, e1, e2, e3, dq⟩ := hs m (by omega)
  obtain ⟨g, f1, f2, f3, f4⟩ := t86_is CW dq
  have e86 : CW 86 [ptr d 0] h = some (.slice (some ⟨h.next, 0, none⟩) 1024 1024, g) := CW_body is86 hG rfl ((t86_eq _ _ _).trans f1)
  refine ⟨.slice (some ⟨h.next, 0, none⟩) 1024 1024, g, start ?_, ⟨f2, ?_, fun c hc _ => f4 c (by omega)⟩, 1024, rfl, ?_⟩
  · unfold t28
    simp -implicitDefEqProofs only [thenV_some, nw44, pu_some, bOf_bool, beq_self_eq_true, guardK_true, bin_lss, Bool.false_eq_true, if_false, decide_eq_false c1, nilCheck_ptr, addP_ptr, Nat.zero_add, Nat.add_zero, lv, ll, bin_geq, decide_eq_false c2, e1, e2, e86]
  · have := g.lt_of_getB f3
    omega
  · rw [decide_eq_true (by omega : (m : Int) ≥ 0), decide_eq_true (by omega : (m : Int) < (n : Int))]; rfl
end
end
end Go.Proofs.YtdmnphocgfnlpaaGreatDoor

namespace Go.Proofs.YtdmnphocgfnlpaaGreatDoor
open Go Go.Abs
noncomputable section
def zs32 : List Value := List.replicate 32 (.int .u8 0)
def st0 : List Value := [.bool false, .bool false, .int .i64 0, .int .i64 0, .slice none 0 0, .int .i64 0]
theorem results89 : Tryz.f89.results.toList = [.cell 4 65] := by kernel_rfl
theorem results34 : Tryz.f34.results.toList = [.cell 6 65] := by kernel_rfl
theorem agg65 : aggT Tryz.prog 65 = some true := by kernel_rfl
theorem siz65 : sizeT Tryz.prog 65 = some 6 := by kernel_rfl
theorem chkZ (g : Heap) : chkR true (some (.agg zs32.toArray, g)) (.agg zs32.toArray) = true := by
  show veq (.agg zs32.toArray) (.agg zs32.toArray) = true
  kernel_rfl
theorem box_z (h : Heap) : box (.agg zs32.toArray) h = some (ptr h.next 0, h.alloc zs32) := box_at h zs32 (by kernel_rfl)
theorem bld_st : bldR st0 [] = some (.agg st0.toArray) := rfl
theorem bld_z : bldR (List.replicate 32 (.int .u8 0)) [] = some (.agg zs32.toArray) := rfl
theorem is7 : IsFn Tryz.prog 7 Tryz.f7 := ⟨by kernel_rfl, by kernel_rfl, by kernel_rfl, by kernel_rfl⟩
section
variable {h : Heap} (hG : 2 ≤ h.n0)
include hG
set_option maxRecDepth 100000 in
theorem n89 : ∃ h', CW 89 [.pointer none, .agg zs32.toArray] h = some (.agg st0.toArray, h') ∧ Old h h' := by
  let h1 := h.alloc zs32
  let h2 := h1.alloc st0
  have g2 : h2.get h1.next = some st0 := by rw [Heap.get_alloc, if_pos rfl]
  have n1 : h1.n0 ≤ h1.next := h1.n0_le_next
  have o1 : Old h h1 := Kept.alloc _ _ _
  have o2 : Old h1 h2 := Kept.alloc _ _ _
  have st : stN 6 (ptr h1.next 0) (.agg st0.toArray) h2 = some (undef, h2.set h1.next st0) := stN_whole g2 n1 rfl rfl rfl
  have g3 : (h2.set h1.next st0).get h1.next = some st0 := Heap.get_set_same (h := h2) n1 g2 _
  have k3 : Kept h2 (h2.set h1.next st0) (fun c => c = h1.next) := Kept.set (h := h2) n1 g2 (.inr rfl)
  have l3 : ldN 6 (ptr h1.next 0) (h2.set h1.next st0) = some (.agg st0.toArray, h2.set h1.next st0) := ldN_all g3 rfl rfl
  have oo : Old h (h2.set h1.next st0) := (o1.trans o2).also k3 (fun d hd hh => by have hh : d = h1.next := hh; have := o1.next; omega)
  refine ⟨h2.set h1.next st0, CW_body is89 hG rfl ((t89_eq _ _ _ _).trans ?_), oo⟩
  unfold t89
  simp -implicitDefEqProofs only [box_z, thenV_some, newC_eq, show h.alloc zs32 = h1 from rfl, show [Value.bool false, .bool false, .int .i64 0, .int .i64 0, .slice none 0 0, .int .i64 0] = st0 from rfl, show h1.alloc st0 = h2 from rfl, n112 (h := h2) hG, neq31, show ((1 : Int) != 0) = true from rfl, bld_st, pu_some, st]
  exact res_cell results89 agg65 siz65 (by decide) _ (by simp only [up_cons, up_nil, Nat.reduceEqDiff, if_false, if_true]; exact l3)
set_option maxRecDepth 100000 in
theorem w34 {w n : Nat} (x : Wd h w n) (i : Int) : ∃ h', CW 34 [ptr w 0, .int .i64 i, .agg zs32.toArray] h = some (.agg st0.toArray, h') ∧ Old h h' := by
  let h1 := h.alloc zs32
  let h2 := h1.alloc st0
  have o1 : Old h h1 := Kept.alloc _ _ _
  have o2 : Old h1 h2 := Kept.alloc _ _ _
  have g1 : h2.get h.next = some zs32 := o2.getE (show h1.get h.next = some zs32 by rw [Heap.get_alloc, if_pos rfl]) (fun h => h)
  have g2 : h2.get h1.next = some st0 := by rw [Heap.get_alloc, if_pos rfl]
  have n1 : h1.n0 ≤ h1.next := h1.n0_le_next
  have e60 := w60 (h := h2) hG (x.old (o1.trans o2)) i
  have lz : ldN 32 (ptr h.next 0) h2 = some (.agg zs32.toArray, h2) := ldN_all g1 (by kernel_rfl) (by kernel_rfl)
  obtain ⟨h3, e89, o3⟩ := n89 (h := h2) hG
  have g3 : h3.get h1.next = some st0 := o3.getE g2 (fun h => h)
  have n3 : h3.n0 ≤ h1.next := by rw [o3.n0]; exact n1
  have st : stN 6 (ptr h1.next 0) (.agg st0.toArray) h3 = some (undef, h3.set h1.next st0) := stN_whole g3 n3 rfl rfl rfl
  have g4 : (h3.set h1.next st0).get h1.next = some st0 := Heap.get_set_same n3 g3 _
  have k4 : Kept h3 (h3.set h1.next st0) (fun c => c = h1.next) := Kept.set n3 g3 (.inr rfl)
  have l4 : ldN 6 (ptr h1.next 0) (h3.set h1.next st0) = some (.agg st0.toArray, h3.set h1.next st0) := ldN_all g4 rfl rfl
  have oo : Old h (h3.set h1.next st0) := ((o1.trans o2).trans o3).also k4 (fun d hd hh => by have hh : d = h1.next := hh; have := o1.next; omega)
  refine ⟨h3.set h1.next st0, CW_body is34 hG rfl ((t34_eq _ _ _ _ _).trans ?_), oo⟩
  unfold t34
  simp -implicitDefEqProofs only [box_z, thenV_some, newC_eq, show h.alloc zs32 = h1 from rfl, show [Value.bool false, .bool false, .int .i64 0, .int .i64 0, .slice none 0 0, .int .i64 0] = st0 from rfl, show h1.alloc st0 = h2 from rfl, e60, lz, e89, st, chkZ, Bool.and_self]
  exact res_cell results34 agg65 siz65 (by decide) _ (by simp only [up_cons, up_nil, Nat.reduceEqDiff, if_false, if_true]; exact l4)
end
theorem neq_bool (a b : Bool) : bin Tryz.prog .neq 4 (.bool a) (.bool b) = some (.bool (a != b)) := by cases a <;> cases b <;> kernel_rfl
theorem eql_bool2 (a b : Bool) : bin Tryz.prog .eql 4 (.bool a) (.bool b) = some (.bool (a == b)) := by cases a <;> cases b <;> kernel_rfl
theorem nnw (b : Nat) : bin Tryz.prog .neq 44 (ptr b 0) (.pointer none) = some (.bool true) := by kernel_rfl
theorem nnn : bin Tryz.prog .neq 44 (.pointer none) (.pointer none) = some (.bool false) := by kernel_rfl
theorem z30 : validS 3 8 10 = true := by kernel_rfl
theorem valid8 (i : Int) : validS i 8 0 = (decide (i ≥ 2) && decide (i ≤ 16)) := by
  unfold validS
  rw [decide_eq_true (by decide : (8 : Int) ≥ 4), decide_eq_true (by decide : (8 : Int) ≤ 4096), decide_eq_true (by decide : (0 : Int) ≥ 0), decide_eq_true (by decide : (0 : Int) ≤ 4294967295)]
  simp
set_option maxRecDepth 100000 in
set_option maxHeartbeats 2000000 in
theorem r7 {h : Heap} (hG : 2 ≤ h.n0) (hz : h.get 1 = some roundsL) (i : Int) {cs : List Value} {e : Ev} (he : EvAt h (fun _ => True) cs e) :
    ∃ h', CW 7 [.int .i64 i, .agg cs.toArray] h = some (.bool true, h') := by
  obtain ⟨a, c, hc, hb, _, _⟩ := he
  subst hc
  suffices hh : ∃ r : Value × Heap, t7 CW (.int .i64 i) (.agg (evc e (.slice a e.data.length c)).toArray) h = some r ∧ r.1 = .bool true by
    obtain ⟨⟨r, h'⟩, h1, h2⟩ := hh
    have h2 : r = .bool true := h2
    subst h2
    exact ⟨h', CW_body is7 hG rfl ((t7_eq _ _ _ _).trans h1)⟩
  let K := evc e (.slice a e.data.length c)
  let ha := h.alloc K
  have oa : Old h ha := Kept.alloc _ _ _
  have ga : ha.get h.next = some K := by rw [Heap.get_alloc, if_pos rfl]
  have l5 : ld1 (ptr h.next 5) ha = some (.slice a e.data.length c, ha) := ld1_at ga rfl
  have hza : ha.get 1 = some roundsL := oa.getE hz (fun h => h)
  unfold t7
  simp -implicitDefEqProofs only [box_ev, show h.alloc (evc e (.slice a e.data.length c)) = ha from rfl, thenV_some, addP_ptr, Nat.zero_add, l5, lenL_slice, pu_some, bin_gtr]
  by_cases h9 : (e.data.length : Int) > 9000
  · simp -implicitDefEqProofs only [decide_eq_true h9, r8 hza, thenV_some]
    exact ⟨(.bool true, ha), rfl, rfl⟩
  have ld6 : ldN 6 (ptr h.next 0) ha = some (.agg K.toArray, ha) := ldN_all ga rfl rfl
  obtain ⟨h1, e19, o1⟩ := n19 (h := ha) hG e a e.data.length c
  have G1 : 2 ≤ h1.n0 := by rw [o1.n0]; exact hG
  obtain ⟨h2, e27, o2⟩ := n27 (h := h1) G1
  have G2 : 2 ≤ h2.n0 := by rw [o2.n0]; exact G1
  have e28 := n28 (h := h2) G2 (.int .i64 0)
  have e29 := p29 (h := h2) G2 (n60 (h := h2) G2 (.int .i64 0))
  obtain ⟨⟨rv, h3⟩, e30, N3⟩ := r30 (h := h2) G2 3 10
  rcases N3 with ⟨_, w, h3', hr, o3, W⟩ | ⟨hf, _⟩
  rotate_left
  · rw [z30] at hf; cases hf
  cases hr
  have G3 : 2 ≤ h3.n0 := by rw [o3.n0]; exact G2
  obtain ⟨v4, h4, e28w, o4, m, hm, hmd⟩ := w28 (h := h3) G3 W i
  have G4 : 2 ≤ h4.n0 := by rw [o4.n0]; exact G3
  have W4 := W.old o4
  have e60 := w60 (h := h4) G4 W4 i
  obtain ⟨h5, e34, o5⟩ := w34 (h := h4) G4 W4 i
  have G5 : 2 ≤ h5.n0 := by rw [o5.n0]; exact G4
  obtain ⟨⟨rv, h6⟩, e30b, N6⟩ := r30 (h := h5) G5 i 0
  have bs : ∀ p q : Int, bldR [(.int .i64 0), (.int .i64 0), (.int .i64 0)] [(0, 1, (.int .i64 p)), (1, 1, (.int .i64 8)), (2, 1, (.int .i64 q))] = some (.agg (setC p 8 q).toArray) := fun _ _ => rfl
  have bs2 : bldR [(.int .i64 0), (.int .i64 0), (.int .i64 0)] [(0, 1, (.int .i64 i)), (1, 1, (.int .i64 8))] = some (.agg (setC i 8 0).toArray) := rfl
  have x0 : extractA (.tuple #[ptr w 0, .int .i64 0]) 0 = some (ptr w 0) := rfl
  have x1 : extractA (.tuple #[ptr w 0, .int .i64 0]) 1 = some (.int .i64 0) := rfl
  have hne : ((m : Int) != 0) = (decide (i ≥ 0) && decide (i < ((3 : Int).toNat : Int))) := by
    rw [← hmd]
    by_cases h0 : (m : Int) = 0
    · rw [decide_eq_false (by omega), h0]; rfl
    · rw [decide_eq_true h0]; simpa using h0
  have t3 : (((3 : Int).toNat : Nat) : Int) = 3 := rfl
  rw [t3] at hne
  have fst : fld1 0 (.agg st0.toArray) = some (.bool false) := rfl
  simp -implicitDefEqProofs only [decide_eq_false h9, ld6, show K = evc e (.slice a e.data.length c) from rfl, e19, thenV_some, bOf_bool, beq_self_eq_true, guardK_true, n20 G1, n21 G1, n22 G1, n23 G1, n24 G1, n25 G1, n26 G1, e27, e28, e29, lenL_slice, pu_some, show ((0 : Nat) : Int) = 0 from rfl, neq_selfI, Bool.false_eq_true, if_false, bs, e30, x0, x1, neq31, bne_self_eq_false, e28w, hm, bin_neq, hne]
  have e20 : bin Tryz.prog .eql 31 (.int .i64 2) (.int .i64 0) = some (.bool false) := by rw [bin_eql]; rfl
  have fin : ∃ h7, CW 8 [] h6 = some (.bool true, h7) := by
    rcases N6 with ⟨_, w', h6', hr, o6, _⟩ | ⟨_, h6', hr, o6⟩ <;> (cases hr; exact ⟨_, r8 (((((oa.trans o1).trans o2).trans o3).trans ((o4.trans o5).trans o6)).getE hz (fun h => h))⟩)
  obtain ⟨h7, e8⟩ := fin
  have c1 : ∀ g, (thenV (guardK (bOf (.bool (decide (i ≥ 0))) == some true) (some (Value.int IntKind.i64 i, g)) g) fun y89 h => thenV (guardK (bOf (.bool (decide (i ≥ 0))) == some true) (pu (bin Tryz.prog .lss 3 y89 (.int .i64 3)) h) h) fun y90 h => some (if decide (i ≥ 0) = true then y90 else .bool false, h)) = some (.bool (decide (i ≥ 0) && decide (i < 3)), g) := by
    intro g
    rcases decide (i ≥ 0) with _ | _
    · simp -implicitDefEqProofs only [bOf_bool, sF, guardK_false, thenV_some, Bool.false_eq_true, if_false, Bool.false_and]
    · simp -implicitDefEqProofs only [bOf_bool, beq_self_eq_true, guardK_true, thenV_some, bin_lss, pu_some, if_true, Bool.true_and]
  rcases hb0 : decide (i ≥ 0) with _ | _ <;> rcases hb3 : decide (i < 3) with _ | _ <;>
    simp -implicitDefEqProofs only [bin_geq, bin_lss, hb0, hb3, pu_some, thenV_some, bOf_bool, sF, sT, beq_self_eq_true, guardK_true, guardK_false, Bool.false_eq_true, if_false, if_true, Bool.false_and, Bool.true_and, Bool.and_false, neq_bool, bne_self_eq_false,
      p31 G4 e60, p32 G4 e60, p33 G4 e60, p29 G4 e60, neq_selfI, lenL_slice, show ((0 : Nat) : Int) = 0 from rfl, bld_z, e34, fst, bs2, e30b]
  all_goals
    rcases N6 with ⟨hv, w', h6', hr, o6, _⟩ | ⟨hv, h6', hr, o6⟩
    · cases hr
      rw [valid8, Bool.and_eq_true] at hv
      have y0 : extractA (.tuple #[ptr w' 0, .int .i64 0]) 0 = some (ptr w' 0) := rfl
      have y1 : extractA (.tuple #[ptr w' 0, .int .i64 0]) 1 = some (.int .i64 0) := rfl
      simp -implicitDefEqProofs only [y0, y1, pu_some, thenV_some, eql_selfN, hv.1, hv.2, bin_leq, bOf_bool, beq_self_eq_true, guardK_true, if_true, eql_bool2, nnw, sT, guardK_false, e8]
      exact ⟨(.bool true, h7), rfl, rfl⟩
    · cases hr
      rw [valid8] at hv
      have y0 : extractA (.tuple #[.pointer none, .int .i64 2]) 0 = some (.pointer none) := rfl
      have y1 : extractA (.tuple #[.pointer none, .int .i64 2]) 1 = some (.int .i64 2) := rfl
      rcases hb2 : decide (i ≥ 2) with _ | _ <;> rcases hb16 : decide (i ≤ 16) with _ | _ <;> rw [hb2, hb16] at hv <;> (try (cases hv; done)) <;>
        (simp -implicitDefEqProofs only [y0, y1, pu_some, thenV_some, eql_selfN, e20, hb2, hb16, bin_leq, bOf_bool, sF, sT, beq_self_eq_true, guardK_true, guardK_false, if_true, Bool.false_eq_true, if_false, eql_bool2, nnn, e8]; exact ⟨(.bool true, h7), rfl, rfl⟩)
end
end Go.Proofs.YtdmnphocgfnlpaaGreatDoor

