/-
  The journal: slices that grow; records.
  Conditions: as each theorem states.
  The journal: the record that stands at a position.
  Conditions: as each theorem states.
  The journal: what it answers.
  Conditions: as each theorem states.
  The journal: the Writer.
  Conditions: as each theorem states.
  The journal: what is written through a Writer; sealed blocks.
  Conditions: as each theorem states.
  The journal: a record's blocks are written.
  Conditions: as each theorem states.
  The journal: Append.
  Conditions: as each theorem states.
  The journal: Open: superblocks and generations.
  Conditions: as each theorem states.
  The journal: Open: entries.
  Conditions: as each theorem states.
  The journal: Rewrite.
  Conditions: as each theorem states.
  The journal: Rewrite, whole.
  Conditions: as each theorem states.
  The journal's plain law: what is written is what is read.
  Conditions: as each theorem states.
  The journal's plain law: with power, a Rewrite and an Append succeed, and what they lay is what Open finds.
  Conditions: as each theorem states.
  The journal's plain law: what Open finds; a Rewrite and an Append with power.
  Conditions: as each theorem states.
  A journal can not be used after a later Open nor after a loss of power: the walk.
  Conditions: as each theorem states.
  Lists of records in memory: own, datas, same.
  Conditions: as each theorem states.
  One changed byte breaks a block's checksum; Rot.
  Conditions: as each theorem states.
  The journal's plain law: a changed byte hides exactly the record.
  Conditions: as each theorem states.
  Parts of lists of records; the script that heavy is asked about.
  Conditions: as each theorem states.
  The reference's disk: New, Blocks, Block, Off, On, Wipe, Arm, Read.
  Conditions: as each theorem states.
  The reference's disk: Off, On, Wipe, Arm, Read, put, Write, Rot.
  Conditions: as each theorem states.
  The reference's disk: put, Write, Rot.
  Conditions: as each theorem states.
  The reference's Rot; Wipe; the two disks beside each other.
  Conditions: as each theorem states.
  The reference's numbers: Value, Crc, Right.
  Conditions: as each theorem states.
  The reference's journal: Area, ReadSuper, Active.
  Conditions: as each theorem states.
  The reference's journal: Active, ReadLog.
  Conditions: as each theorem states.
  The reference's journal: ReadLog.
  Conditions: as each theorem states.
  The reference's journal: the record that stands at a position.
  Conditions: as each theorem states.
-/
import Derived.Test.YtcmfgmhadeeieaaG7
namespace Go.Proofs.Ytcmfgmhadeeieaa
open Go Go.Abs

def baseOf : Value → Option Nat
  | .slice (some a) _ _ => some a.block
  | _ => none
/-- A slice that grows: nothing yet, or a block of its own. -/
def OwnC (h : Heap) (N size : Nat) (v : Value) (len : Nat) (cells : List Value) : Prop :=
  cells.length = len * size ∧ Abs.noHoles cells = true ∧ oneCells cells = true ∧
  ((v = .slice none 0 0 ∧ len = 0) ∨ ∃ b s, v = .slice (some ⟨b, 0, s⟩) len len ∧ N ≤ b ∧ ((s = none ∧ len = 0) ∨ (s = some size ∧ h.get b = some cells)))
theorem OwnC.nil (h : Heap) (N size : Nat) : OwnC h N size (.slice none 0 0) 0 [] := ⟨by simp, rfl, rfl, .inl ⟨rfl, rfl⟩⟩
theorem OwnC.empty (h : Heap) {N size b : Nat} (hb : N ≤ b) : OwnC h N size (.slice (some ⟨b, 0, none⟩) 0 0) 0 [] := ⟨by simp, rfl, rfl, .inr ⟨b, none, rfl, hb, .inl ⟨rfl, rfl⟩⟩⟩
theorem OwnC.keep {h h' : Heap} {N size : Nat} {v : Value} {len : Nat} {cells : List Value} (o : OwnC h N size v len cells) {B : Nat → Prop} (k : Kept h h' B) (hB : ∀ b, baseOf v = some b → ¬ B b) : OwnC h' N size v len cells := by
  obtain ⟨h1, h2, h3, h4⟩ := o
  refine ⟨h1, h2, h3, ?_⟩
  rcases h4 with h4 | ⟨b, s, rfl, h5, h6 | ⟨h6, h7⟩⟩
  · exact .inl h4
  · exact .inr ⟨b, s, rfl, h5, .inl h6⟩
  · exact .inr ⟨b, s, rfl, h5, .inr ⟨h6, k.getE h7 (hB b rfl)⟩⟩
theorem noHoles_append (a b : List Value) (ha : Abs.noHoles a = true) (hb : Abs.noHoles b = true) : Abs.noHoles (a ++ b) = true := by
  unfold Abs.noHoles at *
  rw [List.all_append, ha, hb]; rfl
theorem oneCells_append (a b : List Value) (ha : oneCells a = true) (hb : oneCells b = true) : oneCells (a ++ b) = true := by
  unfold oneCells at *
  rw [List.all_append, ha, hb]; rfl
theorem OwnC.base {h : Heap} {N size : Nat} {v : Value} {len : Nat} {cells : List Value} (o : OwnC h N size v len cells) {b : Nat} (hb : baseOf v = some b) : N ≤ b := by
  obtain ⟨_, _, _, ⟨rfl, _⟩ | ⟨b', s, rfl, h5, _⟩⟩ := o
  · cases hb
  · cases hb; exact h5
theorem append_own {h : Heap} {N size by_ len m : Nat} {v x : Value} {cells news : List Value} (o : OwnC h N size v len cells) (h0 : h.n0 ≤ N) (hN : N ≤ h.next) (_hs : 0 < size) (hx : lenA x = some m) (hf : firstA size m x h = some news)
    (h1 : oneCells news = true) (h2 : Abs.noHoles news = true) (hl : news.length = m * size) (hb : (len + m) * by_ ≤ 140737488355328) (hc : len + m ≤ 4611686018427387904) :
    ∃ v' h', appendA size by_ v x h = some (v', h') ∧ OwnC h' N size v' (len + m) (cells ++ news) ∧ Kept h h' (fun c => baseOf v = some c ∧ h.get c = some cells) ∧ (v' = v ∨ baseOf v' = some h.next) := by
  have o' := o
  obtain ⟨o1, o2, o3, o4⟩ := o
  have hcond : ∀ len' : Nat, len' = len → (!(oneCells news) || !(decide ((len' + m) * by_ ≤ 140737488355328)) || !(decide (len' + m ≤ 4611686018427387904)) || decide (news.length ≠ m * size)) = false := by
    rintro _ rfl
    rw [h1, decide_eq_true hb, decide_eq_true hc, decide_eq_false (by omega)]; rfl
  by_cases hm : m = 0
  · subst hm
    have hn : news = [] := List.length_eq_zero_iff.1 (by omega)
    subst hn
    have ho : OwnC h N size v (len + 0) (cells ++ []) := by rw [List.append_nil]; exact o'
    refine ⟨v, h, ?_, ho, Kept.refl _ _, .inl rfl⟩
    rcases o4 with ⟨rfl, rfl⟩ | ⟨b, s, rfl, h5, h6⟩
    · unfold appendA
      simp only [hx, hf]
      rw [if_neg (by rw [hcond 0 rfl]; decide), if_pos (by omega), if_pos trivial]
    · unfold appendA
      simp only [hx, hf]
      rw [if_neg (by rw [hcond len rfl]; decide), if_pos (by omega), if_pos trivial]
  · have fresh : ∀ cs : List Value, cs = [] → len = 0 → OwnC (h.alloc news) N size (.slice (some ⟨h.next, 0, some size⟩) (len + m) (len + m)) (len + m) (cs ++ news) := by
      rintro _ rfl rfl
      exact ⟨by simpa using hl, by simpa using h2, by simpa using h1, .inr ⟨h.next, _, rfl, hN, .inr ⟨rfl, by rw [Heap.get_alloc, if_pos rfl]; rfl⟩⟩⟩
    rcases o4 with ⟨rfl, rfl⟩ | ⟨b, s, rfl, h5, ⟨rfl, rfl⟩ | ⟨rfl, h6⟩⟩
    · have hce : cells = [] := List.length_eq_zero_iff.1 (by simpa using o1)
      refine ⟨_, _, ?_, fresh cells hce rfl, Kept.alloc _ _ _, .inr rfl⟩
      unfold appendA
      simp only [hx, hf]
      rw [if_neg (by rw [hcond 0 rfl]; decide), if_neg (by omega), if_pos trivial]
    · have hce : cells = [] := List.length_eq_zero_iff.1 (by simpa using o1)
      refine ⟨_, _, ?_, fresh cells hce rfl, Kept.alloc _ _ _, .inr rfl⟩
      unfold appendA
      simp only [hx, hf]
      have f0 : firstA size 0 (.slice (some ⟨b, 0, none⟩) 0 0) h = some [] := by simp [firstA]
      rw [if_neg (by rw [hcond 0 rfl]; decide), if_neg (by omega)]
      simp only [f0]
      rw [if_neg (by simp)]; rfl
    · have hf2 : firstA size len (.slice (some ⟨b, 0, some size⟩) len len) h = some cells := by
        simp only [firstA]
        by_cases hz : len * size = 0
        · rw [if_pos hz]
          have : cells = [] := List.length_eq_zero_iff.1 (by omega)
          rw [this]
        · rw [if_neg hz]
          simp only [h6]
          have e : (cells.drop 0).take (len * size) = cells := by rw [List.drop_zero, List.take_of_length_le (by omega)]
          simp only [e]
          rw [if_pos ⟨by omega, o2⟩]
      have hlt := h.lt_of_get h6
      have hk : ∀ c, c < h.next → c ≠ b → ((h.kill b).alloc (cells ++ news)).get c = h.get c := by
        intro c hc hne
        rw [Heap.get_alloc, if_neg (by rw [Heap.next_kill]; omega)]
        exact get_kill (by omega) hlt hne
      refine ⟨.slice (some ⟨h.next, 0, some size⟩) (len + m) (len + m), (h.kill b).alloc (cells ++ news), ?_, ⟨by rw [List.length_append, o1, hl, Nat.add_mul], noHoles_append _ _ o2 h2, oneCells_append _ _ o3 h1, .inr ⟨h.next, _, rfl, hN, .inr ⟨rfl, ?_⟩⟩⟩, ⟨rfl, by simp, fun c hc hB => hk c hc (fun e => hB (by rw [e]; exact ⟨rfl, h6⟩))⟩, .inr rfl⟩
      · unfold appendA
        simp only [hx, hf]
        rw [if_neg (by rw [hcond len rfl]; decide), if_neg (by omega)]
        simp only [hf2]
        rw [if_neg (by simp [o1]), if_pos (by simp [h6]; omega)]
      · rw [Heap.get_alloc, if_pos (by rw [Heap.next_kill])]

/-- Bytes that grow. -/
structure OwnB (h : Heap) (N : Nat) (v : Value) (l : List Nat) : Prop where
  own : OwnC h N 1 v l.length (l.map u8)
  byte : ∀ x ∈ l, x < 256
theorem OwnB.nil (h : Heap) (N : Nat) : OwnB h N (.slice none 0 0) [] := ⟨.nil h N 1, by simp⟩
theorem OwnB.keep {h h' : Heap} {N : Nat} {v : Value} {l : List Nat} (o : OwnB h N v l) {B : Nat → Prop} (k : Kept h h' B) (hB : ∀ b, baseOf v = some b → ¬ B b) : OwnB h' N v l := ⟨o.own.keep k hB, o.byte⟩
theorem OwnB.bytes {h : Heap} {N : Nat} {v : Value} {l : List Nat} (o : OwnB h N v l) : ∃ a c, v = .slice a l.length c ∧ sliceBytes a l.length h = some l ∧ goodS a l.length c = true ∧ (∀ y, a = some y → N ≤ y.block) ∧ (∀ y, a = some y → baseOf v = some y.block) := by
  obtain ⟨⟨o1, o2, o3, o4⟩, ob⟩ := o
  rcases o4 with ⟨rfl, h4⟩ | ⟨b, s, rfl, h5, ⟨rfl, h4⟩ | ⟨rfl, h6⟩⟩
  · have : l = [] := List.length_eq_zero_iff.1 h4
    subst this
    exact ⟨none, 0, rfl, rfl, rfl, fun y hy => (by cases hy), fun y hy => (by cases hy)⟩
  · have : l = [] := List.length_eq_zero_iff.1 h4
    subst this
    exact ⟨_, _, rfl, rfl, rfl, fun y hy => (by cases hy; exact h5), fun y hy => (by cases hy; rfl)⟩
  · refine ⟨_, _, rfl, ?_, ?_, fun y hy => by cases hy; exact h5, fun y hy => by cases hy; rfl⟩
    · have := sliceBytes_at (off := 0) (n := l.length) (s := some 1) h6 (by omega) ob
      rw [this, List.drop_zero, List.take_of_length_le (Nat.le_refl _)]
    · unfold goodS
      rw [Nat.ble_eq_true_of_le (Nat.le_refl _)]; rfl
theorem append_ownB {h : Heap} {N n c : Nat} {v : Value} {l m : List Nat} {a : Option Addr} (o : OwnB h N v l) (h0 : h.n0 ≤ N) (hN : N ≤ h.next) (hm : sliceBytes a n h = some m) (hb : l.length + n ≤ 100000000) :
    ∃ v' h', appendA 1 1 v (.slice a n c) h = some (v', h') ∧ OwnB h' N v' (l ++ m) ∧ Kept h h' (fun c => baseOf v = some c) ∧ (v' = v ∨ baseOf v' = some h.next) := by
  obtain ⟨hl, hbt, _⟩ := sliceBytes_spec hm
  have hf := firstA_of hm (Nat.le_refl n) (c := c)
  rw [List.take_of_length_le (by omega)] at hf
  obtain ⟨v', h', e1, e2, e3, e4⟩ := append_own (by_ := 1) o.own h0 hN (by decide) (show lenA (.slice a n c) = some n from rfl) hf (one_u8 _) (noHoles_u8 _) (by simp [hl]) (by omega) (by omega)
  refine ⟨v', h', e1, ⟨?_, ?_⟩, e3.mono (fun c _ hc => hc.1), e4⟩
  · rw [List.length_append, List.map_append, hl]; exact e2
  · intro x hx
    rcases List.mem_append.1 hx with hx | hx
    · exact o.byte x hx
    · exact hbt x hx

/-- A journal. -/
structure Jn where
  turn : Int
  slot : Int
  area : Nat
  gen : Nat
  known : Nat
  ready : Bool
  fin : Nat
def Jn.cells (J : Jn) (d : Nat) : Blk := [ptr d 0, .int .i64 J.turn, .int .i64 J.slot, i64n J.area, .int .u64 J.gen, .int .u64 J.known, .bool J.ready, i64n J.fin]
structure IsJn (h : Heap) (j d : Nat) (J : Jn) : Prop where
  get : h.get j = some (J.cells d)
  n0 : h.n0 ≤ j
  area : J.area ≤ 1
theorem Jn.plain (J : Jn) (d : Nat) : ∀ v ∈ J.cells d, nat8 v = none := by
  intro v hv
  simp only [Jn.cells, List.mem_cons, List.not_mem_nil, or_false] at hv
  rcases hv with rfl | rfl | rfl | rfl | rfl | rfl | rfl | rfl <;> rfl
theorem IsJn.keep {h h' : Heap} {j d : Nat} {J : Jn} (x : IsJn h j d J) {B : Nat → Prop} (k : Kept h h' B) (hB : ¬ B j) : IsJn h' j d J := ⟨k.getE x.get hB, k.n0 ▸ x.n0, x.area⟩
theorem IsJn.lt {h : Heap} {j d : Nat} {J : Jn} (x : IsJn h j d J) : j < h.next := h.lt_of_get x.get
section
variable {h : Heap} {j d : Nat} {J : Jn} (x : IsJn h j d J)
include x
theorem IsJn.l0 : ld1 (ptr j 0) h = some (ptr d 0, h) := ld1_at x.get rfl
theorem IsJn.l1 : ld1 (ptr j 1) h = some (.int .i64 J.turn, h) := ld1_at x.get rfl
theorem IsJn.l2 : ld1 (ptr j 2) h = some (.int .i64 J.slot, h) := ld1_at x.get rfl
theorem IsJn.l3 : ld1 (ptr j 3) h = some (i64n J.area, h) := ld1_at x.get rfl
theorem IsJn.l4 : ld1 (ptr j 4) h = some (.int .u64 J.gen, h) := ld1_at x.get rfl
theorem IsJn.l5 : ld1 (ptr j 5) h = some (.int .u64 J.known, h) := ld1_at x.get rfl
theorem IsJn.l6 : ld1 (ptr j 6) h = some (.bool J.ready, h) := ld1_at x.get rfl
theorem IsJn.l7 : ld1 (ptr j 7) h = some (i64n J.fin, h) := ld1_at x.get rfl
end

/-- The block of a position of an area. -/
def Dk.jb (D : Dk) (area at_ : Nat) : List Nat := D.blk (2 + area * D.ar + at_)
/-- The i-th block of a record of so many stands. -/
def Dk.part (D : Dk) (area gen at_ parts i : Nat) : Bool := logOk (at_ + i) (D.jb area (at_ + i)) && (logGen (D.jb area (at_ + i)) == gen) && (logPart (D.jb area (at_ + i)) == i) && (logParts (D.jb area (at_ + i)) == parts)
def Dk.parts (D : Dk) (area at_ : Nat) : Nat := logParts (D.jb area at_)
def Dk.stands (D : Dk) (area gen at_ : Nat) : Bool := decide (at_ + D.parts area at_ ≤ D.ar) && decide (1 ≤ D.parts area at_) && (List.range (D.parts area at_)).all (D.part area gen at_ (D.parts area at_))
def Dk.data (D : Dk) (area at_ n : Nat) : List Nat := (List.range n).flatMap fun i => logData (D.jb area (at_ + i))
theorem Dk.data_succ (D : Dk) (area at_ n : Nat) : D.data area at_ (n + 1) = D.data area at_ n ++ logData (D.jb area (at_ + n)) := by
  unfold Dk.data
  rw [List.range_succ, List.flatMap_append]
  simp
theorem Dk.data_length (D : Dk) (area at_ : Nat) : ∀ n, (D.data area at_ n).length ≤ 106 * n
  | 0 => by simp [Dk.data]
  | n + 1 => by
    rw [D.data_succ, List.length_append]
    have := D.data_length area at_ n
    have h2 : (logData (D.jb area (at_ + n))).length ≤ 106 := by
      unfold logData
      split
      · rw [List.length_take]; omega
      · simp
    omega
theorem Dk.not_stands {D : Dk} {area gen at_ i : Nat} (hi : i < D.parts area at_) (hp : D.part area gen at_ (D.parts area at_) i = false) : D.stands area gen at_ = false := by
  unfold Dk.stands
  have : (List.range (D.parts area at_)).all (D.part area gen at_ (D.parts area at_)) = false := by
    rw [List.all_eq_false]
    exact ⟨i, List.mem_range.2 hi, by rw [hp]; simp⟩
  rw [this, Bool.and_false]

theorem is57 : IsFn Try.prog 57 Try.f57 := ⟨by kernel_rfl, by kernel_rfl, by kernel_rfl, by kernel_rfl⟩
theorem bin58n (a b : Nat) : bin Try.prog .neq 58 (.int .u64 (a : Int)) (.int .u64 (b : Int)) = some (.bool (!(a == b))) := by
  rw [bin_neq]
  show some (Value.bool (!((a : Int) == (b : Int)))) = _
  rw [int_beq]
theorem bin3n (a b : Nat) : bin Try.prog .neq 3 (i64n a) (i64n b) = some (.bool (!(a == b))) := by
  unfold i64n
  rw [bin_neq]
  show some (Value.bool (!((a : Int) == (b : Int)))) = _
  rw [int_beq]
theorem int_lt (a b : Nat) : decide ((a : Int) < (b : Int)) = decide (a < b) := decide_eq_decide.2 (by omega)

/-- What the loop of record comes to. -/
def recFin (D : Dk) (J : Jn) (h0 : Heap) (at_ : Nat) (ex : Ex) (y : Nat → Value) (g : Heap) : Prop :=
  Old h0 g ∧ ((ex = .ret ∧ y 4 = .slice none 0 0 ∧ y 5 = .int .i64 0 ∧ D.stands J.area J.gen at_ = false) ∨
    (ex = .exit 0 ∧ D.stands J.area J.gen at_ = true ∧ y 8 = i64n (D.parts J.area at_) ∧ OwnB g h0.next (y 7) (D.data J.area at_ (D.parts J.area at_))))
def recInv (D : Dk) (J : Jn) (h0 : Heap) (j at_ : Nat) (k : Nat) (y : Nat → Value) (g : Heap) : Prop :=
  ∃ i P, y 0 = ptr j 0 ∧ y 1 = i64n at_ ∧ y 6 = i64n D.ar ∧ y 9 = i64n i ∧ y 8 = i64n P ∧ i ≤ P ∧ i + k = 70000 ∧ OwnB g h0.next (y 7) (D.data J.area at_ i) ∧ Old h0 g ∧ P ≤ 65535 ∧
    ((i = 0 ∧ P = 1) ∨ (0 < i ∧ P = D.parts J.area at_ ∧ at_ + i ≤ D.ar ∧ ∀ q, q < i → D.part J.area J.gen at_ P q = true))

end Go.Proofs.Ytcmfgmhadeeieaa

namespace Go.Proofs.Ytcmfgmhadeeieaa
open Go Go.Abs

theorem lss3 (a b : Nat) : bin Try.prog .lss 3 (i64n a) (i64n b) = some (.bool (decide (a < b))) := by
  unfold i64n; rw [bin_lss, int_lt]
theorem geq3 (a b : Nat) : bin Try.prog .geq 3 (i64n a) (i64n b) = some (.bool (decide (b ≤ a))) := by
  unfold i64n; rw [bin_geq]; exact congrArg (fun q => some (Value.bool q)) (decide_eq_decide.2 (by omega))
theorem gtr3 (a b : Nat) : bin Try.prog .gtr 3 (i64n a) (i64n b) = some (.bool (decide (b < a))) := by
  unfold i64n; rw [bin_gtr]; exact congrArg (fun q => some (Value.bool q)) (decide_eq_decide.2 (by omega))
theorem eql3 (a b : Nat) : bin Try.prog .eql 3 (i64n a) (i64n b) = some (.bool (a == b)) := by
  unfold i64n; rw [bin_eql, int_beq]
theorem add3 {a b : Nat} (h : a + b ≤ 9223372036854775807) : bin Try.prog .add 3 (i64n a) (i64n b) = some (i64n (a + b)) := by
  unfold i64n; rw [bin_add, wrap_i64 (by omega) (by omega), Int.natCast_add]
theorem sub3 {a b : Nat} (h : b ≤ a) (h2 : a ≤ 9223372036854775807) : bin Try.prog .sub 3 (i64n a) (i64n b) = some (i64n (a - b)) := by
  unfold i64n; rw [bin_sub, wrap_i64 (by omega) (by omega)]; exact congrArg (fun q => some (Value.int .i64 q)) (by omega)
theorem mul3 {a b : Nat} (h : a * b ≤ 9223372036854775807) : bin Try.prog .mul 3 (i64n a) (i64n b) = some (i64n (a * b)) := by
  unfold i64n; rw [bin_mul, ← Int.natCast_mul, wrap_i64 (by omega) (by omega)]

theorem eql3z (a : Nat) : bin Try.prog .eql 3 (i64n a) (.int .i64 0) = some (.bool (a == 0)) := eql3 a 0
theorem add31 {a : Nat} (h : a + 1 ≤ 9223372036854775807) : bin Try.prog .add 3 (i64n a) (.int .i64 1) = some (i64n (a + 1)) := add3 h

theorem Dk.not_stands' {D : Dk} {area gen at_ i : Nat} (hi : i < D.parts area at_ ∨ D.parts area at_ = 0) (hp : D.part area gen at_ (D.parts area at_) i = false) : D.stands area gen at_ = false := by
  rcases hi with hi | hi
  · exact Dk.not_stands hi hp
  · unfold Dk.stands
    rw [hi]; simp
theorem logParts_lt {h : Heap} {d : Nat} {D : Dk} (x : IsDk h d D) (area at_ : Nat) : logParts (D.jb area at_) < 65536 := by
  have hb : ∀ y ∈ ((D.jb area at_).drop 18).take 2, y < 256 := fun y hy => Dk.blk_byte x _ y (List.mem_of_mem_drop (List.mem_of_mem_take hy))
  have hl : (((D.jb area at_).drop 18).take 2).length ≤ 2 := List.length_take_le ..
  have := be_lt _ _ rfl hb
  have h2 := Nat.pow_le_pow_right (n := 256) (by decide) hl
  unfold logParts
  omega

theorem rec_round {h0 : Heap} {d j at_ : Nat} {D : Dk} {J : Jn} (x : IsDk h0 d D) (xj : IsJn h0 j d J) (h2 : 2 ≤ D.n) (hat : at_ < D.ar) :
    ∀ k y g, recInv D J h0 j at_ k y g → Rnd 89 (recInv D J h0 j at_) (recFin D J h0 at_) k (t57l57_11111010 CD y g) := by
  rintro k y g ⟨i, P, i0, i1, i6, i9, i8, hiP, hk, ho, hold, hP, hcase⟩
  have hsm := x.small
  have har : D.ar = (D.n - 2) / 2 := rfl
  have xg := Old.dk hold x
  have jg := xj.keep hold (fun h => h)
  unfold t57l57_11111010
  simp -implicitDefEqProofs only [i8, i9, lss3, pu_some, thenV_some]
  by_cases hlt : i < P
  · simp -implicitDefEqProofs only [decide_eq_true hlt, i1, i6, i0, add3 (show at_ + i ≤ 9223372036854775807 by omega), pu_some, thenV_some, geq3]
    by_cases hge : D.ar ≤ at_ + i
    · simp -implicitDefEqProofs only [decide_eq_true hge, thenV_some]
      refine Rnd.ret ⟨hold, .inl ⟨rfl, rfl, rfl, ?_⟩⟩
      rcases hcase with ⟨rfl, _⟩ | ⟨_, rfl, _, _⟩
      · omega
      · unfold Dk.stands
        rw [decide_eq_false (show ¬ at_ + D.parts J.area at_ ≤ D.ar by omega)]; rfl
    · obtain ⟨a, n, c, g1, e1, e2, e3, e4, e5⟩ := r56 xg h2 jg.area (show at_ + i < D.ar by omega)
      have hjb : D.blk (2 + J.area * D.ar + (at_ + i)) = D.jb J.area (at_ + i) := rfl
      rw [hjb] at e1 e2
      have hpl := logParts_lt x J.area (at_ + i)
      have g2p : (g1.alloc logZ).get g1.next = some logZ := by rw [Heap.get_alloc, if_pos rfl]
      have n02 : (g1.alloc logZ).n0 ≤ g1.next := g1.n0_le_next
      generalize hcs : logC (logGen (D.jb J.area (at_ + i))) (logPart (D.jb J.area (at_ + i))) (logParts (D.jb J.area (at_ + i))) (.slice a n c) = cs at e1
      have hst : stN 4 (ptr g1.next 0) (.agg cs.toArray) (g1.alloc logZ) = some (undef, (g1.alloc logZ).set g1.next cs) := by
        subst hcs; exact stN_whole g2p n02 rfl rfl rfl
      obtain ⟨k3, g3p⟩ := setPlain (k' := cs) g2p n02
      have k2 : Old g1 (g1.alloc logZ) := Kept.alloc g1 logZ _
      have k13 : Old g ((g1.alloc logZ).set g1.next cs) := (e4.trans k2).also k3 (fun c h1 h2 => by have := e4.next; omega)
      have sB := k3.bytesP (fun c hc => by subst hc; exact plain4 g2p) (Old.bytes k2 e2)
      have hlogz : g1.alloc [(.int .u64 0), (.int .i64 0), (.int .i64 0), (.slice none 0 0)] = g1.alloc logZ := rfl
      generalize hg3 : (g1.alloc logZ).set g1.next cs = g3 at *
      have l0 : ld1 (ptr g1.next 0) g3 = some (.int .u64 (logGen (D.jb J.area (at_ + i))), g3) := by subst hcs; exact ld1_at g3p rfl
      have l1 : ld1 (ptr g1.next 1) g3 = some (i64n (logPart (D.jb J.area (at_ + i))), g3) := by subst hcs; exact ld1_at g3p rfl
      have l2 : ld1 (ptr g1.next 2) g3 = some (i64n (logParts (D.jb J.area (at_ + i))), g3) := by subst hcs; exact ld1_at g3p rfl
      have l3 : ld1 (ptr g1.next 3) g3 = some (.slice a n c, g3) := by subst hcs; exact ld1_at g3p rfl
      have hold3 : Old h0 g3 := hold.trans k13
      have jg3 := xj.keep hold3 (fun h => h)
      have ho3 := ho.keep k13 (fun _ _ h => h)
      have hlen := D.data_length J.area at_ i
      have hn : n ≤ 106 := by
        obtain ⟨h1, _, _⟩ := sliceBytes_spec sB
        have h2 : (logData (D.jb J.area (at_ + i))).length ≤ 106 := by
          unfold logData
          split
          · rw [List.length_take]; omega
          · simp
        omega
      obtain ⟨v', g4, f1, f2, f3, f4⟩ := append_ownB (c := c) ho3 (by rw [hold3.n0]; exact h0.n0_le_next) hold3.next sB (by omega)
      rw [← D.data_succ] at f2
      have hold4 : Old h0 g4 := hold3.also f3 (fun c hc hb => by
        obtain ⟨a1, c1, e6, _, _, e7, e8⟩ := ho3.bytes
        rw [e6] at hb
        cases a1 with
        | none => cases hb
        | some y1 =>
          have := e7 y1 rfl
          have hb : some y1.block = some c := hb
          cases hb
          omega)
      have hx0 : ∀ a b : Value, extractA (.tuple #[a, b]) 0 = some a := fun _ _ => rfl
      have hx1 : ∀ a b : Value, extractA (.tuple #[a, b]) 1 = some b := fun _ _ => rfl
      simp -implicitDefEqProofs only [decide_eq_false hge, nilCheck_ptr, pu_some, thenV_some, addP_ptr, Nat.zero_add, jg.l0, jg.l3, e1, hx0, hx1, newC, Abs.newRow, hlogz, hst, eql3z]
      by_cases hi0 : i = 0
      · have hP' : D.parts J.area at_ = logParts (D.jb J.area (at_ + i)) := by rw [hi0]; rfl
        have hfl : i < D.parts J.area at_ ∨ D.parts J.area at_ = 0 := by omega
        have hfail : D.part J.area J.gen at_ (logParts (D.jb J.area (at_ + i))) i = false → D.stands J.area J.gen at_ = false := fun hf => Dk.not_stands' hfl (by rw [hP']; exact hf)
        have hbeq : (i == 0) = true := by simp [hi0]
        have hpp : (logParts (D.jb J.area (at_ + i)) == logParts (D.jb J.area (at_ + i))) = true := beq_self_eq_true _
        unfold Dk.part at hfail
        rw [hpp, Bool.and_true] at hfail
        simp -implicitDefEqProofs only [hbeq, l2, pu_some, thenV_some, unA_not, bOf_bool]
        cases hc1 : logOk (at_ + i) (D.jb J.area (at_ + i)) with
        | false =>
          simp -implicitDefEqProofs only [Bool.not_false, sf, guardK_false, thenV_some, if_true, bOf_bool]
          exact Rnd.ret ⟨hold3, .inl ⟨rfl, rfl, rfl, hfail (by rw [hc1]; rfl)⟩⟩
        | true =>
          simp -implicitDefEqProofs only [Bool.not_true, beq_self_eq_true, guardK_true, thenV_some, pu_some, addP_ptr, Nat.zero_add, l0, jg3.l4, bin58n, nilCheck_ptr, Bool.false_eq_true, if_false, bOf_bool]
          cases hc2 : (logGen (D.jb J.area (at_ + i)) == J.gen) with
          | false =>
            simp -implicitDefEqProofs only [Bool.not_false, sf, guardK_false, thenV_some, if_true, bOf_bool]
            exact Rnd.ret ⟨hold3, .inl ⟨rfl, rfl, rfl, hfail (by rw [hc1, hc2]; rfl)⟩⟩
          | true =>
            simp -implicitDefEqProofs only [Bool.not_true, beq_self_eq_true, guardK_true, thenV_some, pu_some, addP_ptr, Nat.zero_add, l1, bin3n, Bool.false_eq_true, if_false, bOf_bool]
            cases hc3 : (logPart (D.jb J.area (at_ + i)) == i) with
            | false =>
              simp -implicitDefEqProofs only [Bool.not_false, sf, guardK_false, thenV_some, if_true, bOf_bool]
              exact Rnd.ret ⟨hold3, .inl ⟨rfl, rfl, rfl, hfail (by rw [hc1, hc2, hc3]; rfl)⟩⟩
            | true =>
              simp -implicitDefEqProofs only [Bool.not_true, beq_self_eq_true, guardK_true, thenV_some, pu_some, l2, bin3n, Bool.false_eq_true, if_false, l3, f1, add31 (show i + 1 ≤ 9223372036854775807 by omega)]
              have h1p : 1 ≤ logParts (D.jb J.area (at_ + i)) := by
                unfold logOk at hc1
                simp only [Bool.and_eq_true, decide_eq_true_eq] at hc1
                exact hc1.1.1.2
              refine Rnd.next (k - 1) (by omega) ⟨i + 1, logParts (D.jb J.area (at_ + i)), i0, i1, i6, rfl, rfl, by omega, by omega, f2, hold4, by omega, .inr ⟨by omega, hP'.symm, by omega, ?_⟩⟩
              intro q hq
              have : q = i := by omega
              subst this
              unfold Dk.part
              rw [hc1, hc2, hc3, hpp]; rfl
      · rcases hcase with ⟨h, _⟩ | ⟨hi1, hPe, hati, hall⟩
        · exact absurd h hi0
        have hfail : D.part J.area J.gen at_ P i = false → D.stands J.area J.gen at_ = false := fun hf => Dk.not_stands' (i := i) (.inl (by omega)) (by rw [← hPe]; exact hf)
        have hbeq : (i == 0) = false := by simp [hi0]
        unfold Dk.part at hfail
        simp -implicitDefEqProofs only [hbeq, pu_some, thenV_some, unA_not, bOf_bool]
        cases hc1 : logOk (at_ + i) (D.jb J.area (at_ + i)) with
        | false =>
          simp -implicitDefEqProofs only [Bool.not_false, sf, guardK_false, thenV_some, if_true, bOf_bool]
          exact Rnd.ret ⟨hold3, .inl ⟨rfl, rfl, rfl, hfail (by rw [hc1]; rfl)⟩⟩
        | true =>
          simp -implicitDefEqProofs only [Bool.not_true, beq_self_eq_true, guardK_true, thenV_some, pu_some, addP_ptr, Nat.zero_add, l0, jg3.l4, bin58n, nilCheck_ptr, Bool.false_eq_true, if_false, bOf_bool]
          cases hc2 : (logGen (D.jb J.area (at_ + i)) == J.gen) with
          | false =>
            simp -implicitDefEqProofs only [Bool.not_false, sf, guardK_false, thenV_some, if_true, bOf_bool]
            exact Rnd.ret ⟨hold3, .inl ⟨rfl, rfl, rfl, hfail (by rw [hc1, hc2]; rfl)⟩⟩
          | true =>
            simp -implicitDefEqProofs only [Bool.not_true, beq_self_eq_true, guardK_true, thenV_some, pu_some, addP_ptr, Nat.zero_add, l1, bin3n, Bool.false_eq_true, if_false, bOf_bool]
            cases hc3 : (logPart (D.jb J.area (at_ + i)) == i) with
            | false =>
              simp -implicitDefEqProofs only [Bool.not_false, sf, guardK_false, thenV_some, if_true, bOf_bool]
              exact Rnd.ret ⟨hold3, .inl ⟨rfl, rfl, rfl, hfail (by rw [hc1, hc2, hc3]; rfl)⟩⟩
            | true =>
              simp -implicitDefEqProofs only [Bool.not_true, beq_self_eq_true, guardK_true, thenV_some, pu_some, l2, bin3n, Bool.false_eq_true, if_false]
              cases hc4 : (logParts (D.jb J.area (at_ + i)) == P) with
              | false =>
                simp -implicitDefEqProofs only [Bool.not_false]
                exact Rnd.ret ⟨hold3, .inl ⟨rfl, rfl, rfl, hfail (by rw [hc1, hc2, hc3, hc4]; rfl)⟩⟩
              | true =>
                simp -implicitDefEqProofs only [Bool.not_true, addP_ptr, Nat.zero_add, pu_some, thenV_some, l3, f1, add31 (show i + 1 ≤ 9223372036854775807 by omega)]
                refine Rnd.next (k - 1) (by omega) ⟨i + 1, P, i0, i1, i6, rfl, i8, by omega, by omega, f2, hold4, hP, .inr ⟨by omega, hPe, by omega, ?_⟩⟩
                intro q hq
                by_cases hqi : q = i
                · subst hqi
                  unfold Dk.part
                  rw [hc1, hc2, hc3, hc4]; rfl
                · exact hall q (by omega)
  · simp -implicitDefEqProofs only [decide_eq_false hlt]
    have hii : i = P := by omega
    rcases hcase with ⟨h, h'⟩ | ⟨hi1, hPe, hati, hall⟩
    · omega
    · refine Rnd.out 0 ⟨hold, .inr ⟨rfl, ?_, ?_, ?_⟩⟩
      · unfold Dk.stands
        rw [← hPe, decide_eq_true (show at_ + P ≤ D.ar by omega), decide_eq_true (show 1 ≤ P by omega)]
        simp only [Bool.true_and, List.all_eq_true, List.mem_range]
        exact fun q hq => hall q (by omega)
      · show y 8 = _
        rw [i8, hPe]
      · show OwnB g h0.next (y 7) _
        rw [← hPe, ← hii]; exact ho

end Go.Proofs.Ytcmfgmhadeeieaa

namespace Go.Proofs.Ytcmfgmhadeeieaa
open Go Go.Abs

theorem rec_loop {h0 : Heap} {d j at_ : Nat} {D : Dk} {J : Jn} (x : IsDk h0 d D) (xj : IsJn h0 j d J) (h2 : 2 ≤ D.n) (hat : at_ < D.ar) {y : Nat → Value} (i0 : y 0 = ptr j 0) (i1 : y 1 = i64n at_) (i6 : y 6 = i64n D.ar) (i9 : y 9 = i64n 0) (i8 : y 8 = i64n 1) (i7 : y 7 = .slice none 0 0) :
    Fin 89 (recFin D J h0 at_) (iter (codeA Try.prog CD (partOf Try.f57 [1, 1, 1, 1, 1, 0, 1, 0, 0])) rounds (mkF 89 y) h0) :=
  loop_fin (t57l57_11111010_eq CD) (rec_round x xj h2 hat) 70000 (by have : rounds = 18446744073709551616 := rfl; omega)
    ⟨0, 1, i0, i1, i6, i9, i8, by omega, rfl, by rw [i7]; exact .nil _ _, Kept.refl _ _, by omega, .inl ⟨rfl, rfl⟩⟩

/-- No record stands at a position. -/
def Dk.none (D : Dk) (J : Jn) (at_ : Int) : Prop := J.slot < 0 ∨ at_ < 0 ∨ (D.ar : Int) ≤ at_ ∨ D.stands J.area J.gen at_.toNat = false
theorem r57_start {h : Heap} {d j : Nat} {D : Dk} {J : Jn} (x : IsDk h d D) (xj : IsJn h j d J) (h2 : 2 ≤ D.n) (at_ : Int) (hout : J.slot < 0 ∨ at_ < 0 ∨ (D.ar : Int) ≤ at_) :
    CD 57 [ptr j 0, .int .i64 at_] h = some (.tuple #[.slice none 0 0, .int .i64 0], h) := by
  refine CD_body is57 rfl ((t57_eq _ _ _ _).trans ?_)
  unfold t57
  simp -implicitDefEqProofs only [thenV_some, nilCheck_ptr, pu_some, addP_ptr, Nat.zero_add, xj.l0, r55 x h2, xj.l2, bin_lss, bOf_bool]
  by_cases c1 : J.slot < 0
  · simp -implicitDefEqProofs only [c1, decide_true, sf, guardK_false, thenV_some, if_true, bOf_bool]
  · simp -implicitDefEqProofs only [c1, decide_false, beq_self_eq_true, guardK_true, thenV_some, pu_some, bin_lss, Bool.false_eq_true, if_false, bOf_bool]
    by_cases c2 : at_ < 0
    · simp -implicitDefEqProofs only [c2, decide_true, sf, guardK_false, thenV_some, if_true]
    · have c3 : at_ ≥ (D.ar : Int) := by omega
      simp -implicitDefEqProofs only [c2, decide_false, beq_self_eq_true, guardK_true, thenV_some, pu_some, i64n, bin_geq, c3, decide_true, Bool.false_eq_true, if_false]
theorem r57_run {h : Heap} {d j : Nat} {D : Dk} {J : Jn} (x : IsDk h d D) (xj : IsJn h j d J) (h2 : 2 ≤ D.n) {at_ : Nat} (hs : 0 ≤ J.slot) (hat : at_ < D.ar) :
    (D.stands J.area J.gen at_ = false ∧ ∃ h', CD 57 [ptr j 0, i64n at_] h = some (.tuple #[.slice none 0 0, .int .i64 0], h') ∧ Old h h') ∨
    (D.stands J.area J.gen at_ = true ∧ ∃ v h', CD 57 [ptr j 0, i64n at_] h = some (.tuple #[v, i64n (D.parts J.area at_)], h') ∧ Old h h' ∧ OwnB h' h.next v (D.data J.area at_ (D.parts J.area at_))) := by
  have c1 : ¬ J.slot < 0 := by omega
  have c2 : ¬ ((at_ : Int) < 0) := by omega
  have c3 : ¬ ((at_ : Int) ≥ (D.ar : Int)) := by omega
  have key : ∀ (o : Out), bodyK Try.prog CD Try.f57 [ptr j 0, i64n at_] h = o → (D.stands J.area J.gen at_ = false ∧ ∃ h', o = some (.tuple #[.slice none 0 0, .int .i64 0], h') ∧ Old h h') ∨
    (D.stands J.area J.gen at_ = true ∧ ∃ v h', o = some (.tuple #[v, i64n (D.parts J.area at_)], h') ∧ Old h h' ∧ OwnB h' h.next v (D.data J.area at_ (D.parts J.area at_))) := by
    intro o ho
    subst ho
    rw [t57_eq]
    unfold t57
    simp -implicitDefEqProofs only [thenV_some, nilCheck_ptr, pu_some, addP_ptr, Nat.zero_add, xj.l0, r55 x h2, xj.l2, bin_lss, bOf_bool, c1, c2, c3, decide_false, beq_self_eq_true, guardK_true, i64n, bin_geq, Bool.false_eq_true, if_false]
    refine endL_fin (Q := fun (o : Out) => (D.stands J.area J.gen at_ = false ∧ ∃ h', o = some (.tuple #[.slice none 0 0, .int .i64 0], h') ∧ Old h h') ∨
      (D.stands J.area J.gen at_ = true ∧ ∃ v h', o = some (.tuple #[v, i64n (D.parts J.area at_)], h') ∧ Old h h' ∧ OwnB h' h.next v (D.data J.area at_ (D.parts J.area at_)))) (rec_loop x xj h2 hat rfl rfl rfl rfl rfl rfl) ?_
    rintro ex y g ⟨hold, ⟨rfl, y4, y5, hst⟩ | ⟨rfl, hst, y8, hown⟩⟩
    · refine .inl ⟨hst, g, ?_, hold⟩
      have hr : Try.f57.results.toList = [.tmp 4, .tmp 5] := by kernel_rfl
      have h4 : (mkF 89 y).getD 4 undef = y 4 := rfl
      have h5 : (mkF 89 y).getD 5 undef = y 5 := rfl
      show resultsA Try.prog Try.f57.results.toList (mkF 89 y) g = _
      rw [hr]
      simp only [resultsA, List.mapM_cons, List.mapM_nil, resultA, h4, h5, y4, y5]
      rfl
    · refine .inr ⟨hst, y 7, g, ?_, hold, hown⟩
      simp -implicitDefEqProofs only [endL_exit, b57_9, if_true, t57k57_7_eq]
      unfold t57k57_7
      simp -implicitDefEqProofs only [y8, thenV_some]
  rcases key _ rfl with ⟨h3, h', h4, h5⟩ | ⟨h3, v, h', h4, h5, h6⟩
  · exact .inl ⟨h3, h', CD_body is57 rfl h4, h5⟩
  · exact .inr ⟨h3, v, h', CD_body is57 rfl h4, h5, h6⟩

/-- Whether a journal is live. -/
def Jn.live (J : Jn) (D : Dk) : Bool := !D.down && (D.turn == J.turn)
theorem eql38 (b o : Nat) : bin Try.prog .eql 38 (ptr b o) (.pointer none) = some (.bool false) := by kernel_rfl
theorem is58 : IsFn Try.prog 58 Try.f58 := ⟨by kernel_rfl, by kernel_rfl, by kernel_rfl, by kernel_rfl⟩
theorem r58 {h : Heap} {d j : Nat} {D : Dk} {J : Jn} (x : IsDk h d D) (xj : IsJn h j d J) : CD 58 [ptr j 0] h = some (.int .i64 (if J.live D then 0 else 9), h) := by
  refine CD_body is58 rfl ((t58_eq _ _ _).trans ?_)
  unfold t58 Jn.live
  simp -implicitDefEqProofs only [thenV_some, eql38, pu_some, nilCheck_ptr, addP_ptr, Nat.zero_add, xj.l0, x.l1, bOf_bool]
  cases D.down with
  | true => rfl
  | false =>
    have hne : bin Try.prog .neq 3 (.int .i64 D.turn) (.int .i64 J.turn) = some (.bool (D.turn != J.turn)) := bin_neq ..
    simp -implicitDefEqProofs only [beq_self_eq_true, guardK_true, thenV_some, pu_some, nilCheck_ptr, addP_ptr, Nat.zero_add, xj.l0, x.l5, xj.l1, hne, Bool.false_eq_true, if_false, Bool.not_false, Bool.true_and, bne]
    cases (D.turn == J.turn) <;> rfl
theorem is34 : IsFn Try.prog 34 Try.f34 := ⟨by kernel_rfl, by kernel_rfl, by kernel_rfl, by kernel_rfl⟩
theorem is22 : IsFn Try.prog 22 Try.f22 := ⟨by kernel_rfl, by kernel_rfl, by kernel_rfl, by kernel_rfl⟩
theorem is26 : IsFn Try.prog 26 Try.f26 := ⟨by kernel_rfl, by kernel_rfl, by kernel_rfl, by kernel_rfl⟩
theorem is74 : IsFn Try.prog 74 Try.f74 := ⟨by kernel_rfl, by kernel_rfl, by kernel_rfl, by kernel_rfl⟩
theorem is28 : IsFn Try.prog 28 Try.f28 := ⟨by kernel_rfl, by kernel_rfl, by kernel_rfl, by kernel_rfl⟩
theorem r34 {h : Heap} {d j : Nat} {D : Dk} {J : Jn} (x : IsDk h d D) (xj : IsJn h j d J) : CD 34 [ptr j 0] h = some (.int .u64 ((if J.live D then J.gen else 0 : Nat) : Int), h) := by
  refine CD_body is34 rfl ((t34_eq _ _ _).trans ?_)
  unfold t34
  simp -implicitDefEqProofs only [thenV_some, r58 x xj, pu_some, bin28n0]
  cases J.live D with
  | true => simp -implicitDefEqProofs only [if_true, bne_self_eq_false, thenV_some, nilCheck_ptr, pu_some, addP_ptr, Nat.zero_add, xj.l4]
  | false => rfl
theorem r22 {h : Heap} {d j : Nat} {D : Dk} {J : Jn} (x : IsDk h d D) (xj : IsJn h j d J) (h2 : 2 ≤ D.n) : CD 22 [ptr j 0] h = some (i64n (if J.live D then D.ar else 0), h) := by
  refine CD_body is22 rfl ((t22_eq _ _ _).trans ?_)
  unfold t22
  simp -implicitDefEqProofs only [thenV_some, r58 x xj, pu_some, bin28n0]
  cases J.live D with
  | true => simp -implicitDefEqProofs only [if_true, bne_self_eq_false, thenV_some, nilCheck_ptr, pu_some, addP_ptr, Nat.zero_add, xj.l0, r55 x h2]
  | false => rfl
/-- The free blocks. -/
def Jn.free (J : Jn) (D : Dk) : Nat := if J.live D && J.ready then D.ar - J.fin else 0
theorem chk_at {o : Out} {v : Value} {q : Heap} (h : o = some (v, q)) (hv : veq v v = true) : chkR true o v = true := by
  unfold chkR Abs.same
  rw [h]
  simpa using hv
theorem r26 {h : Heap} {d j : Nat} {D : Dk} {J : Jn} (x : IsDk h d D) (xj : IsJn h j d J) (h2 : 2 ≤ D.n) (hf : J.ready = true → J.fin ≤ D.ar) : CD 26 [ptr j 0] h = some (i64n (J.free D), h) := by
  refine CD_body is26 rfl ((t26_eq _ _ _).trans ?_)
  have hsm := x.small
  have har : D.ar = (D.n - 2) / 2 := rfl
  unfold t26 Jn.free
  simp -implicitDefEqProofs only [thenV_some, r58 x xj, pu_some, bin28n0, bOf_bool]
  cases J.live D with
  | false => rfl
  | true =>
    simp -implicitDefEqProofs only [if_true, bne_self_eq_false, beq_self_eq_true, guardK_true, thenV_some, nilCheck_ptr, pu_some, addP_ptr, Nat.zero_add, xj.l6, unA_not, Bool.false_eq_true, if_false, Bool.true_and]
    cases hr : J.ready with
    | false => rfl
    | true =>
      simp -implicitDefEqProofs only [Bool.not_true, thenV_some, nilCheck_ptr, pu_some, addP_ptr, Nat.zero_add, xj.l0, r55 x h2, xj.l7, sub3 (hf hr) (show D.ar ≤ 9223372036854775807 by omega), chk_at (rfl : some (i64n J.fin, h) = some (i64n J.fin, h)) (show veq (i64n J.fin) (i64n J.fin) = true by simp [i64n, veq]), Bool.and_true, if_true]
def Jn.base (J : Jn) (D : Dk) : Nat := if J.live D && decide (0 ≤ J.slot) then 2 + J.area * D.ar else 0
theorem r74 {h : Heap} {d j : Nat} {D : Dk} {J : Jn} (x : IsDk h d D) (xj : IsJn h j d J) (h2 : 2 ≤ D.n) : CD 74 [ptr j 0] h = some (i64n (J.base D), h) := by
  refine CD_body is74 rfl ((t74_eq _ _ _).trans ?_)
  have hsm := x.small
  have har : D.ar = (D.n - 2) / 2 := rfl
  have hm : J.area * D.ar ≤ D.ar := by
    have := Nat.mul_le_mul_right D.ar xj.area
    omega
  unfold t74 Jn.base
  simp -implicitDefEqProofs only [thenV_some, r58 x xj, pu_some, bin28n0, bOf_bool]
  cases J.live D with
  | false => rfl
  | true =>
    simp -implicitDefEqProofs only [if_true, bne_self_eq_false, beq_self_eq_true, guardK_true, thenV_some, nilCheck_ptr, pu_some, addP_ptr, Nat.zero_add, xj.l2, bin_lss, Bool.false_eq_true, if_false, Bool.true_and]
    by_cases c1 : J.slot < 0
    · simp -implicitDefEqProofs only [c1, decide_true, thenV_some, show ¬ (0 ≤ J.slot) by omega, decide_false, Bool.false_eq_true, if_false]
      rfl
    · have h21 : bin Try.prog .add 3 (.int .i64 2) (i64n (J.area * D.ar)) = some (i64n (2 + J.area * D.ar)) := add3 (a := 2) (by omega)
      simp -implicitDefEqProofs only [c1, decide_false, thenV_some, nilCheck_ptr, pu_some, addP_ptr, Nat.zero_add, xj.l3, xj.l0, r55 x h2, mul3 (show J.area * D.ar ≤ 9223372036854775807 by omega), h21, chk_at (rfl : some (i64n J.area, h) = some (i64n J.area, h)) (show veq (i64n J.area) (i64n J.area) = true by simp [i64n, veq]), Bool.and_true, if_true, show (0 : Int) ≤ J.slot by omega, decide_true]
/-- ReadAt: what it answers of a position. -/
def Jn.stands (J : Jn) (D : Dk) (at_ : Int) : Bool := decide (0 ≤ J.slot) && decide (0 ≤ at_) && decide (at_ < (D.ar : Int)) && D.stands J.area J.gen at_.toNat
theorem Dk.stands_pos {D : Dk} {area gen at_ : Nat} (h : D.stands area gen at_ = true) : 1 ≤ D.parts area at_ ∧ at_ + D.parts area at_ ≤ D.ar := by
  unfold Dk.stands at h
  simp only [Bool.and_eq_true, decide_eq_true_eq] at h
  exact ⟨h.1.2, h.1.1⟩
theorem r28_dead {h : Heap} {d j : Nat} {D : Dk} {J : Jn} (x : IsDk h d D) (xj : IsJn h j d J) (at_ : Value) (hl : J.live D = false) : CD 28 [ptr j 0, at_] h = some (.tuple #[.slice none 0 0, .int .i64 9], h) := by
  refine CD_body is28 rfl ((t28_eq _ _ _ _).trans ?_)
  unfold t28
  simp -implicitDefEqProofs only [thenV_some, r58 x xj, hl, Bool.false_eq_true, if_false, pu_some, bin28n0, show ((9 : Int) != 0) = true from rfl]
theorem r28_no {h : Heap} {d j : Nat} {D : Dk} {J : Jn} (x : IsDk h d D) (xj : IsJn h j d J) (h2 : 2 ≤ D.n) (at_ : Int) (hl : J.live D = true) (hs : J.stands D at_ = false) :
    ∃ h', CD 28 [ptr j 0, .int .i64 at_] h = some (.tuple #[.slice none 0 0, .int .i64 6], h') ∧ Old h h' := by
  have key : ∃ h', CD 57 [ptr j 0, .int .i64 at_] h = some (.tuple #[.slice none 0 0, .int .i64 0], h') ∧ Old h h' := by
    by_cases hout : J.slot < 0 ∨ at_ < 0 ∨ (D.ar : Int) ≤ at_
    · exact ⟨h, r57_start x xj h2 at_ hout, Kept.refl _ _⟩
    · obtain ⟨m, rfl⟩ : ∃ m : Nat, at_ = m := ⟨at_.toNat, by omega⟩
      rcases r57_run x xj h2 (at_ := m) (by omega) (by omega) with ⟨_, h', h3, h4⟩ | ⟨h3, _⟩
      · exact ⟨h', h3, h4⟩
      · unfold Jn.stands at hs
        rw [Int.toNat_natCast, h3, decide_eq_true (show 0 ≤ J.slot by omega), decide_eq_true (show (0 : Int) ≤ (m : Int) by omega), decide_eq_true (show (m : Int) < (D.ar : Int) by omega)] at hs
        cases hs
  obtain ⟨h', h3, h4⟩ := key
  refine ⟨h', CD_body is28 rfl ((t28_eq _ _ _ _).trans ?_), h4⟩
  have hx0 : ∀ a b : Value, extractA (.tuple #[a, b]) 0 = some a := fun _ _ => rfl
  have hx1 : ∀ a b : Value, extractA (.tuple #[a, b]) 1 = some b := fun _ _ => rfl
  have hz : bin Try.prog .eql 3 (.int .i64 0) (.int .i64 0) = some (.bool true) := eql3z 0
  unfold t28
  simp -implicitDefEqProofs only [thenV_some, r58 x xj, hl, if_true, pu_some, bin28n0, bne_self_eq_false, h3, hx0, hx1, hz]
theorem r28_yes {h : Heap} {d j : Nat} {D : Dk} {J : Jn} (x : IsDk h d D) (xj : IsJn h j d J) (h2 : 2 ≤ D.n) {at_ : Nat} (hl : J.live D = true) (hs : J.stands D at_ = true) :
    ∃ v h', CD 28 [ptr j 0, i64n at_] h = some (.tuple #[v, .int .i64 0], h') ∧ Old h h' ∧ OwnB h' h.next v (D.data J.area at_ (D.parts J.area at_)) := by
  unfold Jn.stands at hs
  simp only [Bool.and_eq_true, decide_eq_true_eq, Int.toNat_natCast] at hs
  rcases r57_run x xj h2 (at_ := at_) (by omega) (by omega) with ⟨h3, _⟩ | ⟨_, v, h', h3, h4, h5⟩
  · rw [h3] at hs; cases hs.2
  · refine ⟨v, h', CD_body is28 rfl ((t28_eq _ _ _ _).trans ?_), h4, h5⟩
    have hx0 : ∀ a b : Value, extractA (.tuple #[a, b]) 0 = some a := fun _ _ => rfl
    have hx1 : ∀ a b : Value, extractA (.tuple #[a, b]) 1 = some b := fun _ _ => rfl
    have hp := (Dk.stands_pos hs.2).1
    have hz : (D.parts J.area at_ == 0) = false := by
      rw [beq_eq_false_iff_ne]; omega
    unfold t28
    simp -implicitDefEqProofs only [thenV_some, r58 x xj, hl, if_true, pu_some, bin28n0, bne_self_eq_false, h3, hx0, hx1, eql3z, hz]

end Go.Proofs.Ytcmfgmhadeeieaa

namespace Go.Proofs.Ytcmfgmhadeeieaa
open Go Go.Abs

/-- A Writer that has not failed: its limit and its bytes; all that is its own lies at N or above. -/
structure IsW (h : Heap) (N w lim : Nat) (l : List Nat) : Prop where
  ex : ∃ v, h.get w = some [i64n lim, .bool false, v] ∧ OwnB h N v l ∧ baseOf v ≠ some w
  n0 : h.n0 ≤ N
  Nw : N ≤ w
  small : lim ≤ 100000
theorem IsW.lt {h : Heap} {N w lim : Nat} {l : List Nat} (W : IsW h N w lim l) : w < h.next := by
  obtain ⟨v, h1, _⟩ := W.ex
  exact h.lt_of_get h1
theorem OwnB.nat8 {h : Heap} {N : Nat} {v : Value} {l : List Nat} (o : OwnB h N v l) : nat8 v = none := by
  obtain ⟨a, c, rfl, _⟩ := o.bytes
  rfl
theorem OwnB.cell {h : Heap} {N : Nat} {v : Value} {l : List Nat} (o : OwnB h N v l) : v.cells = #[v] ∧ v.oneCell' = true ∧ isHole v = false := by
  obtain ⟨a, c, rfl, _⟩ := o.bytes
  exact ⟨rfl, rfl, rfl⟩

/-- A number in so many bytes, the highest first. -/
def beB : Nat → Nat → List Nat
  | 0, _ => []
  | n + 1, v => (v / 256 ^ n % 256) :: beB n v
theorem beB_length : ∀ n v, (beB n v).length = n
  | 0, _ => rfl
  | n + 1, v => by rw [beB, List.length_cons, beB_length]
theorem beB_byte : ∀ n v, ∀ x ∈ beB n v, x < 256
  | n + 1, v, x, h => by
    rw [beB] at h
    rcases List.mem_cons.1 h with rfl | h
    · exact Nat.mod_lt _ (by decide)
    · exact beB_byte n v x h
theorem IsW.alloc {h : Heap} {N w lim : Nat} {l : List Nat} (W : IsW h N w lim l) (k : Blk) : IsW (h.alloc k) N w lim l := by
  obtain ⟨v, h1, h2, h3⟩ := W.ex
  have ka : Kept h (h.alloc k) (fun _ => False) := Kept.alloc _ _ _
  exact ⟨⟨v, ka.getE h1 (fun h => h), h2.keep ka (fun _ _ h => h), h3⟩, W.n0, W.Nw, W.small⟩

end Go.Proofs.Ytcmfgmhadeeieaa

namespace Go.Proofs.Ytcmfgmhadeeieaa
open Go Go.Abs

section
variable {h : Heap} {N w lim : Nat} {l : List Nat} (W : IsW h N w lim l)
include W
end

/-- A sealed block. -/
def sealB (l : List Nat) : List Nat := beB 4 (crcN (l ++ List.replicate (124 - l.length) 0)) ++ (l ++ List.replicate (124 - l.length) 0)
theorem sealB_length {l : List Nat} (hl : l.length ≤ 124) : (sealB l).length = 128 := by
  simp only [sealB, List.length_append, beB_length, List.length_replicate]; omega
theorem crcN_lt {l : List Nat} (hb : ∀ x ∈ l, x < 256) : crcN l < 4294967296 := by
  unfold crcN
  exact Nat.xor_lt_two_pow (n := 32) (by decide) (crcFold_lt l 4294967295 (by decide) hb)

end Go.Proofs.Ytcmfgmhadeeieaa

namespace Go.Proofs.Ytcmfgmhadeeieaa
open Go Go.Abs

def costN (n : Nat) : Nat := if n ≤ 106 then 1 else (n - 1) / 106 + 1
theorem costN_pos (n : Nat) : 1 ≤ costN n := by unfold costN; split <;> omega
theorem costN_le {n : Nat} (h : n ≤ 21000) : costN n ≤ 199 := by unfold costN; split <;> omega
theorem costN_room (n : Nat) : n ≤ 106 * costN n := by unfold costN; split <;> omega
/-- A log block's bytes. -/
def logBody (gen at_ part parts : Nat) (data : List Nat) : List Nat := beB 8 gen ++ beB 4 at_ ++ beB 2 part ++ beB 2 parts ++ beB 2 data.length ++ data
def logBlk (gen at_ part parts : Nat) (data : List Nat) : List Nat := sealB (logBody gen at_ part parts data)
theorem logBody_length (gen at_ part parts : Nat) (data : List Nat) : (logBody gen at_ part parts data).length = 18 + data.length := by
  simp only [logBody, List.length_append, beB_length]
def chunk (rec_ : List Nat) (i : Nat) : List Nat := (rec_.drop (106 * i)).take 106
theorem chunk_length (rec_ : List Nat) (i : Nat) : (chunk rec_ i).length ≤ 106 := List.length_take_le ..
/-- What writing a record's blocks from the i-th one comes to. -/
def Dk.wr (area gen at_ parts : Nat) (rec_ : List Nat) : Nat → Nat → Dk → Int × Dk
  | 0, _, D => (0, D)
  | k + 1, i, D =>
    if (D.write ((2 + area * D.ar + at_ + i : Nat) : Int) (logBlk gen (at_ + i) i parts (chunk rec_ i))).1 = 0 then Dk.wr area gen at_ parts rec_ k (i + 1) (D.write ((2 + area * D.ar + at_ + i : Nat) : Int) (logBlk gen (at_ + i) i parts (chunk rec_ i))).2
    else D.write ((2 + area * D.ar + at_ + i : Nat) : Int) (logBlk gen (at_ + i) i parts (chunk rec_ i))
def Dk.wrRec (D : Dk) (area gen at_ : Nat) (rec_ : List Nat) : Int × Dk := Dk.wr area gen at_ (costN rec_.length) rec_ (costN rec_.length) 0 D

theorem IsJn.ne_d {h : Heap} {j d d' : Nat} {J : Jn} {D : Dk} (xj : IsJn h j d J) (x : IsDk h d' D) : j ≠ d' := by
  rintro rfl
  have := xj.get.symm.trans x.hdr
  have := congrArg List.length (Option.some.inj this)
  simp [Jn.cells, Dk.hdr] at this
theorem IsJn.ne_bb {h : Heap} {j d d' : Nat} {J : Jn} {D : Dk} (xj : IsJn h j d J) (x : IsDk h d' D) : j ≠ D.bb := by
  intro he
  have h1 := xj.get
  rw [he, x.img] at h1
  have h2 := Option.some.inj h1
  cases hi : D.img with
  | nil => rw [hi] at h2; simp [Jn.cells] at h2
  | cons a l => rw [hi] at h2; simp [Jn.cells, ptr] at h2
section
variable {h0 : Heap} {d j : Nat} {D : Dk} {J : Jn} {area gen at_ n c : Nat} {a : Option Addr} {rec_ : List Nat} (x : IsDk h0 d D) (xj : IsJn h0 j d J) (h2 : 2 ≤ D.n) (ha : area ≤ 1) (hg : gen < 18446744073709551616) (hat : at_ ≤ 10000)
  (hs : sliceBytes a n h0 = some rec_) (hgd : goodS a n c = true) (hn : n ≤ 21000) (hab : ∀ y, a = some y → 0 < n → y.block ≠ D.bb)
include x xj h2 ha hg hat hs hgd hn hab
end
end Go.Proofs.Ytcmfgmhadeeieaa

namespace Go.Proofs.Ytcmfgmhadeeieaa
open Go Go.Abs

/-- What holds of a journal beside its disk. -/
structure JnOk (J : Jn) (D : Dk) : Prop where
  slot : J.slot = -1 ∨ J.slot = 0 ∨ J.slot = 1
  area : J.area ≤ 1
  gen : J.gen < 18446744073709551616
  known : J.known < 18446744073709551616
  ready : J.ready = true → J.fin ≤ D.ar ∧ 0 ≤ J.slot

/-- Append. -/
def Jn.append (J : Jn) (D : Dk) (rec_ : List Nat) : Int × Dk × Jn :=
  if J.live D = false then (9, D, J) else
  if J.ready = false then (30, D, J) else
  if 20000 < rec_.length then (3, D, J) else
  if J.free D < costN rec_.length then (8, D, J) else
  if (D.wrRec J.area J.gen J.fin rec_).1 = 0 then (0, (D.wrRec J.area J.gen J.fin rec_).2, { J with fin := J.fin + costN rec_.length })
  else ((D.wrRec J.area J.gen J.fin rec_).1, (D.wrRec J.area J.gen J.fin rec_).2, J)
end Go.Proofs.Ytcmfgmhadeeieaa

namespace Go.Proofs.Ytcmfgmhadeeieaa
open Go Go.Abs

theorem IsJn.st {h : Heap} {j d : Nat} {J : Jn} (xj : IsJn h j d J) (i : Nat) (v : Value) (J' : Jn) (hi : i < 8) (hc : (J.cells d).set i v = J'.cells d) (hv : v.cells = #[v]) (h1 : v.oneCell' = true) (ha : J'.area ≤ 1) :
    ∃ h', stN 1 (ptr j i) v h = some (undef, h') ∧ IsJn h' j d J' ∧ Kept h h' (fun c => c = j) ∧ h'.next = h.next := by
  have hst := stN1_at (o := i) (v := v) xj.get (by simp [Jn.cells]; omega) xj.n0 hv h1
  obtain ⟨k, g⟩ := setPlain (k' := (J.cells d).set i v) xj.get xj.n0
  rw [hc] at hst k g
  exact ⟨_, hst, ⟨g, k.n0 ▸ xj.n0, ha⟩, k, rfl⟩
theorem mx64 (a b : Nat) : minmax true (.int .u64 (a : Int)) [.int .u64 (b : Int)] = some (.int .u64 ((max a b : Nat) : Int)) := by
  simp only [minmax, if_true]
  by_cases hc : (b : Int) > (a : Int)
  · rw [if_pos (by simpa using hc), Nat.max_eq_right (by omega)]
  · rw [if_neg (by simpa using hc), Nat.max_eq_left (by omega)]
theorem gtr58 (a b : Nat) : bin Try.prog .gtr 58 (.int .u64 (a : Int)) (.int .u64 (b : Int)) = some (.bool (decide (b < a))) := by
  rw [bin_gtr]; exact congrArg (fun q => some (Value.bool q)) (decide_eq_decide.2 (by omega))

/-- A log block is looked at. -/
def Jn.seeLog (D : Dk) (s at_ : Nat) (J : Jn) : Jn := if logOk at_ (D.jb s at_) then { J with known := max J.known (logGen (D.jb s at_)) } else J
def Jn.seeLogs (D : Dk) (s : Nat) : Nat → Nat → Jn → Jn
  | 0, _, J => J
  | k + 1, at_, J => Jn.seeLogs D s k (at_ + 1) (J.seeLog D s at_)
section
variable {h0 : Heap} {d j s : Nat} {D : Dk} {J0 : Jn} (x : IsDk h0 d D) (hj : IsJn h0 j d J0) (h2 : 2 ≤ D.n) (hs : s ≤ 1)
def seeInv (h0 : Heap) (d j s : Nat) (D : Dk) (J0 : Jn) (x : Nat → Value) (k : Nat) (y : Nat → Value) (g : Heap) : Prop :=
  ∃ at_ J, y 0 = ptr d 0 ∧ y 6 = ptr j 0 ∧ y 7 = i64n s ∧ y 83 = i64n D.ar ∧ y 84 = i64n at_ ∧ y 37 = x 37 ∧ y 2 = x 2 ∧ y 3 = x 3 ∧ y 4 = x 4 ∧ at_ + k = D.ar ∧ IsJn g j d J ∧ Kept h0 g (fun c => c = j) ∧ Jn.seeLogs D s k at_ J = Jn.seeLogs D s D.ar 0 J0
def seeFin (h0 : Heap) (d j s : Nat) (D : Dk) (J0 : Jn) (x : Nat → Value) (ex : Ex) (y : Nat → Value) (g : Heap) : Prop :=
  ex = .exit 2 ∧ y 0 = ptr d 0 ∧ y 6 = ptr j 0 ∧ y 37 = x 37 ∧ y 2 = x 2 ∧ y 3 = x 3 ∧ y 4 = x 4 ∧ IsJn g j d (Jn.seeLogs D s D.ar 0 J0) ∧ Kept h0 g (fun c => c = j)
include x hj h2 hs
theorem see_round (x0 : Nat → Value) : ∀ k y g, seeInv h0 d j s D J0 x0 k y g → Rnd 131 (seeInv h0 d j s D J0 x0) (seeFin h0 d j s D J0 x0) k (t21l21_1111010011001110 CD y g) := by
  rintro k y g ⟨at_, J, i0, i6, i7, i83, i84, i37, i2, i3, i4, hk, hJ, hold, htar⟩
  have hsm := x.small
  have har : D.ar = (D.n - 2) / 2 := rfl
  have hjd := hj.ne_d x
  have hjb := hj.ne_bb x
  have xg : IsDk g d D := hold.dk x (fun h => hjd h.symm) (fun h => hjb h.symm)
  unfold t21l21_1111010011001110
  simp -implicitDefEqProofs only [i84, i83, lss3, pu_some, thenV_some]
  by_cases hz : k = 0
  · subst hz
    simp -implicitDefEqProofs only [decide_eq_false (show ¬ at_ < D.ar by omega)]
    exact Rnd.out 2 ⟨rfl, i0, i6, i37, i2, i3, i4, htar ▸ hJ, hold⟩
  · obtain ⟨q, rfl⟩ : ∃ q, k = q + 1 := ⟨k - 1, by omega⟩
    obtain ⟨a, n, c, g1, e1, e2, e3, e4, e5⟩ := r56 xg h2 hs (show at_ < D.ar by omega)
    have hjbk : D.blk (2 + s * D.ar + at_) = D.jb s at_ := rfl
    rw [hjbk] at e1 e2
    have g2p : (g1.alloc logZ).get g1.next = some logZ := by rw [Heap.get_alloc, if_pos rfl]
    have n02 : (g1.alloc logZ).n0 ≤ g1.next := g1.n0_le_next
    generalize hcs : logC (logGen (D.jb s at_)) (logPart (D.jb s at_)) (logParts (D.jb s at_)) (.slice a n c) = cs at e1
    have hst : stN 4 (ptr g1.next 0) (.agg cs.toArray) (g1.alloc logZ) = some (undef, (g1.alloc logZ).set g1.next cs) := by
      subst hcs; exact stN_whole g2p n02 rfl rfl rfl
    obtain ⟨k3, g3p⟩ := setPlain (k' := cs) g2p n02
    have k2 : Old g1 (g1.alloc logZ) := Kept.alloc g1 logZ _
    have k13 : Old g ((g1.alloc logZ).set g1.next cs) := (e4.trans k2).also k3 (fun c h1 h2 => by have := e4.next; omega)
    have hlogz : g1.alloc [(.int .u64 0), (.int .i64 0), (.int .i64 0), (.slice none 0 0)] = g1.alloc logZ := rfl
    generalize hg3 : (g1.alloc logZ).set g1.next cs = g3 at *
    have l0 : ld1 (ptr g1.next 0) g3 = some (.int .u64 (logGen (D.jb s at_)), g3) := by subst hcs; exact ld1_at g3p rfl
    have hJ3 : IsJn g3 j d J := hJ.keep k13 (fun h => h)
    have hold3 : Kept h0 g3 (fun c => c = j) := hold.also k13 (fun _ _ h => h.elim)
    have hx0 : ∀ a b : Value, extractA (.tuple #[a, b]) 0 = some a := fun _ _ => rfl
    have hx1 : ∀ a b : Value, extractA (.tuple #[a, b]) 1 = some b := fun _ _ => rfl
    simp -implicitDefEqProofs only [decide_eq_true (show at_ < D.ar by omega), i0, i7, thenV_some, e1, hx0, hx1, pu_some, newC, Abs.newRow, hlogz, hst]
    have htar2 : Jn.seeLogs D s q (at_ + 1) (J.seeLog D s at_) = Jn.seeLogs D s D.ar 0 J0 := htar
    cases hc : logOk at_ (D.jb s at_) with
    | false =>
      simp -implicitDefEqProofs only [thenV_some, add31 (show at_ + 1 ≤ 9223372036854775807 by omega), pu_some]
      have hsee : J.seeLog D s at_ = J := by unfold Jn.seeLog; rw [hc]; rfl
      rw [hsee] at htar2
      exact Rnd.next q (by omega) ⟨at_ + 1, J, i0, i6, i7, i83, rfl, i37, i2, i3, i4, by omega, hJ3, hold3, htar2⟩
    | true =>
      have hsee : J.seeLog D s at_ = { J with known := max J.known (logGen (D.jb s at_)) } := by unfold Jn.seeLog; rw [hc]; rfl
      obtain ⟨g4, f1, f2, f3, f4⟩ := hJ3.st 5 (.int .u64 ((max J.known (logGen (D.jb s at_)) : Nat) : Int)) { J with known := max J.known (logGen (D.jb s at_)) } (by decide) rfl rfl rfl hJ.area
      simp -implicitDefEqProofs only [i6, thenV_some, nilCheck_ptr, pu_some, addP_ptr, Nat.zero_add, hJ3.l5, l0, mx64, f1, add31 (show at_ + 1 ≤ 9223372036854775807 by omega)]
      rw [hsee] at htar2
      exact Rnd.next q (by omega) ⟨at_ + 1, _, i0, i6, i7, i83, rfl, i37, i2, i3, i4, by omega, f2, hold3.trans f3, htar2⟩
theorem see_loop {y : Nat → Value} (i0 : y 0 = ptr d 0) (i6 : y 6 = ptr j 0) (i7 : y 7 = i64n s) (i83 : y 83 = i64n D.ar) (i84 : y 84 = i64n 0) :
    Fin 131 (seeFin h0 d j s D J0 y) (iter (codeA Try.prog CD (partOf Try.f21 [1, 1, 1, 1, 0, 1, 0, 0, 1, 1, 0, 0, 1, 1, 1, 0, 0])) rounds (mkF 131 y) h0) :=
  loop_fin (t21l21_1111010011001110_eq CD) (see_round x hj h2 hs y) D.ar (by have : rounds = 18446744073709551616 := rfl; have := x.small; unfold Dk.ar; omega)
    ⟨0, J0, i0, i6, i7, i83, i84, rfl, rfl, rfl, rfl, Nat.zero_add _, hj, Kept.refl _ _, rfl⟩
end

/-- A superblock is looked at. -/
def Jn.takeSuper (D : Dk) (s : Nat) (J : Jn) : Jn := if J.slot < 0 ∨ J.gen < superGen (D.blk s) then { J with slot := s, gen := superGen (D.blk s), area := superArea (D.blk s) } else J
def Jn.seeSuper (D : Dk) (s : Nat) (J : Jn) : Jn := if superOk (D.blk s) then { J.takeSuper D s with known := max J.known (superGen (D.blk s)) } else J
def Jn.seeSlot (D : Dk) (s : Nat) (J : Jn) : Jn := Jn.seeLogs D s D.ar 0 (J.seeSuper D s)
def Dk.jn0 (D : Dk) (turn : Int) : Jn := { turn := turn, slot := -1, area := 0, gen := 0, known := 0, ready := false, fin := 0 }
def Dk.openJ (D : Dk) (turn : Int) : Jn := ((D.jn0 turn).seeSlot D 0).seeSlot D 1

theorem superArea_le {b : List Nat} (h : superOk b = true) : superArea b ≤ 1 := by
  unfold superOk at h
  simp only [Bool.and_eq_true, decide_eq_true_eq] at h
  exact h.2

section
variable {h0 : Heap} {d j : Nat} {D : Dk} {J0 : Jn} (x : IsDk h0 d D) (hj : IsJn h0 j d J0) (h2 : 2 ≤ D.n)
def slotInv (h0 : Heap) (d j : Nat) (D : Dk) (J0 : Jn) (k : Nat) (y : Nat → Value) (g : Heap) : Prop :=
  ∃ J, y 0 = ptr d 0 ∧ y 6 = ptr j 0 ∧ IsJn g j d J ∧ Kept h0 g (fun c => c = j) ∧ ((k = 2 ∧ y 37 = i64n 0 ∧ J = J0) ∨ (k = 1 ∧ y 37 = i64n 1 ∧ J = J0.seeSlot D 0) ∨ (k = 0 ∧ y 37 = i64n 2 ∧ J = (J0.seeSlot D 0).seeSlot D 1))
def slotFin (h0 : Heap) (d j : Nat) (D : Dk) (J0 : Jn) (ex : Ex) (y : Nat → Value) (g : Heap) : Prop :=
  ex = .exit 0 ∧ y 0 = ptr d 0 ∧ y 6 = ptr j 0 ∧ IsJn g j d ((J0.seeSlot D 0).seeSlot D 1) ∧ Kept h0 g (fun c => c = j)
include x hj h2
/-- The end of a round: what the blocks of the slot's area show, and the next slot. -/
theorem slot_tail {s k : Nat} (hs : s ≤ 1) {y : Nat → Value} {g : Heap} {J : Jn} (i0 : y 0 = ptr d 0) (i6 : y 6 = ptr j 0) (i7 : y 7 = i64n s) (i83 : y 83 = i64n D.ar) (i84 : y 84 = i64n 0) (i37 : y 37 = i64n s) (hJ : IsJn g j d J) (hold : Kept h0 g (fun c => c = j))
    (hnext : ∀ y' g', y' 0 = ptr d 0 → y' 6 = ptr j 0 → y' 37 = i64n (s + 1) → IsJn g' j d (Jn.seeLogs D s D.ar 0 J) → Kept h0 g' (fun c => c = j) → Rnd 131 (slotInv h0 d j D J0) (slotFin h0 d j D J0) k (some (.normal, mkF 131 y', g'))) :
    Rnd 131 (slotInv h0 d j D J0) (slotFin h0 d j D J0) k (endL (iter (codeA Try.prog CD (partOf Try.f21 [1, 1, 1, 1, 0, 1, 0, 0, 1, 1, 0, 0, 1, 1, 1, 0, 0])) rounds (mkF 131 y) g) (fun e h => some (Ex.ret, e, h)) (b21_25 CD)) := by
  have xg : IsDk g d D := hold.dk x (fun h => (hj.ne_d x) h.symm) (fun h => (hj.ne_bb x) h.symm)
  refine endL_fin (Q := fun o => Rnd 131 (slotInv h0 d j D J0) (slotFin h0 d j D J0) k o) (see_loop xg hJ h2 hs i0 i6 i7 i83 i84) ?_
  rintro ex y' g' ⟨rfl, f0, f6, f37, _, _, _, fJ, fk⟩
  simp -implicitDefEqProofs only [endL_exit, b21_25, if_true, t21k21_16_eq]
  unfold t21k21_16
  rw [f37, i37]
  simp -implicitDefEqProofs only [add31 (show s + 1 ≤ 9223372036854775807 by omega), pu_some, thenV_some]
  exact hnext _ g' f0 f6 rfl fJ (hold.trans fk)

theorem slot_round : ∀ k y g, slotInv h0 d j D J0 k y g → Rnd 131 (slotInv h0 d j D J0) (slotFin h0 d j D J0) k (t21l21_1111010 CD y g) := by
  rintro k y g ⟨J, i0, i6, hJ, hold, hcase⟩
  have hsm := x.small
  have xg : IsDk g d D := hold.dk x (fun h => (hj.ne_d x) h.symm) (fun h => (hj.ne_bb x) h.symm)
  have main : ∀ s, s ≤ 1 → y 37 = i64n s → (∀ y' g', y' 0 = ptr d 0 → y' 6 = ptr j 0 → y' 37 = i64n (s + 1) → IsJn g' j d (J.seeSlot D s) → Kept h0 g' (fun c => c = j) → Rnd 131 (slotInv h0 d j D J0) (slotFin h0 d j D J0) k (some (.normal, mkF 131 y', g'))) →
      Rnd 131 (slotInv h0 d j D J0) (slotFin h0 d j D J0) k (t21l21_1111010 CD y g) := by
    intro s hs i37 hnext
    obtain ⟨g1, e1, o1⟩ := r54 xg (show s < D.n by omega)
    have hJ1 : IsJn g1 j d J := hJ.keep o1 (fun h => h)
    have hold1 : Kept h0 g1 (fun c => c = j) := hold.also o1 (fun _ _ h => h.elim)
    have xg1 := Old.dk o1 xg
    have hx0 : ∀ a b c : Value, extractA (.tuple #[a, b, c]) 0 = some a := fun _ _ _ => rfl
    have hx1 : ∀ a b c : Value, extractA (.tuple #[a, b, c]) 1 = some b := fun _ _ _ => rfl
    have hx2 : ∀ a b c : Value, extractA (.tuple #[a, b, c]) 2 = some c := fun _ _ _ => rfl
    have hlt : bin Try.prog .lss 3 (i64n s) (.int .i64 2) = some (.bool true) := by
      have := lss3 s 2
      rw [decide_eq_true (by omega)] at this
      exact this
    have hsee : J.seeSlot D s = Jn.seeLogs D s D.ar 0 (J.seeSuper D s) := rfl
    unfold t21l21_1111010
    simp -implicitDefEqProofs only [i37, hlt, pu_some, thenV_some, i0, e1, hx0, hx1, hx2]
    cases hok : superOk (D.blk s) with
    | false =>
      have hss : J.seeSuper D s = J := by unfold Jn.seeSuper; rw [hok]; rfl
      rw [hss] at hsee
      simp -implicitDefEqProofs only [thenV_some, r55 xg1 h2]
      exact slot_tail x hj h2 (s := s) hs i0 i6 rfl rfl rfl i37 hJ1 hold1 (fun y' g' a1 a2 a3 a4 a5 => hnext y' g' a1 a2 a3 (hsee ▸ a4) a5)
    | true =>
      have hss : J.seeSuper D s = { J.takeSuper D s with known := max J.known (superGen (D.blk s)) } := by unfold Jn.seeSuper; rw [hok]; rfl
      simp -implicitDefEqProofs only [thenV_some, i6, nilCheck_ptr, pu_some, addP_ptr, Nat.zero_add, hJ1.l2, bin_lss, bOf_bool]
      -- the choice
      by_cases hc : J.slot < 0 ∨ J.gen < superGen (D.blk s)
      · have htk : J.takeSuper D s = { J with slot := s, gen := superGen (D.blk s), area := superArea (D.blk s) } := by unfold Jn.takeSuper; rw [if_pos hc]
        rw [htk] at hss
        obtain ⟨g2, a1, a2, a3, a4⟩ := hJ1.st 2 (i64n s) { J with slot := s } (by decide) rfl rfl rfl hJ.area
        obtain ⟨g3, b1, b2, b3, b4⟩ := a2.st 4 (.int .u64 (superGen (D.blk s))) { J with slot := s, gen := superGen (D.blk s) } (by decide) rfl rfl rfl hJ.area
        obtain ⟨g4, c1, c2, c3, c4⟩ := b2.st 3 (i64n (superArea (D.blk s))) { J with slot := s, gen := superGen (D.blk s), area := superArea (D.blk s) } (by decide) rfl rfl rfl (superArea_le hok)
        obtain ⟨g5, d1, d2, d3, d4⟩ := c2.st 5 (.int .u64 ((max J.known (superGen (D.blk s)) : Nat) : Int)) { J with slot := s, gen := superGen (D.blk s), area := superArea (D.blk s), known := max J.known (superGen (D.blk s)) } (by decide) rfl rfl rfl (superArea_le hok)
        have hold5 : Kept h0 g5 (fun c => c = j) := (((hold1.trans a3).trans b3).trans c3).trans d3
        have xg5 : IsDk g5 d D := hold5.dk x (fun h => (hj.ne_d x) h.symm) (fun h => (hj.ne_bb x) h.symm)
        have hl5 : ld1 (ptr j 5) g4 = some (.int .u64 J.known, g4) := c2.l5
        have hfin : Rnd 131 (slotInv h0 d j D J0) (slotFin h0 d j D J0) k (endL (iter (codeA Try.prog CD (partOf Try.f21 [1, 1, 1, 1, 0, 1, 0, 0, 1, 1, 0, 0, 1, 1, 1, 0, 0])) rounds (mkF 131 y) g5) (fun e h => some (Ex.ret, e, h)) (b21_25 CD)) → True := fun _ => trivial
        by_cases hc1 : J.slot < 0
        · simp -implicitDefEqProofs only [hc1, decide_true, sf, guardK_false, thenV_some, if_true, nilCheck_ptr, pu_some, addP_ptr, Nat.zero_add, a1, b1, c1, hl5, mx64, d1, r55 xg5 h2]
          exact slot_tail x hj h2 (s := s) hs i0 i6 rfl rfl rfl i37 d2 hold5 (fun y' g' a1 a2 a3 a4 a5 => hnext y' g' a1 a2 a3 (hsee ▸ hss ▸ a4) a5)
        · have hc2 : J.gen < superGen (D.blk s) := hc.resolve_left hc1
          simp -implicitDefEqProofs only [hc1, decide_false, beq_self_eq_true, guardK_true, thenV_some, nilCheck_ptr, pu_some, addP_ptr, Nat.zero_add, hJ1.l4, gtr58, Bool.false_eq_true, if_false, hc2, decide_true, a1, b1, c1, hl5, mx64, d1, r55 xg5 h2]
          exact slot_tail x hj h2 (s := s) hs i0 i6 rfl rfl rfl i37 d2 hold5 (fun y' g' a1 a2 a3 a4 a5 => hnext y' g' a1 a2 a3 (hsee ▸ hss ▸ a4) a5)
      · have htk : J.takeSuper D s = J := by unfold Jn.takeSuper; rw [if_neg hc]
        rw [htk] at hss
        have hc1 : ¬ J.slot < 0 := fun h => hc (.inl h)
        have hc2 : ¬ J.gen < superGen (D.blk s) := fun h => hc (.inr h)
        obtain ⟨g5, d1, d2, d3, d4⟩ := hJ1.st 5 (.int .u64 ((max J.known (superGen (D.blk s)) : Nat) : Int)) { J with known := max J.known (superGen (D.blk s)) } (by decide) rfl rfl rfl hJ.area
        have hold5 : Kept h0 g5 (fun c => c = j) := hold1.trans d3
        have xg5 : IsDk g5 d D := hold5.dk x (fun h => (hj.ne_d x) h.symm) (fun h => (hj.ne_bb x) h.symm)
        simp -implicitDefEqProofs only [hc1, decide_false, beq_self_eq_true, guardK_true, thenV_some, nilCheck_ptr, pu_some, addP_ptr, Nat.zero_add, hJ1.l4, gtr58, Bool.false_eq_true, if_false, hc2, hJ1.l5, mx64, d1, r55 xg5 h2]
        exact slot_tail x hj h2 (s := s) hs i0 i6 rfl rfl rfl i37 d2 hold5 (fun y' g' a1 a2 a3 a4 a5 => hnext y' g' a1 a2 a3 (hsee ▸ hss ▸ a4) a5)
  rcases hcase with ⟨rfl, i37, rfl⟩ | ⟨rfl, i37, rfl⟩ | ⟨rfl, i37, rfl⟩
  · exact main 0 (by decide) i37 (fun y' g' a1 a2 a3 a4 a5 => Rnd.next 1 (by decide) ⟨_, a1, a2, a4, a5, .inr (.inl ⟨rfl, a3, rfl⟩)⟩)
  · exact main 1 (by decide) i37 (fun y' g' a1 a2 a3 a4 a5 => Rnd.next 0 (by decide) ⟨_, a1, a2, a4, a5, .inr (.inr ⟨rfl, a3, rfl⟩)⟩)
  · have hlt : bin Try.prog .lss 3 (i64n 2) (.int .i64 2) = some (.bool false) := by
      have := lss3 2 2
      rw [decide_eq_false (by omega)] at this
      exact this
    unfold t21l21_1111010
    simp -implicitDefEqProofs only [i37, hlt, pu_some, thenV_some]
    exact Rnd.out 0 ⟨rfl, i0, i6, hJ, hold⟩
end
end Go.Proofs.Ytcmfgmhadeeieaa

namespace Go.Proofs.Ytcmfgmhadeeieaa
open Go Go.Abs

def EntAt (h : Heap) (N : Nat) (cells : List Value) (i : Nat) (e : Nat × List Nat) : Prop :=
  cells[2 * i]? = some (i64n e.1) ∧ ∃ a n c, cells[2 * i + 1]? = some (.slice a n c) ∧ sliceBytes a n h = some e.2 ∧ goodS a n c = true ∧ ∀ y, a = some y → 0 < n → N ≤ y.block
/-- Entries, as they stand in memory. -/
def EntsAt (h : Heap) (N : Nat) (cells : List Value) (ents : List (Nat × List Nat)) : Prop := cells.length = 2 * ents.length ∧ ∀ i e, ents[i]? = some e → EntAt h N cells i e
theorem EntsAt.keep {h h' : Heap} {N : Nat} {cells : List Value} {ents : List (Nat × List Nat)} (E : EntsAt h N cells ents) {B : Nat → Prop} (k : Kept h h' B) (hB : ∀ b, B b → Plain h b) : EntsAt h' N cells ents := by
  refine ⟨E.1, fun i e he => ?_⟩
  obtain ⟨h1, a, n, c, h2, h3, h4, h5⟩ := E.2 i e he
  exact ⟨h1, a, n, c, h2, k.bytesP hB h3, h4, h5⟩
theorem EntsAt.nil (h : Heap) (N : Nat) : EntsAt h N [] [] := ⟨rfl, fun i e he => by simp at he⟩
theorem EntsAt.plain {h : Heap} {N : Nat} {cells : List Value} {ents : List (Nat × List Nat)} (E : EntsAt h N cells ents) : ∀ v ∈ cells, nat8 v = none := by
  intro v hv
  obtain ⟨q, hq⟩ := List.getElem?_of_mem hv
  have hl := (List.getElem?_eq_some_iff.1 hq).1
  rw [E.1] at hl
  have hi : q / 2 < ents.length := by omega
  obtain ⟨h1, a, n, c, h2, _⟩ := E.2 (q / 2) ents[q / 2] (List.getElem?_eq_getElem hi)
  rcases Nat.mod_two_eq_zero_or_one q with h0 | h0
  · rw [show 2 * (q / 2) = q by omega, hq] at h1; cases h1; rfl
  · rw [show 2 * (q / 2) + 1 = q by omega, hq] at h2; cases h2; rfl
theorem EntsAt.snoc {h : Heap} {N : Nat} {cells : List Value} {ents : List (Nat × List Nat)} (E : EntsAt h N cells ents) {at_ : Nat} {l : List Nat} {a : Option Addr} {n c : Nat} (hs : sliceBytes a n h = some l) (hg : goodS a n c = true) (ha : ∀ y, a = some y → 0 < n → N ≤ y.block) :
    EntsAt h N (cells ++ [i64n at_, .slice a n c]) (ents ++ [(at_, l)]) := by
  refine ⟨by simp [E.1]; omega, fun i e he => ?_⟩
  have hl := E.1
  by_cases hi : i < ents.length
  · rw [List.getElem?_append_left hi] at he
    obtain ⟨h1, a', n', c', h2, h3⟩ := E.2 i e he
    exact ⟨by rw [List.getElem?_append_left (by omega)]; exact h1, a', n', c', by rw [List.getElem?_append_left (by omega)]; exact h2, h3⟩
  · rw [List.getElem?_append_right (by omega)] at he
    have : i = ents.length := by
      have := (List.getElem?_eq_some_iff.1 he).1
      simp at this; omega
    subst this
    rw [Nat.sub_self] at he
    cases he
    refine ⟨by rw [List.getElem?_append_right (by omega), hl, Nat.sub_self]; rfl, a, n, c, ?_, hs, hg, ha⟩
    rw [List.getElem?_append_right (by omega), hl, Nat.add_sub_cancel_left]; rfl

/-- The entries from a position. -/
def Dk.ents (D : Dk) (J : Jn) : Nat → Nat → List (Nat × List Nat)
  | 0, _ => []
  | k + 1, at_ => if at_ < D.ar then if J.stands D at_ then (at_, D.data J.area at_ (D.parts J.area at_)) :: D.ents J k (at_ + D.parts J.area at_) else D.ents J k (at_ + 1) else []
theorem Dk.ents_end {D : Dk} {J : Jn} {at_ : Nat} (h : D.ar ≤ at_) : ∀ k, D.ents J k at_ = []
  | 0 => rfl
  | k + 1 => by unfold Dk.ents; rw [if_neg (by omega)]
theorem Jn.stands_iff {J : Jn} {D : Dk} {at_ : Nat} (hat : at_ < D.ar) : J.stands D at_ = (decide (0 ≤ J.slot) && D.stands J.area J.gen at_) := by
  unfold Jn.stands
  rw [Int.toNat_natCast, decide_eq_true (show (0 : Int) ≤ (at_ : Int) by omega), decide_eq_true (show (at_ : Int) < (D.ar : Int) by omega), Bool.and_true, Bool.and_true]
/-- A record, looked at. -/
theorem r57 {h : Heap} {d j : Nat} {D : Dk} {J : Jn} (x : IsDk h d D) (xj : IsJn h j d J) (h2 : 2 ≤ D.n) {at_ : Nat} (hat : at_ < D.ar) :
    (J.stands D at_ = false ∧ ∃ h', CD 57 [ptr j 0, i64n at_] h = some (.tuple #[.slice none 0 0, i64n 0], h') ∧ Old h h') ∨
    (J.stands D at_ = true ∧ ∃ v h', CD 57 [ptr j 0, i64n at_] h = some (.tuple #[v, i64n (D.parts J.area at_)], h') ∧ Old h h' ∧ OwnB h' h.next v (D.data J.area at_ (D.parts J.area at_))) := by
  rw [Jn.stands_iff hat]
  by_cases hs : 0 ≤ J.slot
  · rw [decide_eq_true hs, Bool.true_and]
    exact r57_run x xj h2 hs hat
  · rw [decide_eq_false hs, Bool.false_and]
    exact .inl ⟨rfl, h, r57_start x xj h2 at_ (.inl (by omega)), Kept.refl _ _⟩

section
variable {h0 : Heap} {d j : Nat} {D : Dk} {J : Jn} (x : IsDk h0 d D) (xj : IsJn h0 j d J) (h2 : 2 ≤ D.n)
def entInv (h0 : Heap) (d j : Nat) (D : Dk) (J : Jn) (k : Nat) (y : Nat → Value) (g : Heap) : Prop :=
  ∃ at_ cells done, y 0 = ptr d 0 ∧ y 6 = ptr j 0 ∧ y 15 = i64n at_ ∧ OwnC g h0.next 2 (y 14) done.length cells ∧ EntsAt g h0.next cells done ∧ Old h0 g ∧ at_ ≤ D.ar ∧ D.ar ≤ at_ + k ∧ done ++ D.ents J k at_ = D.ents J D.ar 0 ∧ done.length ≤ at_
def entFin (h0 : Heap) (j : Nat) (D : Dk) (J : Jn) (ex : Ex) (y : Nat → Value) (g : Heap) : Prop :=
  ex = .exit 4 ∧ y 6 = ptr j 0 ∧ ∃ cells, OwnC g h0.next 2 (y 14) (D.ents J D.ar 0).length cells ∧ EntsAt g h0.next cells (D.ents J D.ar 0) ∧ Old h0 g
include x xj h2
theorem ent_round : ∀ k y g, entInv h0 d j D J k y g → Rnd 131 (entInv h0 d j D J) (entFin h0 j D J) k (t21l21_111111010 CD y g) := by
  rintro k y g ⟨at_, cells, done, i0, i6, i15, own, E, hold, hle, hk, hents, hdl⟩
  have hsm := x.small
  have har : D.ar = (D.n - 2) / 2 := rfl
  have xg := Old.dk hold x
  have jg := xj.keep hold (fun h => h)
  unfold t21l21_111111010
  simp -implicitDefEqProofs only [i15, i0, thenV_some, r55 xg h2, lss3, pu_some]
  by_cases hlt : at_ < D.ar
  · obtain ⟨q, rfl⟩ : ∃ q, k = q + 1 := ⟨k - 1, by omega⟩
    have hx0 : ∀ a b : Value, extractA (.tuple #[a, b]) 0 = some a := fun _ _ => rfl
    have hx1 : ∀ a b : Value, extractA (.tuple #[a, b]) 1 = some b := fun _ _ => rfl
    have hg0 : ∀ p : Nat, bin Try.prog .gtr 3 (i64n p) (.int .i64 0) = some (.bool (decide (0 < p))) := fun p => gtr3 p 0
    have hents2 : D.ents J (q + 1) at_ = if J.stands D at_ then (at_, D.data J.area at_ (D.parts J.area at_)) :: D.ents J q (at_ + D.parts J.area at_) else D.ents J q (at_ + 1) := by
      show (if at_ < D.ar then _ else _) = _
      rw [if_pos hlt]
    rw [hents2] at hents
    rcases r57 xg jg h2 hlt with ⟨hst, g1, e1, o1⟩ | ⟨hst, v, g1, e1, o1, ob⟩
    · rw [hst] at hents
      have hmx : minmax true (i64n 0) [.int .i64 1] = some (i64n 1) := rfl
      simp -implicitDefEqProofs only [decide_eq_true hlt, i6, thenV_some, e1, hx0, hx1, pu_some, hg0, Nat.lt_irrefl, decide_false, hmx, add3 (show at_ + 1 ≤ 9223372036854775807 by omega)]
      exact Rnd.next q (by omega) ⟨at_ + 1, cells, done, i0, i6, rfl, own.keep o1 (fun _ _ h => h), E.keep o1 (fun _ h => h.elim), hold.trans o1, by omega, by omega, hents, by omega⟩
    · rw [hst, if_pos rfl] at hents
      have hpos : 1 ≤ D.parts J.area at_ ∧ at_ + D.parts J.area at_ ≤ D.ar := by
        rw [Jn.stands_iff hlt, Bool.and_eq_true] at hst
        exact Dk.stands_pos hst.2
      generalize hp : D.parts J.area at_ = p at *
      generalize hdat : D.data J.area at_ p = l at *
      obtain ⟨a, c, rfl, s1, s2, s3, s4⟩ := ob.bytes
      have hmx : minmax true (i64n p) [.int .i64 1] = some (i64n p) := by
        simp only [minmax, i64n, if_true]
        rw [if_neg (by have := hpos.1; simp; omega)]
      have hbl : bldR [(.int .i64 0), (.slice none 0 0)] [(0, 1, i64n at_), (1, 1, .slice a l.length c)] = some (.agg [i64n at_, .slice a l.length c].toArray) := rfl
      have hbs : bslR 2 (.agg #[(.int .i64 0), (.slice none 0 0)]) 1 [(0, .agg [i64n at_, .slice a l.length c].toArray)] g1 = some (.slice (some ⟨g1.next, 0, none⟩) 1 1, g1.alloc [i64n at_, .slice a l.length c]) := rfl
      have oA : Old g1 (g1.alloc [i64n at_, .slice a l.length c]) := Kept.alloc _ _ _
      have gA : (g1.alloc [i64n at_, .slice a l.length c]).get g1.next = some [i64n at_, .slice a l.length c] := by rw [Heap.get_alloc, if_pos rfl]
      have ownA := (own.keep o1 (fun _ _ h => h)).keep oA (fun _ _ h => h)
      have EA := (E.keep o1 (fun _ h => h.elim)).keep oA (fun _ h => h.elim)
      have holdA : Old h0 (g1.alloc [i64n at_, .slice a l.length c]) := (hold.trans o1).trans oA
      have sA := Old.bytes oA s1
      generalize hgA : g1.alloc [i64n at_, .slice a l.length c] = gA1 at *
      have hfA : firstA 2 1 (.slice (some ⟨g1.next, 0, none⟩) 1 1) gA1 = some [i64n at_, .slice a l.length c] := by
        simp only [firstA, gA]
        rfl
      obtain ⟨v', g4, f1, f2, f3, f4⟩ := append_own (by_ := 32) (x := .slice (some ⟨g1.next, 0, none⟩) 1 1) (m := 1) ownA (by rw [holdA.n0]; exact h0.n0_le_next) holdA.next (by decide) rfl hfA rfl rfl rfl (by omega) (by omega)
      have pl : ∀ b, baseOf (y 14) = some b ∧ gA1.get b = some cells → Plain gA1 b := fun b hb => ⟨cells, hb.2, EA.plain⟩
      have s5 := f3.bytesP pl sA
      have E5 := EA.keep f3 pl
      have hN : h0.next ≤ g.next := hold.next
      simp -implicitDefEqProofs only [decide_eq_true hlt, i6, thenV_some, e1, hx0, hx1, pu_some, hg0, decide_eq_true (show 0 < p by omega), hbl, hbs, f1, hmx, add3 (show at_ + p ≤ 9223372036854775807 by omega)]
      refine Rnd.next q (by omega) ⟨at_ + p, cells ++ [i64n at_, .slice a l.length c], done ++ [(at_, l)], i0, i6, rfl, ?_, E5.snoc s5 s2 (fun y hy _ => Nat.le_trans hN (s3 y hy)), ?_, by omega, by omega, ?_, ?_⟩
      · rw [List.length_append]; exact f2
      · exact holdA.also f3 (fun c hc hb => by have := ownA.base hb.1; omega)
      · rw [List.append_assoc]; exact hents
      · rw [List.length_append]
        show done.length + 1 ≤ _
        omega
  · simp -implicitDefEqProofs only [decide_eq_false hlt]
    rw [D.ents_end (by omega) k, List.append_nil] at hents
    refine Rnd.out 4 ⟨rfl, i6, cells, ?_, ?_, hold⟩
    · rw [← hents]; exact own
    · rw [← hents]; exact E
end

/-- The disk after an Open. -/
def Dk.opened (D : Dk) : Dk := { D with turn := IntKind.wrap .i64 (D.turn + 1) }
theorem X53 : XX 53 = s53 := rfl
theorem is21 : IsFn Try.prog 21 Try.f21 := ⟨by kernel_rfl, by kernel_rfl, by kernel_rfl, by kernel_rfl⟩
/-- The journal that Open returns. -/
def Dk.jn (D : Dk) : Jn := D.opened.openJ D.opened.turn
def Dk.entries (D : Dk) : List (Nat × List Nat) := D.opened.ents D.jn D.ar 0

theorem r21 {h : Heap} {d : Nat} {D : Dk} (x : IsDk h d D) (h2 : 2 ≤ D.n) (hd : D.down = false) :
    ∃ j v cells N h', CD 21 [ptr d 0] h = some (.tuple #[ptr j 0, v, .int .i64 0], h') ∧ IsDk h' d D.opened ∧ IsJn h' j d D.jn ∧ OwnC h' N 2 v D.entries.length cells ∧ EntsAt h' N cells D.entries ∧ Kept h h' (fun c => c = d) ∧ h.next ≤ j ∧ j < N ∧ N ≤ h'.next := by
  have hf : D.fault 0 = 0 := by unfold Dk.fault; rw [hd, if_neg (by simp), if_neg (by omega)]
  have e53 : CD 53 [ptr d 0, .int .i64 0] h = some (.int .i64 0, h) := CD_known (by rw [X53, s53_at 0 x, hf])
  have hst := x.s5 (IntKind.wrap .i64 (D.turn + 1))
  have x1 : IsDk (h.set d D.opened.hdr) d D.opened := x.setHdr ⟨rfl, rfl, rfl⟩ x.after x.keep
  have hst : stN 1 (ptr d 5) (.int .i64 (IntKind.wrap .i64 (D.turn + 1))) h = some (undef, h.set d D.opened.hdr) := hst
  have k1 : Kept h (h.set d D.opened.hdr) (fun c => c = d) := Kept.set x.dn x.hdr (.inr rfl)
  have hn1 : (h.set d D.opened.hdr).next = h.next := rfl
  have hdlt := x.lt
  generalize hh1 : h.set d D.opened.hdr = h1 at *
  have hl5 : ld1 (ptr d 5) h1 = some (.int .i64 D.opened.turn, h1) := x1.l5
  have hbl : bldR [(.pointer none), (.int .i64 0), (.int .i64 0), (.int .i64 0), (.int .u64 0), (.int .u64 0), (.bool false), (.int .i64 0)] [(0, 1, ptr d 0), (1, 1, .int .i64 D.opened.turn), (2, 1, (.int .i64 (-1)))] = some (.agg ((D.opened.jn0 D.opened.turn).cells d).toArray) := rfl
  have hbox := box_at h1 ((D.opened.jn0 D.opened.turn).cells d) rfl
  have oA : Old h1 (h1.alloc ((D.opened.jn0 D.opened.turn).cells d)) := Kept.alloc _ _ _
  have xA := Old.dk oA x1
  have jA : IsJn (h1.alloc ((D.opened.jn0 D.opened.turn).cells d)) h1.next d (D.opened.jn0 D.opened.turn) := ⟨by rw [Heap.get_alloc, if_pos rfl], h1.n0_le_next, by show (0 : Nat) ≤ 1; omega⟩
  have nA : (h1.alloc ((D.opened.jn0 D.opened.turn).cells d)).next = h1.next + 1 := Heap.next_alloc ..
  have kA : Kept h (h1.alloc ((D.opened.jn0 D.opened.turn).cells d)) (fun c => c = d) := k1.also oA (fun _ _ h => h.elim)
  have h2' : 2 ≤ D.opened.n := h2
  have hr : (131 : Nat) < rounds := by have : rounds = 18446744073709551616 := rfl; omega
  generalize hhA : h1.alloc ((D.opened.jn0 D.opened.turn).cells d) = hA at *
  have key : ∀ o : Out, t21 CD (ptr d 0) h = o → ∃ v cells N h', o = some (.tuple #[ptr h1.next 0, v, .int .i64 0], h') ∧ IsDk h' d D.opened ∧ IsJn h' h1.next d D.jn ∧ OwnC h' N 2 v D.entries.length cells ∧ EntsAt h' N cells D.entries ∧ Kept h h' (fun c => c = d) ∧ h1.next < N ∧ N ≤ h'.next := by
    intro o ho
    subst ho
    unfold t21
    simp -implicitDefEqProofs only [thenV_some, e53, pu_some, bin28n0, bne_self_eq_false, nilCheck_ptr, addP_ptr, Nat.zero_add, x.l5, bin_add, hst, hl5, hbl, hbox]
    refine endL_fin (Q := fun (o : Out) => ∃ v cells N h', o = some (.tuple #[ptr h1.next 0, v, .int .i64 0], h') ∧ IsDk h' d D.opened ∧ IsJn h' h1.next d D.jn ∧ OwnC h' N 2 v D.entries.length cells ∧ EntsAt h' N cells D.entries ∧ Kept h h' (fun c => c = d) ∧ h1.next < N ∧ N ≤ h'.next)
      (loop_fin (t21l21_1111010_eq CD) (slot_round xA jA h2') 2 (by omega) ⟨D.opened.jn0 D.opened.turn, rfl, rfl, jA, Kept.refl _ _, .inl ⟨rfl, rfl, rfl⟩⟩) ?_
    rintro ex y g ⟨rfl, f0, f6, fJ, fk⟩
    have xg : IsDk g d D.opened := fk.dk xA (fun h => (jA.ne_d xA) h.symm) (fun h => (jA.ne_bb xA) h.symm)
    have kg : Kept h g (fun c => c = d) := kA.also fk (fun c hc he => by omega)
    have hgn : h1.next < g.next := by have := fk.next; omega
    simp -implicitDefEqProofs only [endL_exit, b21_9, if_true, t21k21_7_eq]
    unfold t21k21_7
    simp -implicitDefEqProofs only [thenV_some]
    refine endL_fin (Q := fun (o : Out) => ∃ v cells N h', o = some (.tuple #[ptr h1.next 0, v, .int .i64 0], h') ∧ IsDk h' d D.opened ∧ IsJn h' h1.next d D.jn ∧ OwnC h' N 2 v D.entries.length cells ∧ EntsAt h' N cells D.entries ∧ Kept h h' (fun c => c = d) ∧ h1.next < N ∧ N ≤ h'.next)
      (loop_fin (t21l21_111111010_eq CD) (ent_round xg fJ h2') D.opened.ar (by have : rounds = 18446744073709551616 := rfl; have := xg.small; unfold Dk.ar; omega) ⟨0, [], [], f0, f6, rfl, OwnC.nil _ _ _, EntsAt.nil _ _, Kept.refl _ _, Nat.zero_le _, by omega, rfl, Nat.le_refl _⟩) ?_
    rintro ex z g2 ⟨rfl, q6, cells, q1, q2, q3⟩
    refine ⟨z 14, cells, g.next, g2, ?_, Old.dk q3 xg, fJ.keep q3 (fun h => h), q1, q2, kg.also q3 (fun _ _ h => h.elim), hgn, q3.next⟩
    simp -implicitDefEqProofs only [endL_exit, b21_13, if_true, t21k21_11_eq]
    unfold t21k21_11
    simp -implicitDefEqProofs only [thenV_some, q6]
  obtain ⟨v, cells, N, h', e, a1, a2, a3, a4, a5, a6, a7⟩ := key _ rfl
  exact ⟨h1.next, v, cells, N, h', CD_body is21 rfl ((t21_eq _ _ _).trans e), a1, a2, a3, a4, a5, by omega, a6, a7⟩
end Go.Proofs.Ytcmfgmhadeeieaa

namespace Go.Proofs.Ytcmfgmhadeeieaa
open Go Go.Abs

/-- A list of records that lies apart from some blocks. -/
def RecsG (h : Heap) (F : Nat → Prop) (v : Value) (vals : List (List Nat)) : Prop :=
  ∃ a c, v = .slice a vals.length c ∧ ∀ i r, vals[i]? = some r → ∃ b off s k ai ni ci, a = some ⟨b, off, s⟩ ∧ h.get b = some k ∧ ¬ F b ∧ k[off + i]? = some (.slice ai ni ci) ∧ sliceBytes ai ni h = some r ∧ goodS ai ni ci = true ∧ ∀ y, ai = some y → 0 < ni → ¬ F y.block
theorem RecsG.keep {h h' : Heap} {F B : Nat → Prop} {v : Value} {vals : List (List Nat)} (R : RecsG h F v vals) (k : Kept h h' B) (hB : ∀ c, B c → F c ∨ h.next ≤ c) : RecsG h' F v vals := by
  obtain ⟨a, c, rfl, hR⟩ := R
  refine ⟨a, c, rfl, fun i r hi => ?_⟩
  obtain ⟨b, off, s, kk, ai, ni, ci, h1, h2, h3, h4, h5, h6, h7⟩ := hR i r hi
  refine ⟨b, off, s, kk, ai, ni, ci, h1, k.getE h2 (fun hb => (hB b hb).elim h3 (fun h8 => by have := h.lt_of_get h2; omega)), h3, h4, k.bytes h5 (fun y hy hn hb => ?_), h6, h7⟩
  rcases hB _ hb with h8 | h8
  · exact h7 y hy hn h8
  · subst hy
    obtain ⟨b', o', s', e, hlt⟩ := sliceBytes_lt h5 hn
    cases e
    have : h.next ≤ b' := h8
    omega
theorem RecsG.at {h : Heap} {F : Nat → Prop} {v : Value} {vals : List (List Nat)} (R : RecsG h F v vals) {i : Nat} {r : List Nat} (hi : vals[i]? = some r) :
    ∃ p a n c, idxS 1 v (i64n i) = some p ∧ ld1 p h = some (.slice a n c, h) ∧ sliceBytes a n h = some r ∧ goodS a n c = true ∧ (∀ y, a = some y → 0 < n → ¬ F y.block) ∧ lenL v = some (i64n vals.length) := by
  obtain ⟨a, c, rfl, hR⟩ := R
  obtain ⟨b, off, s, kk, ai, ni, ci, rfl, h2, h3, h4, h5, h6, h7⟩ := hR i r hi
  have hl := (List.getElem?_eq_some_iff.1 hi).1
  refine ⟨ptr b (off + i * 1), ai, ni, ci, ?_, ?_, h5, h6, h7, rfl⟩
  · unfold idxS
    simp only [i64n]
    rw [if_pos (by omega), Int.toNat_natCast]
  · rw [Nat.mul_one]; exact ld1_at h2 h4
theorem RecsG.len {h : Heap} {F : Nat → Prop} {v : Value} {vals : List (List Nat)} (R : RecsG h F v vals) : lenL v = some (i64n vals.length) := by
  obtain ⟨a, c, rfl, hR⟩ := R
  rfl

def recsTot (vals : List (List Nat)) : Nat := (vals.map fun r => costN r.length).sum
section
variable {h0 : Heap} {d j : Nat} {D : Dk} {J : Jn} {F : Nat → Prop} {v : Value} {vals : List (List Nat)} (x : IsDk h0 d D) (xj : IsJn h0 j d J) (h2 : 2 ≤ D.n) (R : RecsG h0 F v vals) (hlen : vals.length ≤ 100000)
include x xj h2 R hlen
end

def rwF (j d : Nat) (D : Dk) (c : Nat) : Prop := c = j ∨ c = d ∨ c = D.bb
section
variable {h0 : Heap} {d j : Nat} {D : Dk} {J : Jn} {v : Value} {vals : List (List Nat)} {area gen : Nat} {slot : Int} (x : IsDk h0 d D) (xj : IsJn h0 j d J) (h2 : 2 ≤ D.n) (R : RecsG h0 (rwF j d D) v vals) (hlen : vals.length ≤ 100000)
  (ha : area ≤ 1) (hg : gen < 18446744073709551616) (htot : recsTot vals ≤ D.ar) (hall : ∀ r ∈ vals, r.length ≤ 20000)
include x xj h2 R hlen ha hg htot hall
end
end Go.Proofs.Ytcmfgmhadeeieaa

namespace Go.Proofs.Ytcmfgmhadeeieaa
open Go Go.Abs

section
variable {h : Heap} {d j : Nat} {D : Dk} {J : Jn} {v : Value} {vals : List (List Nat)} (x : IsDk h d D) (xj : IsJn h j d J) (h2 : 2 ≤ D.n) (ok : JnOk J D) (R : RecsG h (rwF j d D) v vals) (hlen : vals.length ≤ 100000)
include x xj h2 ok R hlen
end
end Go.Proofs.Ytcmfgmhadeeieaa

namespace Go.Proofs.Ytcmfgmhadeeieaa
open Go Go.Abs

theorem be_cons (x : Nat) : ∀ l : List Nat, be (x :: l) = x * 256 ^ l.length + be l := by
  have key : ∀ (l : List Nat) (a : Nat), l.foldl (fun v x => v * 256 + x) a = a * 256 ^ l.length + be l := by
    intro l
    induction l with
    | nil => intro a; simp [be]
    | cons y l ih =>
      intro a
      have e1 : be (y :: l) = l.foldl (fun v x => v * 256 + x) (0 * 256 + y) := rfl
      rw [List.foldl_cons, ih, e1, ih, List.length_cons, Nat.pow_succ, Nat.add_mul, Nat.zero_mul, Nat.zero_add, Nat.mul_assoc, Nat.mul_comm 256, Nat.add_assoc]
  intro l
  have e1 : be (x :: l) = l.foldl (fun v x => v * 256 + x) (0 * 256 + x) := rfl
  rw [e1, key, Nat.zero_mul, Nat.zero_add]
theorem be_beB : ∀ n v, be (beB n v) = v % 256 ^ n
  | 0, v => by simp [beB, be, Nat.mod_one]
  | n + 1, v => by
    rw [beB, be_cons, beB_length, be_beB n v, Nat.mod_pow_succ, Nat.mul_comm, Nat.add_comm]
theorem be_beB_lt {n v : Nat} (h : v < 256 ^ n) : be (beB n v) = v := by rw [be_beB, Nat.mod_eq_of_lt h]
theorem field {A F X : List Nat} {n m : Nat} (hA : A.length = n) (hF : F.length = m) : ((A ++ (F ++ X)).drop n).take m = F := by
  rw [List.drop_left' hA, List.take_left' hF]

theorem right_seal {l : List Nat} (hb : ∀ x ∈ l, x < 256) : right (sealB l) = true := by
  have hb2 : ∀ x ∈ l ++ List.replicate (124 - l.length) 0, x < 256 := by
    intro x hx
    rcases List.mem_append.1 hx with hx | hx
    · exact hb x hx
    · rw [List.eq_of_mem_replicate hx]; decide
  have hc := crcN_lt hb2
  unfold right sealB
  rw [List.take_left' (beB_length 4 _), List.drop_left' (beB_length 4 _), be_beB_lt (by omega)]
  exact beq_self_eq_true _

section
variable {gen at_ part parts : Nat} {data : List Nat} (hg : gen < 18446744073709551616) (hat : at_ < 4294967296) (hp : part < 65536) (hps : parts < 65536) (hd : data.length ≤ 106) (hb : ∀ x ∈ data, x < 256)
theorem logBody_byte (hb : ∀ x ∈ data, x < 256) : ∀ x ∈ logBody gen at_ part parts data, x < 256 := by
  intro x hx
  simp only [logBody, List.mem_append] at hx
  rcases hx with ((((hx | hx) | hx) | hx) | hx) | hx
  · exact beB_byte _ _ x hx
  · exact beB_byte _ _ x hx
  · exact beB_byte _ _ x hx
  · exact beB_byte _ _ x hx
  · exact beB_byte _ _ x hx
  · exact hb x hx
/-- The parts of a log block. -/
theorem logBlk_parts (gen at_ part parts : Nat) (data : List Nat) : ∃ C Z : List Nat, C.length = 4 ∧ logBlk gen at_ part parts data = C ++ (beB 8 gen ++ (beB 4 at_ ++ (beB 2 part ++ (beB 2 parts ++ (beB 2 data.length ++ (data ++ Z)))))) := by
  refine ⟨beB 4 (crcN (logBody gen at_ part parts data ++ List.replicate (124 - (logBody gen at_ part parts data).length) 0)), List.replicate (124 - (logBody gen at_ part parts data).length) 0, beB_length 4 _, ?_⟩
  simp only [logBlk, sealB, logBody, List.append_assoc]
theorem logBlk_length (hd : data.length ≤ 106) : (logBlk gen at_ part parts data).length = 128 := sealB_length (by rw [logBody_length]; omega)
theorem right_log (hb : ∀ x ∈ data, x < 256) : right (logBlk gen at_ part parts data) = true := right_seal (logBody_byte hb)
include hg in
theorem logGen_log : logGen (logBlk gen at_ part parts data) = gen := by
  obtain ⟨C, Z, hC, e⟩ := logBlk_parts gen at_ part parts data
  unfold logGen
  rw [e, field hC (beB_length 8 _), be_beB_lt (by omega)]
include hat in
theorem logPlace_log : logPlace (logBlk gen at_ part parts data) = at_ := by
  obtain ⟨C, Z, hC, e⟩ := logBlk_parts gen at_ part parts data
  unfold logPlace
  rw [e, ← List.append_assoc, field (by rw [List.length_append, hC, beB_length]) (beB_length 4 _), be_beB_lt (by omega)]
include hp in
theorem logPart_log : logPart (logBlk gen at_ part parts data) = part := by
  obtain ⟨C, Z, hC, e⟩ := logBlk_parts gen at_ part parts data
  unfold logPart
  rw [e, ← List.append_assoc, ← List.append_assoc, field (by simp only [List.length_append, hC, beB_length]) (beB_length 2 _), be_beB_lt (by omega)]
include hps in
theorem logParts_log : logParts (logBlk gen at_ part parts data) = parts := by
  obtain ⟨C, Z, hC, e⟩ := logBlk_parts gen at_ part parts data
  unfold logParts
  rw [e, ← List.append_assoc, ← List.append_assoc, ← List.append_assoc, field (by simp only [List.length_append, hC, beB_length]) (beB_length 2 _), be_beB_lt (by omega)]
include hd in
theorem logSize_log : logSize (logBlk gen at_ part parts data) = data.length := by
  obtain ⟨C, Z, hC, e⟩ := logBlk_parts gen at_ part parts data
  unfold logSize
  rw [e, ← List.append_assoc, ← List.append_assoc, ← List.append_assoc, ← List.append_assoc, field (by simp only [List.length_append, hC, beB_length]) (beB_length 2 _), be_beB_lt (by omega)]
include hd in
theorem logData_log : logData (logBlk gen at_ part parts data) = data := by
  have hs := logSize_log (gen := gen) (at_ := at_) (part := part) (parts := parts) hd
  obtain ⟨C, Z, hC, e⟩ := logBlk_parts gen at_ part parts data
  unfold logData
  rw [hs, if_pos hd, e, ← List.append_assoc, ← List.append_assoc, ← List.append_assoc, ← List.append_assoc, ← List.append_assoc, field (by simp only [List.length_append, hC, beB_length]) rfl]
include hat hp hps hd hb in
theorem logOk_log (at2 : Nat) (h1 : 1 ≤ parts) (h2 : part < parts) : logOk at2 (logBlk gen at_ part parts data) = (at_ == at2) := by
  unfold logOk
  rw [right_log hb, logPlace_log hat, logParts_log hps, logPart_log hp, logSize_log hd, decide_eq_true h1, decide_eq_true h2, decide_eq_true hd]
  simp
end

theorem right_zero : right (List.replicate 128 0) = false := by kernel_rfl
theorem superOk_zero : superOk (List.replicate 128 0) = false := by unfold superOk; rw [right_zero]; rfl
theorem logOk_zero (at_ : Nat) : logOk at_ (List.replicate 128 0) = false := by unfold logOk; rw [right_zero]; rfl

/-- The chunks of a record are the record. -/
theorem chunks (r : List Nat) : (List.range (costN r.length)).flatMap (chunk r) = r := by
  have key : ∀ k, (List.range k).flatMap (chunk r) = r.take (106 * k) := by
    intro k
    induction k with
    | zero => simp
    | succ k ih =>
      rw [List.range_succ, List.flatMap_append, ih]
      simp only [List.flatMap_cons, List.flatMap_nil, List.append_nil, chunk]
      rw [Nat.mul_succ, List.take_add]
  rw [key, List.take_of_length_le (costN_room _)]

/-- A record is placed. -/
def Dk.placed (D : Dk) (area gen at_ : Nat) (r : List Nat) : Prop := ∀ i, i < costN r.length → D.jb area (at_ + i) = logBlk gen (at_ + i) i (costN r.length) (chunk r i)
theorem chunk_byte {r : List Nat} (hb : ∀ x ∈ r, x < 256) (i : Nat) : ∀ x ∈ chunk r i, x < 256 := fun x hx => hb x (List.mem_of_mem_drop (List.mem_of_mem_take hx))
theorem Dk.placed_stands {D : Dk} {area gen at_ : Nat} {r : List Nat} (p : D.placed area gen at_ r) (hg : gen < 18446744073709551616) (hr : r.length ≤ 20000) (hb : ∀ x ∈ r, x < 256) (hfit : at_ + costN r.length ≤ D.ar) (har : D.ar ≤ 4096) :
    D.stands area gen at_ = true ∧ D.parts area at_ = costN r.length ∧ D.data area at_ (costN r.length) = r := by
  have hc := costN_le (n := r.length) (by omega)
  have hp := costN_pos r.length
  have h0 := p 0 (by omega)
  have hparts : D.parts area at_ = costN r.length := by
    unfold Dk.parts
    rw [Nat.add_zero] at h0
    rw [h0, logParts_log (by omega)]
  refine ⟨?_, hparts, ?_⟩
  · unfold Dk.stands
    rw [hparts, decide_eq_true hfit, decide_eq_true hp, Bool.true_and, Bool.true_and, List.all_eq_true]
    intro i hi
    have hi := List.mem_range.1 hi
    unfold Dk.part
    have hcl := chunk_length r i
    rw [p i hi, logOk_log (by omega) (by omega) (by omega) hcl (chunk_byte hb i) _ hp hi, logGen_log hg, logPart_log (by omega), logParts_log (by omega)]
    simp
  · unfold Dk.data
    have : (List.range (costN r.length)).flatMap (fun i => logData (D.jb area (at_ + i))) = (List.range (costN r.length)).flatMap (chunk r) := by
      have hcong : ∀ (l : List Nat) (f g : Nat → List Nat), (∀ i ∈ l, f i = g i) → l.flatMap f = l.flatMap g := by
        intro l f g
        induction l with
        | nil => intro _; rfl
        | cons a l ih =>
          intro h
          rw [List.flatMap_cons, List.flatMap_cons, h a List.mem_cons_self, ih (fun i hi => h i (List.mem_cons_of_mem _ hi))]
      refine hcong _ _ _ (fun i hi => ?_)
      rw [p i (List.mem_range.1 hi), logData_log (chunk_length r i)]
    rw [this, chunks]

/-- Two disks but for what stands on them. -/
structure Alike (D E : Dk) : Prop where
  bb : E.bb = D.bb
  n : E.n = D.n
  down : E.down = D.down
  armed : E.armed = D.armed
  turn : E.turn = D.turn
  len : E.img.length = D.img.length
theorem Alike.refl (D : Dk) : Alike D D := ⟨rfl, rfl, rfl, rfl, rfl, rfl⟩
theorem Alike.trans {A B C : Dk} (a : Alike A B) (b : Alike B C) : Alike A C := ⟨b.bb.trans a.bb, b.n.trans a.n, b.down.trans a.down, b.armed.trans a.armed, b.turn.trans a.turn, b.len.trans a.len⟩
theorem Alike.ar {D E : Dk} (a : Alike D E) : E.ar = D.ar := by unfold Dk.ar; rw [a.n]

/-- A block written with power. -/
theorem write_up {D : Dk} (hlen : D.img.length = 128 * D.n) (hd : D.down = false) (ha : D.armed = false) {i : Nat} (hi : i < D.n) {l : List Nat} (hl : l.length = 128) :
    D.write (i : Int) l = (0, D.lay (i : Int) l) ∧ Alike D (D.lay (i : Int) l) ∧ ∀ k, k < D.n → (D.lay (i : Int) l).blk k = if k = i then l else D.blk k := by
  refine ⟨?_, ⟨rfl, rfl, rfl, rfl, rfl, ?_⟩, ?_⟩
  · have hf : D.fault (i : Int) = 0 := by
      unfold Dk.fault
      rw [hd, if_neg (by simp), if_neg (by omega)]
    unfold Dk.write
    rw [if_pos hf, if_pos hl, ha, if_neg (by simp)]
  · unfold Dk.lay
    exact spliceN_length (by rw [Int.toNat_natCast]; omega)
  · intro k hk
    unfold Dk.lay Dk.blk
    simp only [Int.toNat_natCast]
    apply List.ext_getElem?
    intro q
    by_cases hq : q < 128
    · rw [List.getElem?_take, if_pos hq, List.getElem?_drop, getElem?_spliceN (by omega)]
      by_cases hki : k = i
      · subst hki
        rw [if_pos rfl, if_pos (by omega), Nat.add_sub_cancel_left]
      · rw [if_neg hki, if_neg (by omega), List.getElem?_take, if_pos hq, List.getElem?_drop]
    · rw [List.getElem?_take, if_neg hq]
      split
      · rw [List.getElem?_eq_none (by omega)]
      · rw [List.getElem?_take, if_neg hq]
end Go.Proofs.Ytcmfgmhadeeieaa

namespace Go.Proofs.Ytcmfgmhadeeieaa
open Go Go.Abs

/-- A disk with power, nothing armed. -/
structure Up (D : Dk) : Prop where
  len : D.img.length = 128 * D.n
  down : D.down = false
  armed : D.armed = false
theorem Up.alike {D E : Dk} (u : Up D) (a : Alike D E) : Up E := ⟨by rw [a.len, a.n, u.len], a.down.trans u.down, a.armed.trans u.armed⟩

theorem Dk.area_in (D : Dk) {area : Nat} (ha : area ≤ 1) (h1 : 1 ≤ D.ar) : 2 + area * D.ar + D.ar ≤ D.n := by
  have har : D.ar = (D.n - 2) / 2 := rfl
  have hm : area * D.ar ≤ D.ar := by
    have := Nat.mul_le_mul_right D.ar ha
    omega
  omega

theorem wr_up (area gen at_ parts : Nat) (r : List Nat) : ∀ (k i : Nat) (D : Dk), Up D → 2 + area * D.ar + at_ + i + k ≤ D.n →
    ∃ E, Dk.wr area gen at_ parts r k i D = (0, E) ∧ Alike D E ∧ ∀ b, b < D.n → E.blk b = if 2 + area * D.ar + at_ + i ≤ b ∧ b < 2 + area * D.ar + at_ + i + k then logBlk gen (b - (2 + area * D.ar)) (b - (2 + area * D.ar + at_)) parts (chunk r (b - (2 + area * D.ar + at_))) else D.blk b
  | 0, i, D, _, _ => ⟨D, rfl, .refl D, fun b _ => by rw [if_neg (by omega)]⟩
  | k + 1, i, D, u, h => by
    obtain ⟨w1, w2, w3⟩ := write_up u.len u.down u.armed (i := 2 + area * D.ar + at_ + i) (by omega) (l := logBlk gen (at_ + i) i parts (chunk r i)) (logBlk_length (chunk_length r i))
    obtain ⟨E, e1, e2, e3⟩ := wr_up area gen at_ parts r k (i + 1) _ (u.alike w2) (by rw [w2.ar, w2.n]; omega)
    refine ⟨E, ?_, w2.trans e2, ?_⟩
    · rw [Dk.wr, w1, if_pos rfl]
      exact e1
    · intro b hb
      rw [e3 b (by rw [w2.n]; exact hb), w2.ar, w3 b hb]
      generalize area * D.ar = q
      by_cases hbi : b = 2 + q + at_ + i
      · subst hbi
        rw [if_neg (by omega), if_pos rfl, if_pos (by omega), show 2 + q + at_ + i - (2 + q) = at_ + i by omega, show 2 + q + at_ + i - (2 + q + at_) = i by omega]
      · rw [if_neg hbi]
        by_cases hin : 2 + q + at_ + i ≤ b ∧ b < 2 + q + at_ + i + (k + 1)
        · rw [if_pos hin, if_pos (by omega)]
        · rw [if_neg hin, if_neg (by omega)]

theorem wrRec_up {D : Dk} (u : Up D) {area gen at_ : Nat} {r : List Nat} (ha : area ≤ 1) (hfit : at_ + costN r.length ≤ D.ar) :
    ∃ E, D.wrRec area gen at_ r = (0, E) ∧ Alike D E ∧ E.placed area gen at_ r ∧ ∀ b, b < D.n → (b < 2 + area * D.ar + at_ ∨ 2 + area * D.ar + at_ + costN r.length ≤ b) → E.blk b = D.blk b := by
  have hp := costN_pos r.length
  have hin := D.area_in ha (by omega)
  obtain ⟨E, e1, e2, e3⟩ := wr_up area gen at_ (costN r.length) r (costN r.length) 0 D u (by omega)
  refine ⟨E, e1, e2, ?_, ?_⟩
  · intro i hi
    unfold Dk.jb
    rw [e2.ar, e3 _ (by omega)]
    generalize area * D.ar = q at *
    rw [if_pos (by omega), show 2 + q + (at_ + i) - (2 + q) = at_ + i by omega, show 2 + q + (at_ + i) - (2 + q + at_) = i by omega]
  · intro b hb ho
    rw [e3 b hb, if_neg (by omega)]

/-- Records, one behind another. -/
def layR : List (List Nat) → Nat → List (Nat × List Nat)
  | [], _ => []
  | r :: rs, at_ => (at_, r) :: layR rs (at_ + costN r.length)
theorem recsTot_cons (r : List Nat) (rs : List (List Nat)) : recsTot (r :: rs) = costN r.length + recsTot rs := by simp [recsTot]
theorem recsTot_nil : recsTot [] = 0 := rfl
theorem recsTot_append (a b : List (List Nat)) : recsTot (a ++ b) = recsTot a + recsTot b := by simp [recsTot]
theorem layR_append : ∀ (a b : List (List Nat)) (at_ : Nat), layR (a ++ b) at_ = layR a at_ ++ layR b (at_ + recsTot a)
  | [], b, at_ => rfl
  | r :: rs, b, at_ => by
    rw [List.cons_append, layR, layR_append rs b, layR, recsTot_cons, Nat.add_assoc]; rfl
theorem lay_bound : ∀ (a : List (List Nat)) (at_ : Nat) (e : Nat × List Nat), e ∈ layR a at_ → at_ ≤ e.1 ∧ e.1 + costN e.2.length ≤ at_ + recsTot a ∧ e.2 ∈ a
  | [], _, e, h => by simp [layR] at h
  | r :: rs, at_, e, h => by
    rw [layR, List.mem_cons] at h
    rw [recsTot_cons]
    rcases h with rfl | h
    · exact ⟨Nat.le_refl _, by show at_ + costN r.length ≤ _; omega, List.mem_cons_self⟩
    · have := lay_bound rs _ e h
      exact ⟨by omega, by omega, List.mem_cons_of_mem _ this.2.2⟩

/-- What is placed stays placed where its blocks stay. -/
theorem Dk.placed.keep {D E : Dk} {area gen at_ : Nat} {r : List Nat} (p : D.placed area gen at_ r) (har : E.ar = D.ar) (h : ∀ i, i < costN r.length → E.blk (2 + area * D.ar + (at_ + i)) = D.blk (2 + area * D.ar + (at_ + i))) : E.placed area gen at_ r := by
  intro i hi
  have := p i hi
  unfold Dk.jb at this ⊢
  rw [har, h i hi, this]

/-- A block that is no block of a generation. -/
def Dk.noB (D : Dk) (area gen at_ : Nat) : Prop := logOk at_ (D.jb area at_) = false ∨ logGen (D.jb area at_) ≠ gen ∨ logPart (D.jb area at_) ≠ 0
theorem Dk.noB.stands {D : Dk} {area gen at_ : Nat} (h : D.noB area gen at_) : D.stands area gen at_ = false := by
  refine Dk.not_stands' (i := 0) (by omega) ?_
  unfold Dk.part
  rw [Nat.add_zero]
  rcases h with h | h | h
  · rw [h]; rfl
  · rw [beq_eq_false_iff_ne.2 h]; simp
  · rw [beq_eq_false_iff_ne.2 h]; simp

theorem ents_skip {D : Dk} {J : Jn} : ∀ (m at_ k : Nat), (∀ i, i < m → at_ + i < D.ar → D.stands J.area J.gen (at_ + i) = false) → D.ar ≤ at_ + k → ∃ k', D.ar ≤ at_ + m + k' ∧ D.ents J k at_ = D.ents J k' (at_ + m)
  | 0, at_, k, _, hk => ⟨k, hk, rfl⟩
  | m + 1, at_, k, h, hk => by
    by_cases hat : at_ < D.ar
    · obtain ⟨k0, rfl⟩ : ∃ k0, k = k0 + 1 := ⟨k - 1, by omega⟩
      have hs : J.stands D at_ = false := by
        rw [Jn.stands_iff hat]
        have := h 0 (by omega) hat
        rw [Nat.add_zero] at this
        rw [this, Bool.and_false]
      obtain ⟨k', h1, h2⟩ := ents_skip (D := D) (J := J) m (at_ + 1) k0 (fun i hi hai => by have := h (i + 1) (by omega) (by omega); rw [show at_ + 1 + i = at_ + (i + 1) by omega]; exact this) (by omega)
      refine ⟨k', by omega, ?_⟩
      rw [Dk.ents, if_pos hat, hs, if_neg (by decide), h2, show at_ + 1 + m = at_ + (m + 1) by omega]
    · exact ⟨0, by omega, by rw [Dk.ents_end (by omega), Dk.ents_end (by omega)]⟩

/-- The entries of records that are laid, but for those that are bad. -/
theorem ents_lay {D : Dk} {J : Jn} (hs : 0 ≤ J.slot) (hg : J.gen < 18446744073709551616) (har : D.ar ≤ 4096) (bad : Nat × List Nat → Bool) : ∀ (recs : List (List Nat)) (at_ k : Nat), (∀ r ∈ recs, r.length ≤ 20000 ∧ ∀ x ∈ r, x < 256) → at_ + recsTot recs ≤ D.ar → D.ar ≤ at_ + k →
    (∀ e ∈ layR recs at_, bad e = false → D.placed J.area J.gen e.1 e.2) → (∀ e ∈ layR recs at_, bad e = true → ∀ i, i < costN e.2.length → D.stands J.area J.gen (e.1 + i) = false) → (∀ p, at_ + recsTot recs ≤ p → p < D.ar → D.stands J.area J.gen p = false) →
    D.ents J k at_ = (layR recs at_).filter fun e => !bad e
  | [], at_, k, hr, hf, hk, h1, h2, h3 => by
    obtain ⟨k', _, e2⟩ := ents_skip (J := J) (D.ar - at_) at_ k (fun i hi _ => h3 _ (by rw [recsTot_nil]; omega) (by omega)) hk
    rw [e2, Dk.ents_end (by omega)]; rfl
  | r :: rs, at_, k, hr, hf, hk, h1, h2, h3 => by
    rw [recsTot_cons] at hf h3
    have hp := costN_pos r.length
    obtain ⟨hr1, hr2⟩ := hr r List.mem_cons_self
    have ih : ∀ k', D.ar ≤ at_ + costN r.length + k' → D.ents J k' (at_ + costN r.length) = (layR rs (at_ + costN r.length)).filter fun e => !bad e := fun k' hk' =>
      ents_lay hs hg har bad rs _ k' (fun r' h' => hr r' (List.mem_cons_of_mem _ h')) (by omega) hk' (fun e he => h1 e (by rw [layR]; exact List.mem_cons_of_mem _ he)) (fun e he => h2 e (by rw [layR]; exact List.mem_cons_of_mem _ he)) (fun p hp1 hp2 => h3 p (by omega) hp2)
    have hm : (at_, r) ∈ layR (r :: rs) at_ := by rw [layR]; exact List.mem_cons_self
    cases hb : bad (at_, r) with
    | true =>
      obtain ⟨k', e1, e2⟩ := ents_skip (J := J) (costN r.length) at_ k (fun i hi _ => h2 _ hm hb i hi) hk
      rw [e2, ih k' e1, layR, List.filter_cons, hb]; rfl
    | false =>
      obtain ⟨k0, rfl⟩ : ∃ k0, k = k0 + 1 := ⟨k - 1, by omega⟩
      obtain ⟨s1, s2, s3⟩ := Dk.placed_stands (h1 _ hm hb) hg hr1 hr2 (by show at_ + costN r.length ≤ _; omega) har
      have hst : J.stands D at_ = true := by rw [Jn.stands_iff (by omega), show D.stands J.area J.gen at_ = true from s1, decide_eq_true hs]; rfl
      have s2 : D.parts J.area at_ = costN r.length := s2
      have s3 : D.data J.area at_ (costN r.length) = r := s3
      rw [Dk.ents, if_pos (by omega), hst, if_pos rfl, s2, s3, ih k0 (by omega), layR, List.filter_cons, hb]; rfl
end Go.Proofs.Ytcmfgmhadeeieaa

namespace Go.Proofs.Ytcmfgmhadeeieaa
open Go Go.Abs

/-- A journal but for the highest generation that it knows. -/
def Jn.un (J : Jn) : Jn := { J with known := 0 }
theorem Jn.seeLog_un (D : Dk) (s at_ : Nat) (J : Jn) : (J.seeLog D s at_).un = J.un := by unfold Jn.seeLog; split <;> rfl
theorem Jn.seeLogs_un (D : Dk) (s : Nat) : ∀ k at_ J, (Jn.seeLogs D s k at_ J).un = J.un
  | 0, _, _ => rfl
  | k + 1, at_, J => by rw [Jn.seeLogs, Jn.seeLogs_un D s k, Jn.seeLog_un]
theorem Jn.takeSuper_un (D : Dk) (s : Nat) (J : Jn) : (J.takeSuper D s).un = J.un.takeSuper D s := by
  have h1 : J.un.slot = J.slot := rfl
  have h2 : J.un.gen = J.gen := rfl
  unfold Jn.takeSuper
  rw [h1, h2]
  split <;> rfl
theorem Jn.seeSlot_un (D : Dk) (s : Nat) (J : Jn) : (J.seeSlot D s).un = if superOk (D.blk s) = true then J.un.takeSuper D s else J.un := by
  unfold Jn.seeSlot
  rw [Jn.seeLogs_un]
  unfold Jn.seeSuper
  split
  · exact Jn.takeSuper_un D s J
  · rfl
theorem Dk.openJ_un (D : Dk) (t : Int) : (D.openJ t).un = if superOk (D.blk 1) = true then (if superOk (D.blk 0) = true then (D.jn0 t).takeSuper D 0 else D.jn0 t).takeSuper D 1 else if superOk (D.blk 0) = true then (D.jn0 t).takeSuper D 0 else D.jn0 t := by
  unfold Dk.openJ
  rw [Jn.seeSlot_un, Jn.seeSlot_un]; rfl

theorem Dk.jn0_take (D : Dk) (t : Int) (s : Nat) : (D.jn0 t).takeSuper D s = { turn := t, slot := s, area := superArea (D.blk s), gen := superGen (D.blk s), known := 0, ready := false, fin := 0 } := by
  unfold Jn.takeSuper
  rw [if_pos (.inl (show (-1 : Int) < 0 by decide))]
  rfl
/-- The superblock that counts. -/
structure Sup (D : Dk) (slot area gen : Nat) : Prop where
  s : slot ≤ 1
  ok : superOk (D.blk slot) = true
  g : superGen (D.blk slot) = gen
  a : superArea (D.blk slot) = area
  other : superOk (D.blk (1 - slot)) = true → superGen (D.blk (1 - slot)) < gen
theorem Sup.openJ {D : Dk} {slot area gen : Nat} (p : Sup D slot area gen) (t : Int) : (D.openJ t).un = { turn := t, slot := slot, area := area, gen := gen, known := 0, ready := false, fin := 0 } := by
  obtain ⟨s, ok, g, a, other⟩ := p
  rw [Dk.openJ_un]
  obtain rfl | rfl : slot = 0 ∨ slot = 1 := by omega
  · have other : superOk (D.blk 1) = true → superGen (D.blk 1) < gen := other
    rw [if_pos ok, Dk.jn0_take, g, a]
    split
    · rename_i h1
      have := other h1
      unfold Jn.takeSuper
      rw [if_neg]
      show ¬ (((0 : Nat) : Int) < 0 ∨ gen < superGen (D.blk 1))
      omega
    · rfl
  · have other : superOk (D.blk 0) = true → superGen (D.blk 0) < gen := other
    rw [if_pos ok]
    split
    · rename_i h0
      have := other h0
      rw [Dk.jn0_take]
      unfold Jn.takeSuper
      rw [if_pos (.inr (by show superGen (D.blk 0) < superGen (D.blk 1); omega)), g, a]
    · rw [Dk.jn0_take, g, a]
theorem Dk.openJ_none {D : Dk} (h0 : superOk (D.blk 0) = false) (h1 : superOk (D.blk 1) = false) (t : Int) : (D.openJ t).un = D.jn0 t := by
  rw [Dk.openJ_un, h0, h1]; rfl

/-- No generation on the disk is higher. -/
structure Knows (D : Dk) (B : Nat) : Prop where
  logs : ∀ s, s ≤ 1 → ∀ p, p < D.ar → logOk p (D.jb s p) = true → logGen (D.jb s p) ≤ B
  sups : ∀ s, s ≤ 1 → superOk (D.blk s) = true → superGen (D.blk s) ≤ B
theorem Jn.seeLogs_known (D : Dk) (s : Nat) : ∀ k at_ J, J.known ≤ (Jn.seeLogs D s k at_ J).known ∧ (∀ p, at_ ≤ p → p < at_ + k → logOk p (D.jb s p) = true → logGen (D.jb s p) ≤ (Jn.seeLogs D s k at_ J).known) ∧
    ∀ B, J.known ≤ B → (∀ p, at_ ≤ p → p < at_ + k → logOk p (D.jb s p) = true → logGen (D.jb s p) ≤ B) → (Jn.seeLogs D s k at_ J).known ≤ B
  | 0, at_, J => ⟨Nat.le_refl _, fun p h1 h2 => by omega, fun _ h _ => h⟩
  | k + 1, at_, J => by
    obtain ⟨i1, i2, i3⟩ := Jn.seeLogs_known D s k (at_ + 1) (J.seeLog D s at_)
    have hj : (J.seeLog D s at_).known = if logOk at_ (D.jb s at_) = true then max J.known (logGen (D.jb s at_)) else J.known := by
      unfold Jn.seeLog
      split <;> rfl
    refine ⟨?_, ?_, ?_⟩
    · show J.known ≤ (Jn.seeLogs D s k (at_ + 1) (J.seeLog D s at_)).known
      refine Nat.le_trans ?_ i1
      rw [hj]
      split <;> omega
    · intro p h1 h2 h3
      show _ ≤ (Jn.seeLogs D s k (at_ + 1) (J.seeLog D s at_)).known
      by_cases hp : p = at_
      · subst hp
        refine Nat.le_trans ?_ i1
        rw [hj, if_pos h3]
        omega
      · exact i2 p (by omega) (by omega) h3
    · intro B h1 h2
      refine i3 B ?_ (fun p h3 h4 => h2 p (by omega) (by omega))
      rw [hj]
      split
      · rename_i h
        have := h2 at_ (by omega) (by omega) h
        omega
      · exact h1
theorem Jn.seeSlot_known (D : Dk) (s : Nat) (J : Jn) : J.known ≤ (J.seeSlot D s).known ∧ (∀ p, p < D.ar → logOk p (D.jb s p) = true → logGen (D.jb s p) ≤ (J.seeSlot D s).known) ∧ (superOk (D.blk s) = true → superGen (D.blk s) ≤ (J.seeSlot D s).known) ∧
    ∀ B, J.known ≤ B → (∀ p, p < D.ar → logOk p (D.jb s p) = true → logGen (D.jb s p) ≤ B) → (superOk (D.blk s) = true → superGen (D.blk s) ≤ B) → (J.seeSlot D s).known ≤ B := by
  obtain ⟨i1, i2, i3⟩ := Jn.seeLogs_known D s D.ar 0 (J.seeSuper D s)
  have hj : (J.seeSuper D s).known = if superOk (D.blk s) = true then max J.known (superGen (D.blk s)) else J.known := by
    unfold Jn.seeSuper
    split <;> rfl
  refine ⟨?_, fun p h1 h2 => i2 p (by omega) (by omega) h2, ?_, ?_⟩
  · refine Nat.le_trans ?_ i1
    rw [hj]
    split <;> omega
  · intro h
    refine Nat.le_trans ?_ i1
    rw [hj, if_pos h]
    omega
  · intro B h1 h2 h3
    refine i3 B ?_ (fun p _ h5 => h2 p (by omega))
    rw [hj]
    split
    · rename_i h
      have := h3 h
      omega
    · exact h1
theorem Knows.openJ {D : Dk} {B : Nat} (k : Knows D B) (t : Int) : (D.openJ t).known ≤ B := by
  obtain ⟨a1, a2, a3, a4⟩ := Jn.seeSlot_known D 0 (D.jn0 t)
  obtain ⟨b1, b2, b3, b4⟩ := Jn.seeSlot_known D 1 ((D.jn0 t).seeSlot D 0)
  exact b4 B (a4 B (Nat.zero_le B) (k.logs 0 (by omega)) (k.sups 0 (by omega))) (k.logs 1 (by omega)) (k.sups 1 (by omega))
theorem Knows.mono {D : Dk} {B C : Nat} (k : Knows D B) (h : B ≤ C) : Knows D C := ⟨fun s h1 p h2 h3 => Nat.le_trans (k.logs s h1 p h2 h3) h, fun s h1 h2 => Nat.le_trans (k.sups s h1 h2) h⟩

/-- A disk on which nothing was ever written. -/
def Fresh (D : Dk) : Prop := ∀ b, b < D.n → D.blk b = List.replicate 128 0
theorem Fresh.knows {D : Dk} (f : Fresh D) (h4 : 4 ≤ D.n) : Knows D 0 := by
  refine ⟨fun s hs p hp h => ?_, fun s hs h => ?_⟩
  · have hin := D.area_in hs (by omega)
    unfold Dk.jb at h
    rw [f _ (by omega), logOk_zero] at h
    cases h
  · rw [f _ (by omega), superOk_zero] at h
    cases h
theorem Fresh.openJ {D : Dk} (f : Fresh D) (h4 : 4 ≤ D.n) (t : Int) : D.openJ t = D.jn0 t := by
  have h1 : (D.openJ t).un = D.jn0 t := Dk.openJ_none (by rw [f _ (by omega), superOk_zero]) (by rw [f _ (by omega), superOk_zero]) t
  have h2 : (D.openJ t).known = 0 := by
    have := (f.knows h4).openJ t
    omega
  have h3 : D.openJ t = { (D.openJ t).un with known := (D.openJ t).known } := rfl
  rw [h3, h1, h2]; rfl
theorem Fresh.ents {D : Dk} (J : Jn) (f : Fresh D) (_h4 : 4 ≤ D.n) (ha : J.area ≤ 1) : D.ents J D.ar 0 = [] := by
  obtain ⟨k', _, e2⟩ := ents_skip (D := D) (J := J) D.ar 0 D.ar (fun i hi _ => Dk.noB.stands (.inl (by
    have hin := D.area_in ha (by omega)
    unfold Dk.jb
    rw [f _ (by omega), logOk_zero]))) (by omega)
  rw [e2, Dk.ents_end (by omega)]

/-- The records that a disk bears. -/
structure Has (D : Dk) (area gen : Nat) (recs : List (List Nat)) : Prop where
  a : area ≤ 1
  g : gen < 18446744073709551616
  ok : ∀ r ∈ recs, r.length ≤ 20000 ∧ ∀ x ∈ r, x < 256
  fit : recsTot recs ≤ D.ar
  placed : ∀ e ∈ layR recs 0, D.placed area gen e.1 e.2
  rest : ∀ p, recsTot recs ≤ p → p < D.ar → D.noB area gen p
theorem Has.ents {D : Dk} {J : Jn} {recs : List (List Nat)} (H : Has D J.area J.gen recs) (hs : 0 ≤ J.slot) (har : D.ar ≤ 4096) : D.ents J D.ar 0 = layR recs 0 := by
  rw [ents_lay hs H.g har (fun _ => false) recs 0 D.ar H.ok (by have := H.fit; omega) (by omega) (fun e he _ => H.placed e he) (fun _ _ h => by cases h) (fun p h1 h2 => (H.rest p (by omega) h2).stands)]
  simp
theorem Has.at {D : Dk} {J : Jn} {recs : List (List Nat)} (H : Has D J.area J.gen recs) (hs : 0 ≤ J.slot) (har : D.ar ≤ 4096) {e : Nat × List Nat} (he : e ∈ layR recs 0) :
    e.1 < D.ar ∧ J.stands D e.1 = true ∧ D.parts J.area e.1 = costN e.2.length ∧ D.data J.area e.1 (costN e.2.length) = e.2 := by
  obtain ⟨b1, b2, b3⟩ := lay_bound _ _ _ he
  have hfit := H.fit
  have hp := costN_pos e.2.length
  obtain ⟨k1, k2⟩ := H.ok _ b3
  obtain ⟨s1, s2, s3⟩ := Dk.placed_stands (H.placed e he) H.g k1 k2 (by omega) har
  exact ⟨by omega, by rw [Jn.stands_iff (by omega), s1, decide_eq_true hs]; rfl, s2, s3⟩
/-- What a disk bears, it bears where the blocks of the area stay. -/
theorem Has.keep {D E : Dk} {area gen : Nat} {recs : List (List Nat)} (H : Has D area gen recs) (har : E.ar = D.ar) (h : ∀ p, p < D.ar → E.blk (2 + area * D.ar + p) = D.blk (2 + area * D.ar + p)) : Has E area gen recs := by
  refine ⟨H.a, H.g, H.ok, har ▸ H.fit, fun e he => ?_, fun p h1 h2 => ?_⟩
  · have hb := lay_bound _ _ _ he
    have := H.fit
    exact (H.placed e he).keep har (fun i hi => h _ (by omega))
  · have hr := H.rest p h1 (har ▸ h2)
    unfold Dk.noB Dk.jb at hr ⊢
    rw [har, h p (har ▸ h2)]
    exact hr

/-- An Append with power. -/
theorem Has.append {D : Dk} {J : Jn} {recs : List (List Nat)} (H : Has D J.area J.gen recs) (u : Up D) (hl : J.live D = true) (hr : J.ready = true) (hfin : J.fin = recsTot recs) {r : List Nat} (h20 : r.length ≤ 20000) (hb : ∀ x ∈ r, x < 256) (hfit : recsTot recs + costN r.length ≤ D.ar) :
    ∃ E, J.append D r = (0, E, { J with fin := J.fin + costN r.length }) ∧ Alike D E ∧ Has E J.area J.gen (recs ++ [r]) ∧ ∀ b, b < 2 → E.blk b = D.blk b := by
  obtain ⟨E, e1, e2, e3, e4⟩ := wrRec_up u (gen := J.gen) (at_ := J.fin) (r := r) H.a (by omega)
  have hp := costN_pos r.length
  have hin := D.area_in H.a (by omega)
  have htot : recsTot (recs ++ [r]) = recsTot recs + costN r.length := by rw [recsTot_append, recsTot_cons, recsTot_nil]; omega
  have hfree : J.free D = D.ar - J.fin := by unfold Jn.free; rw [hl, hr]; rfl
  refine ⟨E, ?_, e2, ⟨H.a, H.g, ?_, by rw [htot, e2.ar]; exact hfit, ?_, ?_⟩, fun b hb => e4 b (by omega) (by omega)⟩
  · unfold Jn.append
    rw [if_neg (by rw [hl]; decide), if_neg (by rw [hr]; decide), if_neg (by omega), if_neg (by omega), e1, if_pos rfl]
  · intro q hq
    rcases List.mem_append.1 hq with hq | hq
    · exact H.ok q hq
    · rw [List.mem_singleton] at hq
      subst hq
      exact ⟨h20, hb⟩
  · intro e he
    rw [layR_append, Nat.zero_add] at he
    rcases List.mem_append.1 he with he | he
    · have hbd := lay_bound _ _ _ he
      exact (H.placed e he).keep e2.ar (fun i hi => e4 _ (by omega) (by omega))
    · rw [layR, layR, List.mem_singleton] at he
      subst he
      rw [← hfin]
      exact e3
  · intro p h1 h2
    rw [htot] at h1
    rw [e2.ar] at h2
    have hrs := H.rest p (by omega) h2
    unfold Dk.noB Dk.jb at hrs ⊢
    rw [e2.ar, e4 _ (by omega) (by omega)]
    exact hrs

/-- Open after a Rewrite. -/
theorem Sup.jn {D : Dk} {slot area gen : Nat} (p : Sup D slot area gen) : D.jn.slot = slot ∧ D.jn.area = area ∧ D.jn.gen = gen ∧ D.jn.ready = false ∧ D.jn.fin = 0 ∧ D.jn.turn = D.opened.turn := by
  have p' : Sup D.opened slot area gen := ⟨p.s, p.ok, p.g, p.a, p.other⟩
  have h := p'.openJ D.opened.turn
  have h : D.jn.un = _ := h
  exact ⟨congrArg Jn.slot h, congrArg Jn.area h, congrArg Jn.gen h, congrArg Jn.ready h, congrArg Jn.fin h, congrArg Jn.turn h⟩
theorem Fresh.jn {D : Dk} (f : Fresh D) (h4 : 4 ≤ D.n) : D.jn = D.opened.jn0 D.opened.turn := by
  have f' : Fresh D.opened := f
  exact f'.openJ h4 _
theorem Fresh.entries {D : Dk} (f : Fresh D) (h4 : 4 ≤ D.n) : D.entries = [] := by
  have f' : Fresh D.opened := f
  unfold Dk.entries
  rw [f.jn h4]
  exact f'.ents _ h4 (Nat.zero_le 1)
theorem Has.entries {D : Dk} {slot area gen : Nat} {recs : List (List Nat)} (p : Sup D slot area gen) (H : Has D area gen recs) (har : D.ar ≤ 4096) : D.entries = layR recs 0 := by
  obtain ⟨q1, q2, q3, _⟩ := p.jn
  have H' : Has D.opened D.jn.area D.jn.gen recs := by rw [q2, q3]; exact ⟨H.a, H.g, H.ok, H.fit, H.placed, H.rest⟩
  exact H'.ents (by omega) har
end Go.Proofs.Ytcmfgmhadeeieaa

namespace Go.Proofs.Ytcmfgmhadeeieaa
open Go Go.Abs

theorem X14 : XX 14 = s14 := rfl
theorem X18 : XX 18 = s18 := rfl
theorem X25 : XX 25 = s25 := rfl
theorem r14 (h : Heap) : CD 14 [] h = some (.bool true, h) := CD_known (by rw [X14]; rfl)
theorem r18 (h : Heap) {n : Nat} (h4 : 4 ≤ n) (hn : n ≤ 4096) : CD 18 [i64n n] h = some (.tuple #[ptr (h.next + 1) 0, .int .i64 0], newDk h n) ∧ IsDk (newDk h n) (h.next + 1) (Dk.new h n) ∧ Old h (newDk h n) := by
  refine ⟨CD_known ?_, new_is h (by omega), new_kept h n _⟩
  rw [X18, s18_at (by omega), Int.toNat_natCast]
theorem r25 {h : Heap} {d : Nat} {D : Dk} (x : IsDk h d D) : ∃ a c h', CD 25 [ptr d 0] h = some (.slice a (128 * D.n) c, h') ∧ sliceBytes a (128 * D.n) h' = some D.img ∧ goodS a (128 * D.n) c = true ∧ (∀ y, a = some y → h.next ≤ y.block) ∧ Old h h' := by
  refine ⟨some ⟨h.next, 0, none⟩, 128 * D.n, _, CD_known (by rw [X25, s25_at x]; rfl), ?_, ?_, ?_, Kept.alloc _ _ _⟩
  · rw [sliceBytes_at (l := D.img) (by rw [Heap.get_alloc, if_pos rfl]) (by rw [x.len]; omega) x.byte, List.drop_zero, List.take_of_length_le (by rw [x.len]; omega)]
  · unfold goodS
    simp
  · intro y hy
    cases hy
    exact Nat.le_refl _
theorem RecsG.nil (h : Heap) (F : Nat → Prop) : RecsG h F (.slice none 0 0) [] := ⟨none, 0, rfl, fun i r hi => by simp at hi⟩
theorem JnOk.new (D : Dk) (t : Int) : JnOk (D.jn0 t) D := ⟨.inl rfl, by show (0 : Nat) ≤ 1; omega, by show (0 : Nat) < _; omega, by show (0 : Nat) < _; omega, fun h => by cases h⟩
end Go.Proofs.Ytcmfgmhadeeieaa

namespace Go.Proofs.Ytcmfgmhadeeieaa
open Go Go.Abs

/-- A list of which each member has a cell with bytes. -/
def RecsS (h : Heap) (v : Value) (vals : List (List Nat)) (sz o : Nat) : Prop :=
  ∃ a c, v = .slice a vals.length c ∧ ∀ i r, vals[i]? = some r → ∃ b f s k ai ni ci, a = some ⟨b, f, s⟩ ∧ h.get b = some k ∧ k[f + i * sz + o]? = some (.slice ai ni ci) ∧ sliceBytes ai ni h = some r
theorem RecsS.old {h h' : Heap} {v : Value} {vals : List (List Nat)} {sz o : Nat} (R : RecsS h v vals sz o) (k : Old h h') : RecsS h' v vals sz o := by
  obtain ⟨a, c, rfl, hR⟩ := R
  refine ⟨a, c, rfl, fun i r hi => ?_⟩
  obtain ⟨b, f, s, kk, ai, ni, ci, h1, h2, h3, h4⟩ := hR i r hi
  exact ⟨b, f, s, kk, ai, ni, ci, h1, Old.get k h2, h3, Old.bytes k h4⟩
theorem RecsS.at {h : Heap} {v : Value} {vals : List (List Nat)} {sz o : Nat} (R : RecsS h v vals sz o) {i : Nat} {r : List Nat} (hi : vals[i]? = some r) :
    ∃ b p ai ni ci, idxS sz v (i64n i) = some (ptr b p) ∧ (∀ h', Old h h' → ld1 (ptr b (p + o)) h' = some (.slice ai ni ci, h')) ∧ sliceBytes ai ni h = some r := by
  obtain ⟨a, c, rfl, hR⟩ := R
  obtain ⟨b, f, s, kk, ai, ni, ci, rfl, h2, h3, h4⟩ := hR i r hi
  have hl := (List.getElem?_eq_some_iff.1 hi).1
  refine ⟨b, f + i * sz, ai, ni, ci, ?_, fun h' k => ld1_at (Old.get k h2) h3 rfl, h4⟩
  unfold idxS
  simp only [i64n]
  rw [if_pos (by omega), Int.toNat_natCast]
theorem RecsS.len {h : Heap} {v : Value} {vals : List (List Nat)} {sz o : Nat} (R : RecsS h v vals sz o) : lenL v = some (i64n vals.length) := by
  obtain ⟨a, c, rfl, hR⟩ := R
  rfl
theorem RecsV.S {h : Heap} {v : Value} {vals : List (List Nat)} (R : RecsV h v vals) : RecsS h v vals 1 0 := by
  obtain ⟨a, n, c, rfl, rfl, _, hR⟩ := R
  refine ⟨a, c, rfl, fun i r hi => ?_⟩
  have hl := (List.getElem?_eq_some_iff.1 hi).1
  obtain ⟨b, off, s, k, rv, h1, h2, h3, h4, ai, ni, ci, rfl, h6, _⟩ := hR i hl
  rw [List.getD_eq_getElem?_getD, hi] at h6
  exact ⟨b, off, s, k, ai, ni, ci, h1, h2, by rw [Nat.mul_one]; exact h3, h6⟩

/-- A record, as it stands among the cells of a list. -/
def RecAt (h : Heap) (N : Nat) (cells : List Value) (i : Nat) (r : List Nat) : Prop :=
  ∃ a n c, cells[i]? = some (.slice a n c) ∧ sliceBytes a n h = some r ∧ goodS a n c = true ∧ ∀ y, a = some y → 0 < n → N ≤ y.block
def RecsAt (h : Heap) (N : Nat) (cells : List Value) (vals : List (List Nat)) : Prop := cells.length = vals.length ∧ ∀ i r, vals[i]? = some r → RecAt h N cells i r
theorem RecsAt.keep {h h' : Heap} {N : Nat} {cells : List Value} {vals : List (List Nat)} (E : RecsAt h N cells vals) {B : Nat → Prop} (k : Kept h h' B) (hB : ∀ b, B b → Plain h b) : RecsAt h' N cells vals := by
  refine ⟨E.1, fun i e he => ?_⟩
  obtain ⟨a, n, c, h2, h3, h4, h5⟩ := E.2 i e he
  exact ⟨a, n, c, h2, k.bytesP hB h3, h4, h5⟩
theorem RecsAt.nil (h : Heap) (N : Nat) : RecsAt h N [] [] := ⟨rfl, fun i e he => by simp at he⟩
theorem RecsAt.plain {h : Heap} {N : Nat} {cells : List Value} {vals : List (List Nat)} (E : RecsAt h N cells vals) : ∀ v ∈ cells, nat8 v = none := by
  intro v hv
  obtain ⟨q, hq⟩ := List.getElem?_of_mem hv
  have hl := (List.getElem?_eq_some_iff.1 hq).1
  rw [E.1] at hl
  obtain ⟨a, n, c, h2, _⟩ := E.2 q vals[q] (List.getElem?_eq_getElem hl)
  rw [hq] at h2; cases h2; rfl
theorem RecsAt.append {h : Heap} {N : Nat} {cells cells' : List Value} {vals vals' : List (List Nat)} (E : RecsAt h N cells vals) (E' : RecsAt h N cells' vals') : RecsAt h N (cells ++ cells') (vals ++ vals') := by
  refine ⟨by simp [E.1, E'.1], fun i e he => ?_⟩
  have hl := E.1
  by_cases hi : i < vals.length
  · rw [List.getElem?_append_left hi] at he
    obtain ⟨a, n, c, h2, h3⟩ := E.2 i e he
    exact ⟨a, n, c, by rw [List.getElem?_append_left (by omega)]; exact h2, h3⟩
  · rw [List.getElem?_append_right (by omega)] at he
    obtain ⟨a, n, c, h2, h3⟩ := E'.2 _ e he
    exact ⟨a, n, c, by rw [List.getElem?_append_right (by omega), hl]; exact h2, h3⟩
theorem RecsAt.one {h : Heap} {N : Nat} {l : List Nat} {a : Option Addr} {n c : Nat} (hs : sliceBytes a n h = some l) (hg : goodS a n c = true) (ha : ∀ y, a = some y → 0 < n → N ≤ y.block) : RecsAt h N [.slice a n c] [l] := by
  refine ⟨rfl, fun i e he => ?_⟩
  match i with
  | 0 => cases he; exact ⟨a, n, c, rfl, hs, hg, ha⟩
  | i + 1 => simp at he
theorem RecsAt.low {h : Heap} {N M : Nat} {cells : List Value} {vals : List (List Nat)} (E : RecsAt h N cells vals) (hM : M ≤ N) : RecsAt h M cells vals := by
  refine ⟨E.1, fun i e he => ?_⟩
  obtain ⟨a, n, c, h2, h3, h4, h5⟩ := E.2 i e he
  exact ⟨a, n, c, h2, h3, h4, fun y hy hn => Nat.le_trans hM (h5 y hy hn)⟩

/-- A list of records of one's own, as a list that is read. -/
theorem RecsAt.S {h : Heap} {N N' : Nat} {v : Value} {cells : List Value} {vals : List (List Nat)} (E : RecsAt h N' cells vals) (o : OwnC h N 1 v vals.length cells) : RecsS h v vals 1 0 := by
  obtain ⟨_, _, _, ⟨rfl, h4⟩ | ⟨b, s, rfl, h5, ⟨rfl, h4⟩ | ⟨rfl, h6⟩⟩⟩ := o
  · exact ⟨none, 0, by rw [h4], fun i r hi => by have := (List.getElem?_eq_some_iff.1 hi).1; omega⟩
  · exact ⟨_, _, rfl, fun i r hi => by have := (List.getElem?_eq_some_iff.1 hi).1; omega⟩
  · refine ⟨_, _, rfl, fun i r hi => ?_⟩
    obtain ⟨a, n, c, h2, h3, _⟩ := E.2 i r hi
    exact ⟨b, 0, _, cells, a, n, c, rfl, h6, by rw [Nat.zero_add, Nat.mul_one]; exact h2, h3⟩
theorem RecsAt.G {h : Heap} {N N' : Nat} {v : Value} {cells : List Value} {vals : List (List Nat)} (E : RecsAt h N' cells vals) (o : OwnC h N 1 v vals.length cells) {F : Nat → Prop} (hF : ∀ b, N ≤ b → ¬ F b) (hF' : ∀ b, N' ≤ b → ¬ F b) : RecsG h F v vals := by
  obtain ⟨_, _, _, ⟨rfl, h4⟩ | ⟨b, s, rfl, h5, ⟨rfl, h4⟩ | ⟨rfl, h6⟩⟩⟩ := o
  · exact ⟨none, 0, by rw [h4], fun i r hi => by have := (List.getElem?_eq_some_iff.1 hi).1; omega⟩
  · exact ⟨_, _, rfl, fun i r hi => by have := (List.getElem?_eq_some_iff.1 hi).1; omega⟩
  · refine ⟨_, _, rfl, fun i r hi => ?_⟩
    obtain ⟨a, n, c, h2, h3, h4, h5'⟩ := E.2 i r hi
    exact ⟨b, 0, _, cells, a, n, c, rfl, h6, hF b h5, by rw [Nat.zero_add]; exact h2, h3, h4, fun y hy hn => hF' _ (h5' y hy hn)⟩
/-- Entries, as a list that is read. -/
theorem EntsAt.S {h : Heap} {N N' : Nat} {v : Value} {cells : List Value} {ents : List (Nat × List Nat)} (E : EntsAt h N' cells ents) (o : OwnC h N 2 v ents.length cells) : RecsS h v (ents.map (·.2)) 2 1 := by
  obtain ⟨_, _, _, ⟨rfl, h4⟩ | ⟨b, s, rfl, h5, ⟨rfl, h4⟩ | ⟨rfl, h6⟩⟩⟩ := o
  · exact ⟨none, 0, by rw [List.length_map, h4], fun i r hi => by have := (List.getElem?_eq_some_iff.1 hi).1; rw [List.length_map] at this; omega⟩
  · exact ⟨_, _, by rw [List.length_map], fun i r hi => by have := (List.getElem?_eq_some_iff.1 hi).1; rw [List.length_map] at this; omega⟩
  · refine ⟨_, _, by rw [List.length_map], fun i r hi => ?_⟩
    rw [List.getElem?_map, Option.map_eq_some_iff] at hi
    obtain ⟨e, he, rfl⟩ := hi
    obtain ⟨_, a, n, c, h2, h3, _⟩ := E.2 i e he
    exact ⟨b, 0, _, cells, a, n, c, rfl, h6, by rw [Nat.zero_add, Nat.mul_comm]; exact h2, h3⟩

section
variable {h0 : Heap} {v : Value} {vals : List (List Nat)}
end

theorem strOf_inj {a b : List Nat} (ha : ∀ x ∈ a, x < 256) (hb : ∀ x ∈ b, x < 256) : ((strOf a).toList == (strOf b).toList) = decide (a = b) := by
  have hl : ∀ l : List Nat, (strOf l).toList = l.map UInt8.ofNat := fun l => Go.ByteArray.toList_mk _
  have hinj : ∀ a b : List Nat, (∀ x ∈ a, x < 256) → (∀ x ∈ b, x < 256) → a.map UInt8.ofNat = b.map UInt8.ofNat → a = b := by
    intro a
    induction a with
    | nil => intro b _ _ h; simpa using h.symm
    | cons x a ih =>
      intro b ha hb h
      match b with
      | [] => simp at h
      | y :: b =>
        rw [List.map_cons, List.map_cons, List.cons.injEq] at h
        have hx := ha x List.mem_cons_self
        have hy := hb y List.mem_cons_self
        have e : x = y := by
          have := congrArg UInt8.toNat h.1
          rw [UInt8.toNat_ofNat', UInt8.toNat_ofNat'] at this
          omega
        rw [e, ih b (fun z hz => ha z (List.mem_cons_of_mem _ hz)) (fun z hz => hb z (List.mem_cons_of_mem _ hz)) h.2]
  rw [hl, hl]
  by_cases e : a = b
  · rw [decide_eq_true e, e]; exact beq_self_eq_true _
  · rw [decide_eq_false e, beq_eq_false_iff_ne]
    exact fun h => e (hinj a b ha hb h)
section
variable {h0 : Heap} {v w : Value} {la lb : List (List Nat)}
end
end Go.Proofs.Ytcmfgmhadeeieaa

namespace Go.Proofs.Ytcmfgmhadeeieaa
open Go Go.Abs

theorem be_inj : ∀ {a b : List Nat}, a.length = b.length → (∀ x ∈ a, x < 256) → (∀ x ∈ b, x < 256) → be a = be b → a = b
  | [], [], _, _, _, _ => rfl
  | x :: a, y :: b, hl', ha, hb, h => by
    have hl : a.length = b.length := by simpa using hl'
    clear hl'
    rw [be_cons, be_cons, hl] at h
    have h1 : be a < 256 ^ b.length := be_lt _ a hl (fun z hz => ha z (List.mem_cons_of_mem _ hz))
    have h2 : be b < 256 ^ b.length := be_lt _ b rfl (fun z hz => hb z (List.mem_cons_of_mem _ hz))
    have hp : 0 < 256 ^ b.length := Nat.pow_pos (by decide)
    have e1 : x = y := by
      have := congrArg (· / 256 ^ b.length) h
      simp only [Nat.mul_comm _ (256 ^ b.length), Nat.mul_add_div hp, Nat.div_eq_of_lt h1, Nat.div_eq_of_lt h2] at this
      omega
    subst e1
    have h3 : be a = be b := by omega
    rw [be_inj (a := a) (b := b) hl (fun z hz => ha z (List.mem_cons_of_mem _ hz)) (fun z hz => hb z (List.mem_cons_of_mem _ hz)) h3]
  | [], _ :: _, hl, _, _, _ => by simp at hl
  | _ :: _, [], hl, _, _, _ => by simp at hl
end Go.Proofs.Ytcmfgmhadeeieaa

namespace Go.Proofs.Ytcmfgmhadeeieaa
open Go Go.Abs

theorem right_logOk {at_ : Nat} {b : List Nat} (h : right b = false) : logOk at_ b = false := by unfold logOk; rw [h]; rfl

/-- A block of a record is no more right. -/
theorem hides {D : Dk} {area gen at_ : Nat} {r : List Nat} (_hg : gen < 18446744073709551616) (hr : r.length ≤ 20000) (_hb : ∀ x ∈ r, x < 256) (_hfit : at_ + costN r.length ≤ D.ar) (_har : D.ar ≤ 4096) {i : Nat} (hi : i < costN r.length) (hbad : right (D.jb area (at_ + i)) = false)
    (hrest : ∀ j, j < costN r.length → j ≠ i → D.jb area (at_ + j) = logBlk gen (at_ + j) j (costN r.length) (chunk r j)) : ∀ j, j < costN r.length → D.stands area gen (at_ + j) = false := by
  intro j hj
  have hc := costN_le (n := r.length) (by omega)
  by_cases hji : j = i
  · subst hji
    exact Dk.noB.stands (.inl (right_logOk hbad))
  by_cases hj0 : j = 0
  · subst hj0
    rw [Nat.add_zero]
    have h0 := hrest 0 hj hji
    rw [Nat.add_zero] at h0
    have hp : D.parts area at_ = costN r.length := by
      unfold Dk.parts
      rw [h0, logParts_log (by omega)]
    refine Dk.not_stands (i := i) (by rw [hp]; exact hi) ?_
    unfold Dk.part
    rw [right_logOk hbad]; rfl
  · refine Dk.noB.stands (.inr (.inr ?_))
    rw [hrest j hj hji, logPart_log (by omega)]
    exact hj0

theorem Dk.blk_len {D : Dk} (hlen : D.img.length = 128 * D.n) {i : Nat} (hi : i < D.n) : (D.blk i).length = 128 := by
  unfold Dk.blk
  rw [List.length_take, List.length_drop]
  omega

end Go.Proofs.Ytcmfgmhadeeieaa

namespace Go.Proofs.Ytcmfgmhadeeieaa
open Go Go.Abs

theorem BytesV.old {h h' : Heap} {v : Value} {l : List Nat} (x : BytesV h v l) (k : Old h h') : BytesV h' v l := by
  obtain ⟨a, n, c, rfl, h1, h2⟩ := x
  exact ⟨a, n, c, rfl, Old.bytes k h1, h2⟩
theorem RecsV.old {h h' : Heap} {v : Value} {vals : List (List Nat)} (x : RecsV h v vals) (k : Old h h') : RecsV h' v vals := by
  obtain ⟨a, n, c, rfl, h1, h2, h3⟩ := x
  refine ⟨a, n, c, rfl, h1, h2, fun i hi => ?_⟩
  obtain ⟨b, off, s, kk, rv, e1, e2, e3, e4, e5⟩ := h3 i hi
  exact ⟨b, off, s, kk, rv, e1, Old.get k e2, e3, e4, e5.old k⟩
theorem RecsV.byte {h : Heap} {v : Value} {vals : List (List Nat)} (x : RecsV h v vals) : ∀ r ∈ vals, ∀ y ∈ r, y < 256 := by
  intro r hr
  obtain ⟨i, hi⟩ := List.getElem?_of_mem hr
  obtain ⟨a, n, c, rfl, h1, h2, h3⟩ := x
  obtain ⟨b, off, s, kk, rv, e1, e2, e3, e4, a', n', c', _, e5, _⟩ := h3 i (by have := (List.getElem?_eq_some_iff.1 hi).1; omega)
  rw [List.getD_eq_getElem?_getD, hi] at e5
  exact (sliceBytes_spec e5).2.1

/-- A list of records as an argument. -/
def RecsI (h : Heap) (v : Value) (vals : List (List Nat)) : Prop := RecsV h v vals ∧ ∃ a n c, v = .slice a n c ∧ n ≤ c ∧ ∀ y, a = some y → 0 < n → y.spot = none
theorem RecsI.old {h h' : Heap} {v : Value} {vals : List (List Nat)} (x : RecsI h v vals) (k : Old h h') : RecsI h' v vals := ⟨x.1.old k, x.2⟩
theorem RecsI.S {h : Heap} {v : Value} {vals : List (List Nat)} (x : RecsI h v vals) : RecsS h v vals 1 0 := x.1.S
theorem RecsI.to {h : Heap} {v : Value} {vals : List (List Nat)} (x : RecsI h v vals) (h0 : 0 < vals.length) {k : Nat} (hk : k ≤ vals.length) : ∃ v', slR 1 v none (some (i64n k)) none = some v' ∧ RecsS h v' (vals.take k) 1 0 := by
  obtain ⟨hV, a, n, c, rfl, hnc, hsp⟩ := x
  obtain ⟨a', c', e, hS⟩ := hV.S
  cases e
  obtain ⟨b, f, s, kk, ai, ni, ci, rfl, _⟩ := hS 0 _ (List.getElem?_eq_getElem h0)
  have : s = none := hsp _ rfl h0
  subst this
  have hb : boundsA vals.length c none (some (i64n k)) none = some (0, k, c) := by
    unfold boundsA
    simp only [boundA, i64n]
    rw [if_pos (by omega), Int.toNat_natCast]
  refine ⟨.slice (some ⟨b, if c = 0 then f else f + 0 * 1, none⟩) (k - 0) (c - 0), ?_, ?_⟩
  · unfold slR sliceSl
    simp only [hb]
  · refine ⟨_, _, by rw [List.length_take, Nat.min_eq_left hk, Nat.sub_zero], fun i r hi => ?_⟩
    rw [List.getElem?_take] at hi
    split at hi
    · obtain ⟨b', f', s', k2, ai', ni', ci', e, r1, r2, r3⟩ := hS i r hi
      cases e
      exact ⟨b, _, none, k2, ai', ni', ci', rfl, r1, by rw [show (if c = 0 then f else f + 0 * 1) = f by split <;> omega]; exact r2, r3⟩
    · cases hi
theorem RecsI.from {h : Heap} {v : Value} {vals : List (List Nat)} (x : RecsI h v vals) (h0 : 0 < vals.length) {k : Nat} (hk : k ≤ vals.length) : ∃ v', slR 1 v (some (i64n k)) none none = some v' ∧ RecsS h v' (vals.drop k) 1 0 := by
  obtain ⟨hV, a, n, c, rfl, hnc, hsp⟩ := x
  obtain ⟨a', c', e, hS⟩ := hV.S
  cases e
  obtain ⟨b, f, s, kk, ai, ni, ci, rfl, _⟩ := hS 0 _ (List.getElem?_eq_getElem h0)
  have : s = none := hsp _ rfl h0
  subst this
  have hb : boundsA vals.length c (some (i64n k)) none none = some (k, vals.length, c) := by
    unfold boundsA
    simp only [boundA, i64n]
    rw [if_pos (by omega), Int.toNat_natCast]
  refine ⟨.slice (some ⟨b, if c = k then f else f + k * 1, none⟩) (vals.length - k) (c - k), ?_, ?_⟩
  · unfold slR sliceSl
    simp only [hb]
  · refine ⟨_, _, by rw [List.length_drop], fun i r hi => ?_⟩
    rw [List.getElem?_drop] at hi
    have hl := (List.getElem?_eq_some_iff.1 hi).1
    obtain ⟨b', f', s', k2, ai', ni', ci', e, r1, r2, r3⟩ := hS _ r hi
    cases e
    refine ⟨b, _, none, k2, ai', ni', ci', rfl, r1, ?_, r3⟩
    rw [if_neg (by omega), show f + k * 1 + i * 1 + 0 = f + (k + i) * 1 + 0 by omega]
    exact r2

/-- A cell of a list of one's own. -/
theorem OwnC.at {h : Heap} {N size len : Nat} {v : Value} {cells : List Value} (o : OwnC h N size v len cells) {i : Nat} (hi : i < len) : ∃ b, idxS size v (i64n i) = some (ptr b (i * size)) ∧ h.get b = some cells ∧ lenL v = some (i64n len) ∧ N ≤ b := by
  obtain ⟨_, _, _, ⟨rfl, h4⟩ | ⟨b, s, rfl, h5, ⟨rfl, h4⟩ | ⟨rfl, h6⟩⟩⟩ := o
  · omega
  · omega
  · refine ⟨b, ?_, h6, rfl, h5⟩
    unfold idxS
    simp only [i64n]
    rw [if_pos (by omega), Int.toNat_natCast, Nat.zero_add]
theorem OwnC.len {h : Heap} {N size len : Nat} {v : Value} {cells : List Value} (o : OwnC h N size v len cells) : lenL v = some (i64n len) := by
  obtain ⟨_, _, _, ⟨rfl, h4⟩ | ⟨b, s, rfl, h5, _⟩⟩ := o
  · rw [h4]; rfl
  · rfl
theorem OwnC.first {h : Heap} {N len : Nat} {v : Value} {cells : List Value} (o : OwnC h N 1 v len cells) : lenA v = some len ∧ firstA 1 len v h = some cells := by
  obtain ⟨h1, h2, _, ⟨rfl, h4⟩ | ⟨b, s, rfl, h5, ⟨rfl, h4⟩ | ⟨rfl, h6⟩⟩⟩ := o
  · subst h4
    have : cells = [] := List.length_eq_zero_iff.1 (by omega)
    subst this
    exact ⟨rfl, rfl⟩
  · subst h4
    have : cells = [] := List.length_eq_zero_iff.1 (by omega)
    subst this
    exact ⟨rfl, rfl⟩
  · refine ⟨rfl, ?_⟩
    simp only [firstA, h6]
    by_cases h0 : len = 0
    · subst h0
      have : cells = [] := List.length_eq_zero_iff.1 (by omega)
      subst this
      rfl
    · rw [if_neg (by omega), List.drop_zero, List.take_of_length_le (by omega), if_pos ⟨by omega, h2⟩]
end Go.Proofs.Ytcmfgmhadeeieaa

namespace Go.Proofs.Ytcmfgmhadeeieaa
open Go Go.Abs

/-- A disk of the reference. -/
structure Rf where
  img : List Nat
  down : Bool
  armed : Bool
  after : Int
  keep : Int
  turn : Int
def Rf.cells (S : Rf) (s : Value) : Blk := [s, .bool S.down, .bool S.armed, .int .i64 S.after, .int .i64 S.keep, .int .i64 S.turn]
/-- A value that is a disk of the reference, its bytes apart from some blocks. -/
def IsRf (h : Heap) (F : Nat → Prop) (v : Value) (S : Rf) : Prop :=
  ∃ a c, v = .agg (S.cells (.slice a S.img.length c)).toArray ∧ sliceBytes a S.img.length h = some S.img ∧ goodS a S.img.length c = true ∧ ∀ y, a = some y → 0 < S.img.length → ¬ F y.block
theorem IsRf.keep {h h' : Heap} {F B : Nat → Prop} {v : Value} {S : Rf} (x : IsRf h F v S) (k : Kept h h' B) (hB : ∀ b, b < h.next → B b → F b) : IsRf h' F v S := by
  obtain ⟨a, c, rfl, h1, h2, h3⟩ := x
  refine ⟨a, c, rfl, k.bytes h1 (fun y hy hn hb => ?_), h2, h3⟩
  subst hy
  obtain ⟨b, off, s, e, hlt⟩ := sliceBytes_lt h1 hn
  cases e
  exact h3 _ rfl hn (hB _ hlt hb)
theorem IsRf.old {h h' : Heap} {F : Nat → Prop} {v : Value} {S : Rf} (x : IsRf h F v S) (k : Old h h') : IsRf h' F v S := x.keep k (fun _ _ h => h.elim)
theorem IsRf.mono {h : Heap} {F G : Nat → Prop} {v : Value} {S : Rf} (x : IsRf h F v S) (hG : ∀ b, G b → F b) : IsRf h G v S := by
  obtain ⟨a, c, rfl, h1, h2, h3⟩ := x
  exact ⟨a, c, rfl, h1, h2, fun y hy hn hg => h3 y hy hn (hG _ hg)⟩
def zero6 : Blk := [(.slice none 0 0), (.bool false), (.bool false), (.int .i64 0), (.int .i64 0), (.int .i64 0)]
theorem ld63 (v : Value) (h : Heap) : ld Try.prog 63 v h = ldN 6 v h := by
  unfold ld
  rw [show aggT Try.prog 63 = some true by kernel_rfl, show sizeT Try.prog 63 = some 6 by kernel_rfl]
theorem res_rf2 {rs : List ResultVar} {n k t : Nat} (hr : rs = [.cell k 63, .tmp t]) (hk : k < n) (ht : t < n) (x : Nat → Value) {h : Heap} {v : Value} (e : ldN 6 (x k) h = some (v, h)) : resultsA Try.prog rs (mkF n x) h = some (.tuple #[v, x t], h) := by
  subst hr
  have hx : (mkF n x).getD k undef = x k := by
    unfold mkF
    simp [hk]
  have hy : (mkF n x).getD t undef = x t := by
    unfold mkF
    simp [ht]
  simp only [resultsA, List.mapM_cons, List.mapM_nil, resultA, hx, hy, ld63, e]
  rfl
theorem cells_one (S : Rf) (a : Option Addr) (n c : Nat) : oneCells (S.cells (.slice a n c)) = true := rfl
theorem cells_hole (S : Rf) (a : Option Addr) (n c : Nat) : Abs.noHoles (S.cells (.slice a n c)) = true := rfl

/-- What a function with such an argument and such a result begins with. -/
theorem rf_begin {h : Heap} {F : Nat → Prop} {v : Value} {S : Rf} (x : IsRf h F v S) : ∃ a c g, v = .agg (S.cells (.slice a S.img.length c)).toArray ∧ box v h = some (ptr h.next 0, g) ∧ g.get h.next = some (S.cells (.slice a S.img.length c)) ∧ Old h g ∧ g.next = h.next + 1 ∧
    newC zero6 g = some (ptr (h.next + 1) 0, g.alloc zero6) ∧ (g.alloc zero6).get (h.next + 1) = some zero6 ∧ Old h (g.alloc zero6) ∧ (g.alloc zero6).get h.next = some (S.cells (.slice a S.img.length c)) ∧ (g.alloc zero6).next = h.next + 2 ∧
    sliceBytes a S.img.length h = some S.img ∧ goodS a S.img.length c = true ∧ ∀ y, a = some y → 0 < S.img.length → ¬ F y.block := by
  obtain ⟨a, c, rfl, h1, h2, h3⟩ := x
  have o1 : Old h (h.alloc (S.cells (.slice a S.img.length c))) := Kept.alloc _ _ _
  have g1 : (h.alloc (S.cells (.slice a S.img.length c))).get h.next = some (S.cells (.slice a S.img.length c)) := by rw [Heap.get_alloc, if_pos rfl]
  refine ⟨a, c, h.alloc (S.cells (.slice a S.img.length c)), rfl, rfl, g1, o1, Heap.next_alloc .., rfl, ?_, o1.trans (Kept.alloc _ _ _), Heap.get_alloc_some g1 _, rfl, h1, h2, h3⟩
  rw [Heap.get_alloc, if_pos (by rw [Heap.next_alloc])]
/-- The whole struct, loaded and stored. -/
theorem rf_ld {h : Heap} {b : Nat} {k : Blk} (hk : h.get b = some k) (hl : k.length = 6) (hh : Abs.noHoles k = true) : ldN 6 (ptr b 0) h = some (.agg k.toArray, h) := ldN_whole hk hl hh
theorem is51 : IsFn Try.prog 51 Try.f51 := ⟨by kernel_rfl, by kernel_rfl, by kernel_rfl, by kernel_rfl⟩
theorem quo128 (n : Nat) (h : n ≤ 100000000) : bin Try.prog .quo 3 (i64n n) (.int .i64 128) = some (i64n (n / 128)) := by
  rw [bin_quo _ _ _ _ _ (by decide)]
  have : ((n : Nat) : Int).tdiv 128 = ((n / 128 : Nat) : Int) := by rw [Int.tdiv_eq_ediv_of_nonneg (by omega)]; rfl
  rw [this, wrap_i64 (by omega) (by omega)]
/-- Blocks. -/
theorem r51 {h : Heap} {F : Nat → Prop} {v : Value} {S : Rf} (x : IsRf h F v S) (hl : S.img.length ≤ 1000000) : ∃ h', CD 51 [v] h = some (i64n (S.img.length / 128), h') ∧ Old h h' := by
  obtain ⟨a, c, g, rfl, b1, b2, b3, _⟩ := rf_begin x
  refine ⟨g, CD_body is51 rfl ((t51_eq _ _ _).trans ?_), b3⟩
  have l0 : ld1 (ptr h.next 0) g = some (.slice a S.img.length c, g) := ld1_at b2 rfl
  have hll : lenL (.slice a S.img.length c) = some (i64n S.img.length) := rfl
  unfold t51
  simp -implicitDefEqProofs only [b1, thenV_some, addP_ptr, Nat.add_zero, pu_some, l0, hll, quo128 _ (show S.img.length ≤ 100000000 by omega)]

theorem is104 : IsFn Try.prog 104 Try.f104 := ⟨by kernel_rfl, by kernel_rfl, by kernel_rfl, by kernel_rfl⟩
/-- Block. -/
theorem r104 {h : Heap} {F : Nat → Prop} {v : Value} {S : Rf} (x : IsRf h F v S) (hl : S.img.length ≤ 1000000) {i : Nat} (hi : 128 * i + 128 ≤ S.img.length) :
    ∃ v' h', CD 104 [v, i64n i] h = some (v', h') ∧ OwnB h' h.next v' ((S.img.drop (128 * i)).take 128) ∧ Old h h' := by
  obtain ⟨a, c, g, rfl, b1, b2, b3, b4, _, _, _, _, _, s1, s2, _⟩ := rf_begin x
  have oA : Old g (g.alloc []) := Kept.alloc _ _ _
  have nA : (g.alloc []).next = g.next + 1 := Heap.next_alloc ..
  have hbs : bslR 1 (.int .u8 0) 0 [] g = some (.slice (some ⟨g.next, 0, none⟩) 0 0, g.alloc []) := rfl
  have l0 : ld1 (ptr h.next 0) (g.alloc []) = some (.slice a S.img.length c, g.alloc []) := ld1_at (Heap.get_alloc_some b2 _) rfl
  have own0 : OwnB (g.alloc []) h.next (.slice (some ⟨g.next, 0, none⟩) 0 0) [] := ⟨OwnC.empty _ (by omega), by simp⟩
  have sA := Old.bytes (b3.trans oA) s1
  obtain ⟨a', c', e1, e2, e3⟩ := slR_bytes (lo := 128 * i) (hi := 128 * i + 128) (vl := some (i64n (128 * i))) (vh := some (i64n (128 * i + 128))) s2 sA (by omega) hi (by
      have := goodS_le s2
      unfold boundA
      simp only [i64n]
      rw [if_pos (by omega), Int.toNat_natCast]) (by
      unfold boundA
      simp only [i64n]
      rw [if_pos (by omega), Int.toNat_natCast])
  rw [Nat.add_sub_cancel_left] at e1 e2 e3
  obtain ⟨v', g2, f1, f2, f3, _⟩ := append_ownB own0 (by rw [oA.n0, b3.n0]; exact h.n0_le_next) (by omega) e2 (c := c') (by simp)
  rw [List.nil_append] at f2
  refine ⟨v', g2, CD_body is104 rfl ((t104_eq _ _ _ _).trans ?_), f2, (b3.trans oA).also f3 (fun d hd hb => ?_)⟩
  · unfold t104
    simp -implicitDefEqProofs only [b1, thenV_some, hbs, addP_ptr, Nat.add_zero, pu_some, l0, mul3 (a := 128) (show 128 * i ≤ 9223372036854775807 by omega), show bin Try.prog .mul 3 (.int .i64 128) (i64n i) = some (i64n (128 * i)) from mul3 (a := 128) (by omega), show bin Try.prog .add 3 (i64n (128 * i)) (.int .i64 128) = some (i64n (128 * i + 128)) from add3 (b := 128) (by omega), e1, f1]
  · have : baseOf (.slice (some ⟨g.next, 0, none⟩) 0 0) = some g.next := rfl
    rw [this] at hb
    cases hb
    omega

def Rf.new (n : Nat) : Rf := ⟨List.replicate (128 * n) 0, false, false, 0, 0, 0⟩
end Go.Proofs.Ytcmfgmhadeeieaa

namespace Go.Proofs.Ytcmfgmhadeeieaa
open Go Go.Abs

theorem IsRf.put {h h' : Heap} {F : Nat → Prop} {S S' : Rf} {a : Option Addr} {c : Nat} (s1 : sliceBytes a S.img.length h = some S.img) (s2 : goodS a S.img.length c = true) (s3 : ∀ y, a = some y → 0 < S.img.length → ¬ F y.block) (o : Old h h') (hi : S'.img = S.img) : IsRf h' F (.agg (S'.cells (.slice a S.img.length c)).toArray) S' :=
  ⟨a, c, by rw [hi], by rw [hi]; exact Old.bytes o s1, by rw [hi]; exact s2, by rw [hi]; exact s3⟩

def Rf.off (S : Rf) : Rf := { S with down := true, armed := false, after := 0, keep := 0, turn := if S.down then S.turn else IntKind.wrap .i64 (S.turn + 1) }
def Rf.on (S : Rf) : Rf := { S with down := false, armed := false, after := 0, keep := 0 }
def Rf.arm (S : Rf) (after keep : Int) : Rf × Int := if S.down then (S, 9) else if after < 0 ∨ keep < 0 ∨ 128 < keep then (S, 2) else ({ S with armed := true, after := after, keep := keep }, 0)

theorem newC6 {h g : Heap} {p : Value} (e : newC zero6 h = some (p, g)) : newC [(.slice none 0 0), (.bool false), (.bool false), (.int .i64 0), (.int .i64 0), (.int .i64 0)] h = some (p, g) := e

section
variable {h : Heap} {F : Nat → Prop} {v : Value} {S : Rf} (x : IsRf h F v S)
include x
/-- The number of blocks. -/
def Rf.n (S : Rf) : Nat := S.img.length / 128
def Rf.fault (S : Rf) (i : Int) : Int := if S.down then 9 else if i < 0 ∨ (S.n : Int) ≤ i then 2 else 0
end
end Go.Proofs.Ytcmfgmhadeeieaa

namespace Go.Proofs.Ytcmfgmhadeeieaa
open Go Go.Abs

theorem byte_at {h : Heap} {a : Option Addr} {n c i : Nat} {l : List Nat} (e : sliceBytes a n h = some l) (hi : i < n) : ∃ b p, a.map (·.block) = some b ∧ idxS 1 (.slice a n c) (i64n i) = some (ptr b p) ∧ ld1 (ptr b p) h = some (u8 (l.getD i 0), h) := by
  obtain ⟨h1, h2, h3⟩ := sliceBytes_spec e
  obtain ⟨b, off, s, k, rfl, hk, hlen, hc⟩ := h3 (by omega)
  refine ⟨b, off + i, rfl, ?_, ld1_at hk (hc i hi) rfl⟩
  unfold idxS
  simp only [i64n]
  rw [if_pos (by omega), Int.toNat_natCast, Nat.mul_one]

def Rf.put (S : Rf) (i : Nat) (b : List Nat) : Rf := { S with img := spliceN S.img (128 * i) b }
/-- Write. -/
def Rf.write (S : Rf) (i : Int) (b : List Nat) : Int × Rf :=
  if S.fault i = 0 then
    if b.length = 128 then
      if S.armed then
        if S.after = 0 then (9, (S.put i.toNat (b.take S.keep.toNat)).off)
        else (0, { S with after := IntKind.wrap .i64 (S.after - 1) }.put i.toNat b)
      else (0, S.put i.toNat b)
    else (10, S)
  else (S.fault i, S)
theorem Rf.fault_zero {S : Rf} {i : Int} (h : S.fault i = 0) : S.down = false ∧ 0 ≤ i ∧ i < (S.n : Int) := by
  unfold Rf.fault at h
  split at h
  · cases h
  · rename_i hd
    split at h
    · cases h
    · exact ⟨by simpa using hd, by omega, by omega⟩
end Go.Proofs.Ytcmfgmhadeeieaa

namespace Go.Proofs.Ytcmfgmhadeeieaa
open Go Go.Abs

/-- The two disks beside each other. -/
structure Eqd (D : Dk) (S : Rf) : Prop where
  img : S.img = D.img
  down : S.down = D.down
  armed : S.armed = D.armed
  arm : D.armed = true → S.after = D.after ∧ S.keep = D.keep
  da : D.down = true → D.armed = false
  turn : S.turn = D.turn
  kp : 0 ≤ S.keep ∧ S.keep ≤ 128
theorem Eqd.n {D : Dk} {S : Rf} (q : Eqd D S) (hl : D.img.length = 128 * D.n) : S.n = D.n := by
  unfold Rf.n
  rw [q.img, hl]; omega
theorem Eqd.fault {D : Dk} {S : Rf} (q : Eqd D S) (hl : D.img.length = 128 * D.n) (i : Int) : S.fault i = D.fault i := by
  unfold Rf.fault Dk.fault
  rw [q.down, q.n hl]
theorem Eqd.off {D : Dk} {S : Rf} (q : Eqd D S) : Eqd D.off S.off := by
  by_cases hd : D.down = true
  · have e : D.off = D := by unfold Dk.off; rw [if_pos hd]
    rw [e]
    refine ⟨q.img, hd.symm, (q.da hd).symm, fun h => absurd h (by rw [q.da hd]; decide), q.da, ?_, ⟨Int.le_refl 0, by show (0 : Int) ≤ 128; omega⟩⟩
    show (if S.down = true then S.turn else IntKind.wrap .i64 (S.turn + 1)) = D.turn
    rw [q.down, if_pos hd, q.turn]
  · have e : D.off = { D with down := true, armed := false, turn := IntKind.wrap .i64 (D.turn + 1) } := by unfold Dk.off; rw [if_neg hd]
    rw [e]
    refine ⟨q.img, rfl, rfl, fun h => (by cases h), fun _ => rfl, ?_, ⟨Int.le_refl 0, by show (0 : Int) ≤ 128; omega⟩⟩
    show (if S.down = true then S.turn else IntKind.wrap .i64 (S.turn + 1)) = IntKind.wrap .i64 (D.turn + 1)
    rw [q.down, if_neg hd, q.turn]
theorem Eqd.on {D : Dk} {S : Rf} (q : Eqd D S) : Eqd D.on S.on := ⟨q.img, rfl, rfl, fun h => (by cases h), fun _ => rfl, q.turn, ⟨Int.le_refl 0, by show (0 : Int) ≤ 128; omega⟩⟩
theorem Eqd.write {D : Dk} {S : Rf} (q : Eqd D S) (hl : D.img.length = 128 * D.n) (ha : 0 ≤ D.after ∧ D.after ≤ 9223372036854775807) (i : Int) (b : List Nat) : (S.write i b).1 = (D.write i b).1 ∧ Eqd (D.write i b).2 (S.write i b).2 := by
  unfold Rf.write Dk.write
  rw [q.fault hl]
  by_cases hf : D.fault i = 0
  · obtain ⟨hdn, hi1, hi2⟩ := Dk.fault_zero hf
    rw [if_pos hf, if_pos hf]
    by_cases hb : b.length = 128
    · rw [if_pos hb, if_pos hb, q.armed]
      have lay : ∀ l, Eqd (D.lay i l) (S.put i.toNat l) := fun l => ⟨by unfold Dk.lay Rf.put; rw [q.img, Nat.mul_comm], q.down, q.armed, q.arm, q.da, q.turn, q.kp⟩
      cases har : D.armed with
      | true =>
        obtain ⟨e1, e2⟩ := q.arm har
        rw [if_pos rfl, if_pos rfl, e1]
        by_cases hz : D.after = 0
        · rw [if_pos hz, if_pos hz, e2]
          exact ⟨rfl, (lay _).off⟩
        · rw [if_neg hz, if_neg hz]
          refine ⟨rfl, ?_, q.down, har.symm, fun _ => ⟨?_, e2⟩, q.da, q.turn, q.kp⟩
          · exact (lay b).img
          · show IntKind.wrap .i64 (D.after - 1) = D.after - 1
            rw [wrap_i64 (by omega) (by omega)]
      | false =>
        rw [if_neg (by decide), if_neg (by decide)]
        exact ⟨rfl, lay b⟩
    · rw [if_neg hb, if_neg hb]; exact ⟨rfl, q⟩
  · rw [if_neg hf, if_neg hf]; exact ⟨rfl, q⟩
end Go.Proofs.Ytcmfgmhadeeieaa

namespace Go.Proofs.Ytcmfgmhadeeieaa
open Go Go.Abs

theorem is102 : IsFn Try.prog 102 Try.f102 := ⟨by kernel_rfl, by kernel_rfl, by kernel_rfl, by kernel_rfl⟩
theorem is103 : IsFn Try.prog 103 Try.f103 := ⟨by kernel_rfl, by kernel_rfl, by kernel_rfl, by kernel_rfl⟩
theorem is72 : IsFn Try.prog 72 Try.f72 := ⟨by kernel_rfl, by kernel_rfl, by kernel_rfl, by kernel_rfl⟩
theorem take_snocN {l : List Nat} {i : Nat} (h : i < l.length) : l.take (i + 1) = l.take i ++ [l.getD i 0] := by
  rw [List.take_add_one, List.getElem?_eq_getElem h, List.getD_eq_getElem?_getD, List.getElem?_eq_getElem h]; rfl
/-- Value. -/
theorem r102 {h : Heap} {a : Option Addr} {n c : Nat} {l : List Nat} (e : sliceBytes a n h = some l) (hn : n ≤ 8) : CD 102 [.slice a n c] h = some (.int .u64 ((be l : Nat) : Int), h) := by
  obtain ⟨hl, hb, _⟩ := sliceBytes_spec e
  have hll : lenL (.slice a n c) = some (i64n n) := rfl
  refine CD_body is102 rfl ((t102_eq _ _ _).trans ?_)
  unfold t102
  simp -implicitDefEqProofs only [thenV_some]
  refine endL_fin (n := 20) (fin := fun ex y g => ex = .exit 0 ∧ g = h ∧ y 3 = .int .u64 ((be l : Nat) : Int)) (Q := fun o : Out => o = some (Value.int .u64 ((be l : Nat) : Int), h))
    (loop_fin (t102l102_11010_eq CD) (Inv := fun k y g => ∃ i, i + k = n ∧ y 0 = .slice a n c ∧ y 4 = i64n i ∧ g = h ∧ y 3 = .int .u64 ((be (l.take i) : Nat) : Int)) ?_ n (by have : rounds = 18446744073709551616 := rfl; omega) ⟨0, Nat.zero_add _, rfl, rfl, rfl, rfl⟩) ?_
  · rintro k y g ⟨i, hik, y0, y4, rfl, y3⟩
    unfold t102l102_11010
    simp -implicitDefEqProofs only [y4, y0, thenV_some, hll, pu_some, lss3]
    by_cases hi : i < n
    · obtain ⟨b, p, _, i1, i2⟩ := byte_at (c := c) e hi
      have hv : l.getD i 0 < 256 := by
        rw [List.getD_eq_getElem?_getD, List.getElem?_eq_getElem (by omega)]
        exact hb _ (List.getElem_mem _)
      have hbe := be_lt i (l.take i) (by simp; omega) (fun x hx => hb x (List.mem_of_mem_take hx))
      have hbe2 : be (l.take i) < 72057594037927936 := Nat.lt_of_lt_of_le hbe (Nat.le_trans (Nat.pow_le_pow_right (by decide) (show i ≤ 7 by omega)) (by decide))
      obtain ⟨b1, b2⟩ := shl_or hbe2 hv
      have hw : IntKind.wrap .u64 ((l.getD i 0 : Nat) : Int) = ((l.getD i 0 : Nat) : Int) := wrap_u64 (by omega) (by omega)
      simp -implicitDefEqProofs only [decide_eq_true hi, thenV_some, y3, b1, pu_some, i1, i2, u8, cvI_int, hw, b2, add31 (show i + 1 ≤ 9223372036854775807 by omega)]
      refine Rnd.next (k - 1) (by omega) ⟨i + 1, by omega, y0, rfl, rfl, ?_⟩
      rw [take_snocN (by omega), be_snoc]; rfl
    · have : i = n := by omega
      subst this
      simp -implicitDefEqProofs only [decide_eq_false hi]
      exact Rnd.out 0 ⟨rfl, rfl, by rw [List.take_of_length_le (by omega)] at y3; exact y3⟩
  · rintro ex z g ⟨rfl, rfl, z3⟩
    simp -implicitDefEqProofs only [endL_exit, b102_4, if_true, t102k102_2_eq]
    unfold t102k102_2
    rw [z3]
    rfl

theorem xor_add {m : Nat} (hm : m < 16) (q : Nat) : 16 * q ^^^ m = 16 * q + m := by
  apply Nat.eq_of_testBit_eq
  intro i
  have h1 := Nat.testBit_two_pow_mul_add (i := 4) (b := m) q hm i
  rw [Nat.testBit_xor, show (16 : Nat) = 2 ^ 4 from rfl, h1, Nat.testBit_two_pow_mul]
  by_cases hi : i < 4
  · rw [if_pos hi, decide_eq_false (by omega), Bool.false_and, Bool.false_xor]
  · rw [if_neg hi, decide_eq_true (by omega), Bool.true_and, Nat.testBit_lt_two_pow (Nat.lt_of_lt_of_le hm (Nat.pow_le_pow_right (n := 2) (by decide) (show 4 ≤ i by omega))), Bool.xor_false]
theorem half_xor (a b : Nat) : (a ^^^ b) / 2 = a / 2 ^^^ b / 2 := by
  have := Nat.shiftRight_xor_distrib (a := a) (b := b) (i := 1)
  rw [Nat.shiftRight_eq_div_pow, Nat.shiftRight_eq_div_pow, Nat.shiftRight_eq_div_pow] at this
  exact this
theorem bit_xor (a b : Nat) : crcBit (a ^^^ b) = crcBit a ^^^ crcBit b := by
  unfold crcBit
  have hm : (a ^^^ b) % 2 = (a + b) % 2 := by
    have h := Nat.xor_mod_two_pow (a := a) (b := b) (n := 1)
    rw [show (2 : Nat) ^ 1 = 2 from rfl] at h
    rw [h]
    rcases Nat.mod_two_eq_zero_or_one a with ha | ha <;> rcases Nat.mod_two_eq_zero_or_one b with hb | hb <;> rw [ha, hb] <;> simp <;> omega
  rw [half_xor, hm]
  rcases Nat.mod_two_eq_zero_or_one a with ha | ha <;> rcases Nat.mod_two_eq_zero_or_one b with hb | hb
  · rw [show (a + b) % 2 = 0 by omega, ha, hb]; simp
  · rw [show (a + b) % 2 = 1 by omega, ha, hb, Nat.mul_one, Nat.mul_zero, Nat.xor_zero, Nat.xor_assoc]
  · rw [show (a + b) % 2 = 1 by omega, ha, hb, Nat.mul_one, Nat.mul_zero, Nat.xor_zero, Nat.xor_assoc, Nat.xor_comm (b / 2), Nat.xor_assoc]
  · rw [show (a + b) % 2 = 0 by omega, ha, hb, Nat.mul_one, Nat.mul_zero, Nat.xor_zero]
    generalize (0x82f63b78 : Nat) = p
    rw [Nat.xor_assoc, ← Nat.xor_assoc p, Nat.xor_comm p, Nat.xor_assoc, Nat.xor_self, Nat.xor_zero]
theorem bit_even (q : Nat) : crcBit (2 * q) = q := by
  unfold crcBit
  rw [show 2 * q / 2 = q by omega, show 2 * q % 2 = 0 by omega, Nat.mul_zero, Nat.xor_zero]
theorem bit4 (r : Nat) : crcBit (crcBit (crcBit (crcBit r))) = crcHalf crcTab r := by
  have hr : r = 16 * (r / 16) ^^^ r % 16 := by rw [xor_add (by omega)]; omega
  have h16 : crcBit (crcBit (crcBit (crcBit (16 * (r / 16))))) = r / 16 := by
    rw [show 16 * (r / 16) = 2 * (2 * (2 * (2 * (r / 16)))) by omega, bit_even, bit_even, bit_even, bit_even]
  calc crcBit (crcBit (crcBit (crcBit r))) = crcBit (crcBit (crcBit (crcBit (16 * (r / 16) ^^^ r % 16)))) := by rw [← hr]
    _ = crcBit (crcBit (crcBit (crcBit (16 * (r / 16))))) ^^^ crcBit (crcBit (crcBit (crcBit (r % 16)))) := by rw [bit_xor, bit_xor, bit_xor, bit_xor]
    _ = crcHalf crcTab r := by rw [h16, Nat.xor_comm]; rfl
/-- One bit, as the reference has it. -/
theorem bit_if (r : Nat) : crcBit r = if r % 2 = 1 then r / 2 ^^^ 2197175160 else r / 2 := by
  unfold crcBit
  rcases Nat.mod_two_eq_zero_or_one r with h | h
  · rw [h, if_neg (by decide), Nat.mul_zero, Nat.xor_zero]
  · rw [h, if_pos rfl, Nat.mul_one]
theorem crcIter8 (r x : Nat) : crcIter (r ^^^ x) 8 = crcStep r x := by
  show crcBit (crcBit (crcBit (crcBit (crcBit (crcBit (crcBit (crcBit (r ^^^ x)))))))) = crcHalf crcTab (crcHalf crcTab (r ^^^ x))
  rw [bit4, bit4]
theorem crc_in (X : Nat → Value) (g : Heap) {c0 : Nat} (hc : c0 < 4294967296) (x3 : X 3 = u32 c0) (x5 : X 5 = i64n 0) :
    Fin 33 (fun ex y g' => ex = .exit 2 ∧ g' = g ∧ y 0 = X 0 ∧ y 4 = X 4 ∧ y 3 = u32 (crcIter c0 8)) (iter (codeA Try.prog CD (partOf Try.f103 [1, 1, 0, 1, 0, 0, 1, 0, 0, 1, 1, 0, 0])) rounds (mkF 33 X) g) := by
  refine loop_fin (t103l103_110100100110_eq CD) (Inv := fun k y g' => ∃ i, i + k = 8 ∧ y 5 = i64n i ∧ g' = g ∧ y 0 = X 0 ∧ y 4 = X 4 ∧ y 3 = u32 (crcIter c0 i)) ?_ 8 (by have : rounds = 18446744073709551616 := rfl; omega) ⟨0, rfl, x5, rfl, rfl, rfl, x3⟩
  rintro k y g' ⟨i, hik, y5, rfl, y0, y4, y3⟩
  have hlss : bin Try.prog .lss 3 (i64n i) (.int .i64 8) = some (.bool (decide (i < 8))) := lss3 i 8
  unfold t103l103_110100100110
  simp -implicitDefEqProofs only [y5, thenV_some, hlss, pu_some]
  by_cases hi : i < 8
  · have hci := crcIter_lt hc i
    obtain ⟨o1, o2, _, _⟩ := crc_bit_ops hci
    have hx := bin_xor_nat Try.prog 113 (k := .u32) rfl (a := crcIter c0 i / 2) (b := 2197175160) (by show _ < 2 ^ 32; omega) (by show _ < 2 ^ 32; omega)
    have hx' : bin Try.prog .xor 113 (u32 (crcIter c0 i / 2)) (.int .u32 2197175160) = some (u32 (crcIter c0 i / 2 ^^^ 2197175160)) := hx
    have hnext := bit_if (crcIter c0 i)
    rcases Nat.mod_two_eq_zero_or_one (crcIter c0 i) with hm | hm
    · rw [hm, if_neg (by decide)] at hnext
      have he : bin Try.prog .eql 113 (u32 (crcIter c0 i % 2)) (.int .u32 1) = some (.bool false) := by rw [hm]; kernel_rfl
      simp -implicitDefEqProofs only [decide_eq_true hi, thenV_some, y3, o1, o2, he, pu_some, add31 (show i + 1 ≤ 9223372036854775807 by omega)]
      exact Rnd.next (k - 1) (by omega) ⟨i + 1, by omega, rfl, rfl, y0, y4, by show u32 _ = u32 (crcBit (crcIter c0 i)); rw [hnext]⟩
    · rw [hm, if_pos rfl] at hnext
      have he : bin Try.prog .eql 113 (u32 (crcIter c0 i % 2)) (.int .u32 1) = some (.bool true) := by rw [hm]; kernel_rfl
      simp -implicitDefEqProofs only [decide_eq_true hi, thenV_some, y3, o1, o2, he, hx', pu_some, add31 (show i + 1 ≤ 9223372036854775807 by omega)]
      exact Rnd.next (k - 1) (by omega) ⟨i + 1, by omega, rfl, rfl, y0, y4, by show u32 _ = u32 (crcBit (crcIter c0 i)); rw [hnext]⟩
  · have : i = 8 := by omega
    subst this
    simp -implicitDefEqProofs only [decide_eq_false hi]
    exact Rnd.out 2 ⟨rfl, rfl, y0, y4, y3⟩
/-- Crc. -/
theorem r103 {h : Heap} {a : Option Addr} {n c : Nat} {l : List Nat} (e : sliceBytes a n h = some l) (hn : n ≤ 1000000) : CD 103 [.slice a n c] h = some (u32 (crcN l), h) := by
  obtain ⟨hl, hb, _⟩ := sliceBytes_spec e
  have hll : lenL (.slice a n c) = some (i64n n) := rfl
  refine CD_body is103 rfl ((t103_eq _ _ _).trans ?_)
  unfold t103
  simp -implicitDefEqProofs only [thenV_some]
  refine endL_fin (n := 33) (fin := fun ex y g => ex = .exit 0 ∧ g = h ∧ y 3 = u32 (l.foldl crcStep 4294967295)) (Q := fun o : Out => o = some (u32 (crcN l), h))
    (loop_fin (t103l103_11010_eq CD) (Inv := fun k y g => ∃ i, i + k = n ∧ y 0 = .slice a n c ∧ y 4 = i64n i ∧ g = h ∧ y 3 = u32 ((l.take i).foldl crcStep 4294967295)) ?_ n (by have : rounds = 18446744073709551616 := rfl; omega) ⟨0, Nat.zero_add _, rfl, rfl, rfl, rfl⟩) ?_
  · rintro k y g ⟨i, hik, y0, y4, rfl, y3⟩
    unfold t103l103_11010
    simp -implicitDefEqProofs only [y4, y0, thenV_some, hll, pu_some, lss3]
    by_cases hi : i < n
    · obtain ⟨b, p, _, i1, i2⟩ := byte_at (c := c) e hi
      have hv : l.getD i 0 < 256 := by
        rw [List.getD_eq_getElem?_getD, List.getElem?_eq_getElem (by omega)]
        exact hb _ (List.getElem_mem _)
      have hc : (l.take i).foldl crcStep 4294967295 < 4294967296 := crcFold_lt _ _ (by omega) (fun x hx => hb x (List.mem_of_mem_take hx))
      have hw : IntKind.wrap .u32 ((l.getD i 0 : Nat) : Int) = ((l.getD i 0 : Nat) : Int) := wrap_u32 (by omega) (by omega)
      have hx := bin_xor_nat Try.prog 113 (k := .u32) rfl (a := (l.take i).foldl crcStep 4294967295) (b := l.getD i 0) hc (by show _ < 2 ^ 32; omega)
      have hx2 : (l.take i).foldl crcStep 4294967295 ^^^ l.getD i 0 < 4294967296 := Nat.xor_lt_two_pow (n := 32) hc (by omega)
      simp -implicitDefEqProofs only [decide_eq_true hi, thenV_some, y3, pu_some, i1, i2, u8, cvI_int, hw, hx]
      refine endL_fin (crc_in _ g hx2 rfl rfl) ?_
      rintro ex z g' ⟨rfl, rfl, z0, z4, z3⟩
      simp -implicitDefEqProofs only [endL_exit, b103_12, if_true, t103k103_8_eq]
      unfold t103k103_8
      have z4 : z 4 = i64n i := z4.trans y4
      simp -implicitDefEqProofs only [z4, thenV_some, pu_some, add31 (show i + 1 ≤ 9223372036854775807 by omega)]
      refine Rnd.next (k - 1) (by omega) ⟨i + 1, by omega, z0.trans y0, rfl, rfl, ?_⟩
      show z 3 = _
      rw [z3, crcIter8, take_snocN (by omega), List.foldl_append]
      rfl
    · have : i = n := by omega
      subst this
      simp -implicitDefEqProofs only [decide_eq_false hi]
      exact Rnd.out 0 ⟨rfl, rfl, by rw [List.take_of_length_le (by omega)] at y3; exact y3⟩
  · rintro ex z g ⟨rfl, rfl, z3⟩
    simp -implicitDefEqProofs only [endL_exit, b103_4, if_true, t103k103_2_eq]
    unfold t103k103_2
    simp -implicitDefEqProofs only [z3, thenV_some, unA_xor_u32 (crcFold_lt l 4294967295 (by omega) hb), pu_some]
    rfl
/-- Right. -/
theorem r72 {h : Heap} {a : Option Addr} {n c : Nat} {l : List Nat} (e : sliceBytes a n h = some l) (hg : goodS a n c = true) (hn : n = 128) : CD 72 [.slice a n c] h = some (.bool (right l), h) := by
  subst hn
  obtain ⟨hl, hb, _⟩ := sliceBytes_spec e
  have hle := goodS_le hg
  obtain ⟨a1, c1, s1, s2, s3⟩ := slR_bytes (lo := 0) (hi := 4) (vl := none) (vh := some (.int .i64 4)) hg e (by omega) (by omega) (by
    unfold boundA
    simp only
    rw [if_pos (by omega)]; rfl) rfl
  obtain ⟨a2, c2, t1, t2, t3⟩ := slR_bytes (lo := 4) (hi := 128) (vl := some (.int .i64 4)) (vh := none) hg e (by omega) (by omega) rfl (by
    unfold boundA
    simp only
    rw [if_pos (by omega)]; rfl)
  rw [List.drop_zero] at s2
  have ht : (l.drop 4).take (128 - 4) = l.drop 4 := List.take_of_length_le (by rw [List.length_drop]; omega)
  rw [ht] at t2
  have e1 := r102 (c := c1) s2 (by omega)
  have e2 := r103 (c := c2) t2 (by omega)
  have hcr := crcN_lt (l := l.drop 4) (fun x hx => hb x (List.mem_of_mem_drop hx))
  have hw : IntKind.wrap .u64 ((crcN (l.drop 4) : Nat) : Int) = ((crcN (l.drop 4) : Nat) : Int) := wrap_u64 (by omega) (by omega)
  refine CD_body is72 rfl ((t72_eq _ _ _).trans ?_)
  unfold t72
  simp -implicitDefEqProofs only [thenV_some, s1, pu_some, e1, t1, e2, u32, cvI_int, hw, bin_eql]
  unfold right
  rw [← int_beq]
end Go.Proofs.Ytcmfgmhadeeieaa

namespace Go.Proofs.Ytcmfgmhadeeieaa
open Go Go.Abs

theorem is46 : IsFn Try.prog 46 Try.f46 := ⟨by kernel_rfl, by kernel_rfl, by kernel_rfl, by kernel_rfl⟩
theorem is96 : IsFn Try.prog 96 Try.f96 := ⟨by kernel_rfl, by kernel_rfl, by kernel_rfl, by kernel_rfl⟩
theorem is65 : IsFn Try.prog 65 Try.f65 := ⟨by kernel_rfl, by kernel_rfl, by kernel_rfl, by kernel_rfl⟩
theorem results96 : Try.f96.results.toList = [.cell 4 118] := by kernel_rfl
theorem results65 : Try.f65.results.toList = [.tmp 2, .cell 3 118] := by kernel_rfl
theorem ld118 (v : Value) (h : Heap) : ld Try.prog 118 v h = ldN 3 v h := by
  unfold ld
  rw [show aggT Try.prog 118 = some true by kernel_rfl, show sizeT Try.prog 118 = some 3 by kernel_rfl]
theorem mkF_at {n k : Nat} (hk : k < n) (x : Nat → Value) : (mkF n x).getD k undef = x k := by
  unfold mkF
  simp [hk]
theorem res_c {rs : List ResultVar} {n k t m : Nat} (hr : rs = [.cell k t]) (hk : k < n) (hld : ∀ v h, ld Try.prog t v h = ldN m v h) (x : Nat → Value) {h : Heap} {v : Value} (e : ldN m (x k) h = some (v, h)) : resultsA Try.prog rs (mkF n x) h = some (v, h) := by
  subst hr
  simp only [resultsA, resultA, mkF_at hk, hld, e]
  rfl
theorem res_tc {rs : List ResultVar} {n k t m q : Nat} (hr : rs = [.tmp q, .cell k t]) (hk : k < n) (hq : q < n) (hld : ∀ v h, ld Try.prog t v h = ldN m v h) (x : Nat → Value) {h : Heap} {v : Value} (e : ldN m (x k) h = some (v, h)) : resultsA Try.prog rs (mkF n x) h = some (.tuple #[x q, v], h) := by
  subst hr
  simp only [resultsA, List.mapM_cons, List.mapM_nil, resultA, mkF_at hk, mkF_at hq, hld, e]
  rfl
/-- A small struct is stored whole and loaded. -/
theorem sm_st {h : Heap} {b n : Nat} {k k' : Blk} (g : h.get b = some k) (h0 : h.n0 ≤ b) (hl : k.length = n) (hl' : k'.length = n) (ho : oneCells k' = true) (hh : Abs.noHoles k' = true) :
    stN n (ptr b 0) (.agg k'.toArray) h = some (undef, h.set b k') ∧ ldN n (ptr b 0) (h.set b k') = some (.agg k'.toArray, h.set b k') ∧ (h.set b k').get b = some k' ∧ Kept h (h.set b k') (fun c => c = b) := by
  have g' := Heap.get_set_same h0 g k'
  exact ⟨stN_whole g h0 hl hl' ho, ldN_whole g' hl' hh, g', Kept.set h0 g (.inr rfl)⟩

/-- A superblock, as the reference has it. -/
def superC (b : List Nat) : Blk := if superOk b = true then [.bool true, .int .u64 ((superGen b : Nat) : Int), i64n (superArea b)] else [.bool false, .int .u64 0, .int .i64 0]
theorem superC_len (b : List Nat) : (superC b).length = 3 := by unfold superC; split <;> rfl
theorem superC_one (b : List Nat) : oneCells (superC b) = true := by unfold superC; split <;> rfl
theorem superC_hole (b : List Nat) : Abs.noHoles (superC b) = true := by unfold superC; split <;> rfl
theorem stol {b : List Nat} (hb : ∀ y ∈ b, y < 256) (hl : b.length = 128) : ((strOf ((b.drop 4).take 4)).toList == (⟨#[83, 84, 79, 76]⟩ : ByteArray).toList) = (be ((b.drop 4).take 4) == 1398034252) := by
  have h1 : (⟨#[83, 84, 79, 76]⟩ : ByteArray) = strOf [83, 84, 79, 76] := rfl
  have h2 : ∀ y ∈ (b.drop 4).take 4, y < 256 := fun y hy => hb y (List.mem_of_mem_drop (List.mem_of_mem_take hy))
  have hlen : ((b.drop 4).take 4).length = 4 := by rw [List.length_take, List.length_drop]; omega
  rw [h1, strOf_inj h2 (by decide)]
  by_cases he : (b.drop 4).take 4 = [83, 84, 79, 76]
  · rw [he]; rfl
  · rw [decide_eq_false he]
    symm
    rw [beq_eq_false_iff_ne]
    intro h
    exact he (be_inj (by rw [hlen]; rfl) h2 (by decide) (h.trans (by rfl)))
section
variable {h : Heap} {F : Nat → Prop} {v : Value} {S : Rf} (x : IsRf h F v S) {D : Dk} (hi : S.img = D.img) (hl : D.img.length = 128 * D.n) (h4 : 4 ≤ D.n) (hn : D.n ≤ 4096)
include x hi hl h4 hn
/-- Area. -/
theorem r46 : ∃ h', CD 46 [v] h = some (i64n D.ar, h') ∧ Old h h' := by
  have x' := x
  obtain ⟨a, c, g, rfl, b1, b2, b3, _⟩ := rf_begin x
  obtain ⟨g1, e51, o51⟩ := r51 (x'.old b3) (by rw [hi]; omega)
  have e51 : CD 51 [.agg (S.cells (.slice a S.img.length c)).toArray] g = some (i64n D.n, g1) := by rw [e51, hi, hl, Nat.mul_div_cancel_left _ (by decide)]
  have hsub : bin Try.prog .sub 3 (i64n D.n) (.int .i64 2) = some (i64n (D.n - 2)) := sub3 (b := 2) (by omega) (by omega)
  have hquo : bin Try.prog .quo 3 (i64n (D.n - 2)) (.int .i64 2) = some (i64n D.ar) := by
    rw [bin_quo _ _ _ _ _ (by decide)]
    have : ((D.n - 2 : Nat) : Int).tdiv 2 = ((D.ar : Nat) : Int) := by rw [Int.tdiv_eq_ediv_of_nonneg (by omega)]; rfl
    have har : D.ar = (D.n - 2) / 2 := rfl
    rw [this, wrap_i64 (by omega) (by omega)]
  refine ⟨g1, CD_body is46 rfl ((t46_eq _ _ _).trans ?_), b3.trans o51⟩
  unfold t46
  simp -implicitDefEqProofs only [b1, thenV_some, rf_ld b2 rfl (cells_hole _ _ _ _), e51, hsub, hquo, pu_some]
/-- A block, by the program's name for it. -/
theorem rblk {i : Nat} (hin : i < D.n) : ∃ a c h', CD 104 [v, i64n i] h = some (.slice a 128 c, h') ∧ sliceBytes a 128 h' = some (D.blk i) ∧ goodS a 128 c = true ∧ (∀ y, a = some y → h.next ≤ y.block) ∧ Old h h' ∧ (D.blk i).length = 128 := by
  have hbl := D.blk_len hl hin
  obtain ⟨w, h', e, ow, o⟩ := r104 x (by rw [hi]; omega) (i := i) (by rw [hi]; omega)
  have hb : (S.img.drop (128 * i)).take 128 = D.blk i := by unfold Dk.blk; rw [hi, Nat.mul_comm]
  rw [hb] at ow
  obtain ⟨a, c, rfl, s1, s2, s3, _⟩ := ow.bytes
  rw [hbl] at e s1 s2
  exact ⟨a, c, h', e, s1, s2, s3, o, hbl⟩

set_option maxRecDepth 100000 in
/-- ReadSuper. -/
theorem r96 {s : Nat} (hs : s < 2) : ∃ h', CD 96 [v, i64n s] h = some (.agg (superC (D.blk s)).toArray, h') ∧ Old h h' := by
  have x' := x
  obtain ⟨a, c, g, rfl, b1, b2, b3, b4, _⟩ := rf_begin x
  have hn0 := h.n0_le_next
  have hnew : newC [(.bool false), (.int .u64 0), (.int .i64 0)] g = some (ptr g.next 0, g.alloc [(.bool false), (.int .u64 0), (.int .i64 0)]) := rfl
  have oz : Old g (g.alloc [(.bool false), (.int .u64 0), (.int .i64 0)]) := Kept.alloc _ _ _
  have gz : (g.alloc [(.bool false), (.int .u64 0), (.int .i64 0)]).get g.next = some [(.bool false), (.int .u64 0), (.int .i64 0)] := by rw [Heap.get_alloc, if_pos rfl]
  have b2z := Old.get oz b2
  generalize g.alloc [(.bool false), (.int .u64 0), (.int .i64 0)] = q0 at *
  have o0 := b3.trans oz
  obtain ⟨ab, cb, q1, e104, sb, gb, _, o1, hbl⟩ := rblk (x'.old o0) hi hl h4 hn (i := s) (by omega)
  have hbyte := (sliceBytes_spec sb).2.1
  have e72 := r72 sb gb rfl
  have hle := goodS_le gb
  have o01 := o0.trans o1
  have gz1 := Old.get o1 gz
  have ldx := rf_ld b2z rfl (cells_hole _ _ _ _)
  obtain ⟨a1, c1, s1, t1, _⟩ := slR_bytes (lo := 4) (hi := 8) (vl := some (.int .i64 4)) (vh := some (.int .i64 8)) gb sb (by omega) (by omega) (by unfold boundA; simp only; rw [if_pos (by omega)]; rfl) (by unfold boundA; simp only; rw [if_pos (by omega)]; rfl)
  have cv := cvBS_at (c := c1) t1
  obtain ⟨a2, c2, s2, t2, _⟩ := slR_bytes (lo := 8) (hi := 16) (vl := some (.int .i64 8)) (vh := some (.int .i64 16)) gb sb (by omega) (by omega) (by unfold boundA; simp only; rw [if_pos (by omega)]; rfl) (by unfold boundA; simp only; rw [if_pos (by omega)]; rfl)
  have e102 := r102 (c := c2) t2 (by omega)
  obtain ⟨pb, pp, _, i1, i2⟩ := byte_at (c := cb) sb (i := 16) (by omega)
  have i1 : idxS 1 (.slice ab 128 cb) (.int .i64 16) = some (ptr pb pp) := i1
  have hv : (D.blk s).getD 16 0 < 256 := by
    rw [List.getD_eq_getElem?_getD, List.getElem?_eq_getElem (by omega)]
    exact hbyte _ (List.getElem_mem _)
  have har : superArea (D.blk s) = (D.blk s).getD 16 0 := by
    unfold superArea
    have : ((D.blk s).drop 16).take 1 = [(D.blk s).getD 16 0] := by
      rw [List.getD_eq_getElem?_getD, List.getElem?_eq_getElem (by omega), List.drop_eq_getElem_cons (by omega)]; rfl
    rw [this]
    simp [be]
  have hgt : bin Try.prog .gtr 5 (u8 ((D.blk s).getD 16 0)) (.int .u8 1) = some (.bool (decide (1 < (D.blk s).getD 16 0))) := by
    rw [bin_gtr]
    exact congrArg (fun q => some (Value.bool q)) (decide_eq_decide.2 (by omega))
  have hw : IntKind.wrap .i64 (((D.blk s).getD 16 0 : Nat) : Int) = (((D.blk s).getD 16 0 : Nat) : Int) := wrap_i64 (by omega) (by omega)
  have bad : superOk (D.blk s) = false → superC (D.blk s) = [.bool false, .int .u64 0, .int .i64 0] := fun h => by unfold superC; rw [h, if_neg (by decide)]
  have hn1 : q1.n0 ≤ g.next := by rw [o01.n0]; omega
  obtain ⟨p1, p2, p3, p4⟩ := sm_st (n := 3) gz1 hn1 rfl (superC_len (D.blk s)) (superC_one _) (superC_hole _)
  have oo : Old h (q1.set g.next (superC (D.blk s))) := o01.also p4 (fun c hc e => by omega)
  refine ⟨_, CD_body is96 rfl ((t96_eq _ _ _ _).trans ?_), oo⟩
  have hz : bldR [(.bool false), (.int .u64 0), (.int .i64 0)] [] = some (.agg #[(.bool false), (.int .u64 0), (.int .i64 0)]) := rfl
  unfold t96
  simp -implicitDefEqProofs only [b1, thenV_some, hnew, ldx, e104, e72, unA_not, pu_some, bOf_bool]
  cases hr : right (D.blk s) with
  | false =>
    have hb := bad (by unfold superOk; rw [hr]; rfl)
    rw [hb] at p1 p2 ⊢
    simp -implicitDefEqProofs only [Bool.not_false, sf, guardK_false, thenV_some, if_true, bOf_bool, hz, p1, pu_some]
    exact res_c (rs := Try.f96.results.toList) (n := 33) results96 (by decide) ld118 _ p2
  | true =>
    simp -implicitDefEqProofs only [Bool.not_true, beq_self_eq_true, guardK_true, thenV_some, s1, cv, pu_some, bin_str_neq, stol hbyte hbl, Bool.false_eq_true, if_false, bOf_bool]
    cases hm : (be (((D.blk s).drop 4).take 4) == 1398034252) with
    | false =>
      have hb := bad (by unfold superOk; rw [hr, hm]; rfl)
      rw [hb] at p1 p2 ⊢
      simp -implicitDefEqProofs only [Bool.not_false, sf, guardK_false, thenV_some, if_true, bOf_bool, hz, p1, pu_some]
      exact res_c (rs := Try.f96.results.toList) (n := 33) results96 (by decide) ld118 _ p2
    | true =>
      simp -implicitDefEqProofs only [Bool.not_true, beq_self_eq_true, guardK_true, thenV_some, i1, i2, pu_some, hgt, Bool.false_eq_true, if_false, bOf_bool]
      by_cases hA : 1 < (D.blk s).getD 16 0
      · have hb := bad (by unfold superOk; rw [har, decide_eq_false (by omega), Bool.and_false])
        rw [hb] at p1 p2 ⊢
        simp -implicitDefEqProofs only [decide_eq_true hA, hz, p1, pu_some, thenV_some]
        exact res_c (rs := Try.f96.results.toList) (n := 33) results96 (by decide) ld118 _ p2
      · have hok : superOk (D.blk s) = true := by unfold superOk; rw [hr, hm, har, decide_eq_true (by omega)]; rfl
        have hC : superC (D.blk s) = [.bool true, .int .u64 ((superGen (D.blk s) : Nat) : Int), i64n ((D.blk s).getD 16 0)] := by unfold superC; rw [hok, if_pos rfl, har]
        rw [hC] at p1 p2 ⊢
        have hbl2 : bldR [(.bool false), (.int .u64 0), (.int .i64 0)] [(0, 1, (.bool true)), (1, 1, .int .u64 ((be (((D.blk s).drop 8).take (16 - 8)) : Nat) : Int)), (2, 1, i64n ((D.blk s).getD 16 0))] = some (.agg [.bool true, .int .u64 ((superGen (D.blk s) : Nat) : Int), i64n ((D.blk s).getD 16 0)].toArray) := rfl
        have hck1 : chkR true (some (u8 ((D.blk s).getD 16 0), q1)) (u8 ((D.blk s).getD 16 0)) = true := chk_at rfl (by simp [veq])
        have hck2 : chkR true (some (i64n ((D.blk s).getD 16 0), q1)) (i64n ((D.blk s).getD 16 0)) = true := chk_at rfl (by simp [veq])
        have cvi : cvI .i64 (u8 ((D.blk s).getD 16 0)) q1 = some (i64n ((D.blk s).getD 16 0), q1) := by rw [u8, cvI_int, hw]
        simp -implicitDefEqProofs only [decide_eq_false hA, s2, pu_some, e102, thenV_some, i1, i2, cvi, hbl2, p1, hck1, hck2, Bool.and_true]
        exact res_c (rs := Try.f96.results.toList) (n := 33) results96 (by decide) ld118 _ p2
end
end Go.Proofs.Ytcmfgmhadeeieaa

namespace Go.Proofs.Ytcmfgmhadeeieaa
open Go Go.Abs

/-- The active superblock, by cases. -/
theorem openJ_act (D : Dk) (t : Int) : ((D.openJ t).slot, (D.openJ t).gen, (D.openJ t).area) =
    if superOk (D.blk 1) = true ∧ (superOk (D.blk 0) = false ∨ superGen (D.blk 0) < superGen (D.blk 1)) then (1, superGen (D.blk 1), superArea (D.blk 1))
    else if superOk (D.blk 0) = true then (0, superGen (D.blk 0), superArea (D.blk 0)) else (-1, 0, 0) := by
  have h : (D.openJ t).un = _ := D.openJ_un t
  have h1 : (D.openJ t).slot = (D.openJ t).un.slot := rfl
  have h2 : (D.openJ t).gen = (D.openJ t).un.gen := rfl
  have h3 : (D.openJ t).area = (D.openJ t).un.area := rfl
  rw [h1, h2, h3, h]
  cases k1 : superOk (D.blk 1) with
  | false =>
    simp only [Bool.false_eq_true, if_false, false_and]
    cases k0 : superOk (D.blk 0) with
    | false => rfl
    | true => rw [if_pos rfl, if_pos rfl, Dk.jn0_take]; rfl
  | true =>
    rw [if_pos rfl]
    cases k0 : superOk (D.blk 0) with
    | false => rw [if_neg (by decide), if_pos ⟨rfl, .inl rfl⟩, Dk.jn0_take]; rfl
    | true =>
      rw [if_pos rfl, Dk.jn0_take]
      by_cases hg : superGen (D.blk 0) < superGen (D.blk 1)
      · rw [if_pos ⟨rfl, .inr hg⟩]
        unfold Jn.takeSuper
        rw [if_pos (.inr hg)]; rfl
      · rw [if_neg (by rintro ⟨_, h | h⟩; cases h; exact hg h), if_pos rfl]
        unfold Jn.takeSuper
        rw [if_neg (by rintro (h | h); exact absurd h (by show ¬ (((0 : Nat) : Int) < 0); decide); exact hg h)]; rfl

section
variable {h : Heap} {F : Nat → Prop} {v : Value} {S : Rf} (x : IsRf h F v S) {D : Dk} (hi : S.img = D.img) (hl : D.img.length = 128 * D.n) (h4 : 4 ≤ D.n) (hn : D.n ≤ 4096)
include x hi hl h4 hn
set_option maxRecDepth 100000 in
/-- Active. -/
theorem r65 (t : Int) : ∃ ok h', CD 65 [v] h = some (.tuple #[.int .i64 (D.openJ t).slot, .agg #[.bool ok, .int .u64 (((D.openJ t).gen : Nat) : Int), i64n (D.openJ t).area]], h') ∧ Old h h' := by
  have x' := x
  have hact := openJ_act D t
  obtain ⟨a, c, g, rfl, b1, b2, b3, b4, _⟩ := rf_begin x
  have hn0 := h.n0_le_next
  have hnew : ∀ q : Heap, newC [(.bool false), (.int .u64 0), (.int .i64 0)] q = some (ptr q.next 0, q.alloc [(.bool false), (.int .u64 0), (.int .i64 0)]) := fun _ => rfl
  have getz : ∀ q : Heap, (q.alloc [(.bool false), (.int .u64 0), (.int .i64 0)]).get q.next = some [(.bool false), (.int .u64 0), (.int .i64 0)] := fun q => by rw [Heap.get_alloc, if_pos rfl]
  have oz : Old g (g.alloc [(.bool false), (.int .u64 0), (.int .i64 0)]) := Kept.alloc _ _ _
  have gz := getz g
  have hn1 := hnew g
  have b2z := Old.get oz b2
  have nz : (g.alloc [(.bool false), (.int .u64 0), (.int .i64 0)]).next = g.next + 1 := Heap.next_alloc ..
  generalize g.alloc [(.bool false), (.int .u64 0), (.int .i64 0)] = q0 at *
  have o0 := b3.trans oz
  obtain ⟨q1, e1, o1⟩ := r96 (x'.old o0) hi hl h4 hn (s := 0) (by omega)
  obtain ⟨q2, e2, o2⟩ := r96 (x'.old (o0.trans o1)) hi hl h4 hn (s := 1) (by omega)
  have ld0 := rf_ld b2z rfl (cells_hole _ _ _ _)
  have ld1' := rf_ld (Old.get o1 b2z) rfl (cells_hole _ _ _ _)
  have nq1 := o1.next
  have nq2 := o2.next
  have gz2 := Old.get (o1.trans o2) gz
  have o02 := (o0.trans o1).trans o2
  have hn2 := hnew q2
  have o3 : Old q2 (q2.alloc [(.bool false), (.int .u64 0), (.int .i64 0)]) := Kept.alloc _ _ _
  have g4 := getz q2
  have n3 : (q2.alloc [(.bool false), (.int .u64 0), (.int .i64 0)]).next = q2.next + 1 := Heap.next_alloc ..
  generalize q2.alloc [(.bool false), (.int .u64 0), (.int .i64 0)] = q3 at *
  have hn3 := hnew q3
  have o4 : Old q3 (q3.alloc [(.bool false), (.int .u64 0), (.int .i64 0)]) := Kept.alloc _ _ _
  have g5 := getz q3
  have n4 : (q3.alloc [(.bool false), (.int .u64 0), (.int .i64 0)]).next = q3.next + 1 := Heap.next_alloc ..
  generalize q3.alloc [(.bool false), (.int .u64 0), (.int .i64 0)] = q4 at *
  have g44 := Old.get o4 g4
  have gz4 := Old.get (o3.trans o4) gz2
  have o04 := (o02.trans o3).trans o4
  have hle : q4.n0 ≤ h.next := by rw [o04.n0]; exact hn0
  obtain ⟨s1, _, s3, s4⟩ := sm_st (n := 3) g44 (by omega) rfl (superC_len (D.blk 0)) (superC_one _) (superC_hole _)
  have g55 := s4.getE g5 (by omega)
  have gz5 := s4.getE gz4 (by omega)
  have nn5 : (q4.set q2.next (superC (D.blk 0))).n0 ≤ h.next := by rw [s4.n0]; exact hle
  have nx5 := s4.next
  generalize q4.set q2.next (superC (D.blk 0)) = q5 at *
  obtain ⟨t1, t2, t3, t4⟩ := sm_st (n := 3) g55 (by omega) rfl (superC_len (D.blk 1)) (superC_one _) (superC_hole _)
  have g46 := t4.getE s3 (by omega)
  have gz6 := t4.getE gz5 (by omega)
  have nn6 : (q5.set q3.next (superC (D.blk 1))).n0 ≤ h.next := by rw [t4.n0]; exact nn5
  generalize q5.set q3.next (superC (D.blk 1)) = q6 at *
  have o06 : Old h q6 := (o04.also s4 (fun c hc e => by omega)).also t4 (fun c hc e => by omega)
  have hck : chkR true (some (Value.agg (S.cells (.slice a S.img.length c)).toArray, q0)) (.agg (S.cells (.slice a S.img.length c)).toArray) = true := chk_at rfl (by simp [veq, veqL, Rf.cells])
  have e1 : CD 96 [.agg (S.cells (.slice a S.img.length c)).toArray, .int .i64 0] q0 = some (.agg (superC (D.blk 0)).toArray, q1) := e1
  have e2 : CD 96 [.agg (S.cells (.slice a S.img.length c)).toArray, .int .i64 1] q1 = some (.agg (superC (D.blk 1)).toArray, q2) := e2
  have fin : ∀ k' : Blk, k'.length = 3 → oneCells k' = true → Abs.noHoles k' = true → ∃ q7, stN 3 (ptr g.next 0) (.agg k'.toArray) q6 = some (undef, q7) ∧ ldN 3 (ptr g.next 0) q7 = some (.agg k'.toArray, q7) ∧ Old h q7 := by
    intro k' k1 k2 k3
    obtain ⟨u1, u2, _, u4⟩ := sm_st (n := 3) gz6 (by omega) rfl k1 k2 k3
    exact ⟨_, u1, u2, o06.also u4 (fun c hc e => by omega)⟩
  have fb0 : ∀ b : List Nat, ld1 (ptr q2.next 0) q6 = some (.bool (superOk (D.blk 0)), q6) := fun _ => ld1_at g46 (by unfold superC; split <;> simp_all) rfl
  have fb1 : ld1 (ptr q3.next 0) q6 = some (.bool (superOk (D.blk 1)), q6) := ld1_at t3 (by unfold superC; split <;> simp_all) rfl
  have fb0 := fb0 []
  have head : ∀ o : Out, t65 CD (.agg (S.cells (.slice a S.img.length c)).toArray) h = o → o = o := fun _ _ => rfl
  have uf : (bOf undef == some false) = false := rfl
  cases k1 : superOk (D.blk 1) with
  | false =>
    rw [k1] at fb1 hact
    rw [if_neg (by simp)] at hact
    cases k0 : superOk (D.blk 0) with
    | false =>
      rw [k0] at fb0 hact
      rw [if_neg (by decide)] at hact
      simp only [Prod.mk.injEq] at hact
      obtain ⟨q7, u1, u2, u3⟩ := fin [.bool false, .int .u64 0, .int .i64 0] rfl rfl rfl
      refine ⟨false, q7, CD_body is65 rfl ((t65_eq _ _ _).trans ?_), u3⟩
      rw [hact.1, hact.2.1, hact.2.2]
      have hz : bldR [(.bool false), (.int .u64 0), (.int .i64 0)] [] = some (.agg [.bool false, .int .u64 0, .int .i64 0].toArray) := rfl
      unfold t65
      simp -implicitDefEqProofs only [b1, thenV_some, hn1, ld0, e1, ld1', e2, hn2, hn3, s1, t1, hck, Bool.and_true, addP_ptr, Nat.zero_add, pu_some, fb1, bOf_bool, fs, guardK_false, uf, Bool.false_eq_true, if_false, fb0, hz, u1]
      exact res_tc (rs := Try.f65.results.toList) (n := 29) results65 (by decide) (by decide) ld118 _ u2
    | true =>
      rw [k0] at fb0 hact
      rw [if_pos rfl] at hact
      simp only [Prod.mk.injEq] at hact
      have hC : superC (D.blk 0) = [.bool true, .int .u64 ((superGen (D.blk 0) : Nat) : Int), i64n (superArea (D.blk 0))] := by unfold superC; rw [k0, if_pos rfl]
      have ld4 := ldN_whole g46 (superC_len _) (superC_hole _)
      obtain ⟨q7, u1, u2, u3⟩ := fin (superC (D.blk 0)) (superC_len _) (superC_one _) (superC_hole _)
      refine ⟨true, q7, CD_body is65 rfl ((t65_eq _ _ _).trans ?_), u3⟩
      rw [hact.1, hact.2.1, hact.2.2]
      unfold t65
      simp -implicitDefEqProofs only [b1, thenV_some, hn1, ld0, e1, ld1', e2, hn2, hn3, s1, t1, hck, Bool.and_true, addP_ptr, Nat.zero_add, pu_some, fb1, bOf_bool, fs, guardK_false, uf, Bool.false_eq_true, if_false, fb0, ld4, u1]
      rw [hC] at u2
      exact res_tc (rs := Try.f65.results.toList) (n := 29) results65 (by decide) (by decide) ld118 _ u2
  | true =>
    rw [k1] at fb1 hact
    have hC1 : superC (D.blk 1) = [.bool true, .int .u64 ((superGen (D.blk 1) : Nat) : Int), i64n (superArea (D.blk 1))] := by unfold superC; rw [k1, if_pos rfl]
    have ld5 := ldN_whole t3 (superC_len _) (superC_hole _)
    cases k0 : superOk (D.blk 0) with
    | false =>
      rw [k0] at fb0 hact
      rw [if_pos ⟨rfl, .inl rfl⟩] at hact
      simp only [Prod.mk.injEq] at hact
      obtain ⟨q7, u1, u2, u3⟩ := fin (superC (D.blk 1)) (superC_len _) (superC_one _) (superC_hole _)
      refine ⟨true, q7, CD_body is65 rfl ((t65_eq _ _ _).trans ?_), u3⟩
      rw [hact.1, hact.2.1, hact.2.2]
      unfold t65
      simp -implicitDefEqProofs only [b1, thenV_some, hn1, ld0, e1, ld1', e2, hn2, hn3, s1, t1, hck, Bool.and_true, addP_ptr, Nat.zero_add, pu_some, fb1, bOf_bool, beq_self_eq_true, guardK_true, fb0, unA_not, Bool.not_false, sf, guardK_false, if_true, ld5, u1]
      rw [hC1] at u2
      exact res_tc (rs := Try.f65.results.toList) (n := 29) results65 (by decide) (by decide) ld118 _ u2
    | true =>
      rw [k0] at fb0 hact
      have hC0 : superC (D.blk 0) = [.bool true, .int .u64 ((superGen (D.blk 0) : Nat) : Int), i64n (superArea (D.blk 0))] := by unfold superC; rw [k0, if_pos rfl]
      have l51 : ld1 (ptr q3.next 1) q6 = some (.int .u64 ((superGen (D.blk 1) : Nat) : Int), q6) := ld1_at t3 (by rw [hC1]; rfl) rfl
      have l41 : ld1 (ptr q2.next 1) q6 = some (.int .u64 ((superGen (D.blk 0) : Nat) : Int), q6) := ld1_at g46 (by rw [hC0]; rfl) rfl
      have hgt : bin Try.prog .gtr 58 (.int .u64 ((superGen (D.blk 1) : Nat) : Int)) (.int .u64 ((superGen (D.blk 0) : Nat) : Int)) = some (.bool (decide (superGen (D.blk 0) < superGen (D.blk 1)))) := by
        rw [bin_gtr]
        exact congrArg (fun q => some (Value.bool q)) (decide_eq_decide.2 (by omega))
      by_cases hg : superGen (D.blk 0) < superGen (D.blk 1)
      · rw [if_pos ⟨rfl, .inr hg⟩] at hact
        simp only [Prod.mk.injEq] at hact
        obtain ⟨q7, u1, u2, u3⟩ := fin (superC (D.blk 1)) (superC_len _) (superC_one _) (superC_hole _)
        refine ⟨true, q7, CD_body is65 rfl ((t65_eq _ _ _).trans ?_), u3⟩
        rw [hact.1, hact.2.1, hact.2.2]
        unfold t65
        simp -implicitDefEqProofs only [b1, thenV_some, hn1, ld0, e1, ld1', e2, hn2, hn3, s1, t1, hck, Bool.and_true, addP_ptr, Nat.zero_add, pu_some, fb1, bOf_bool, beq_self_eq_true, guardK_true, fb0, unA_not, Bool.not_true, Bool.false_eq_true, if_false, if_true, l51, l41, hgt, decide_eq_true hg, ld5, u1]
        rw [hC1] at u2
        exact res_tc (rs := Try.f65.results.toList) (n := 29) results65 (by decide) (by decide) ld118 _ u2
      · rw [if_neg (by rintro ⟨_, h | h⟩; cases h; exact hg h), if_pos rfl] at hact
        simp only [Prod.mk.injEq] at hact
        have ld4 := ldN_whole g46 (superC_len _) (superC_hole _)
        obtain ⟨q7, u1, u2, u3⟩ := fin (superC (D.blk 0)) (superC_len _) (superC_one _) (superC_hole _)
        refine ⟨true, q7, CD_body is65 rfl ((t65_eq _ _ _).trans ?_), u3⟩
        rw [hact.1, hact.2.1, hact.2.2]
        unfold t65
        simp -implicitDefEqProofs only [b1, thenV_some, hn1, ld0, e1, ld1', e2, hn2, hn3, s1, t1, hck, Bool.and_true, addP_ptr, Nat.zero_add, pu_some, fb1, bOf_bool, beq_self_eq_true, guardK_true, fb0, unA_not, Bool.not_true, Bool.false_eq_true, if_false, if_true, l51, l41, hgt, decide_eq_false hg, ld4, u1]
        rw [hC0] at u2
        exact res_tc (rs := Try.f65.results.toList) (n := 29) results65 (by decide) (by decide) ld118 _ u2
end
end Go.Proofs.Ytcmfgmhadeeieaa

namespace Go.Proofs.Ytcmfgmhadeeieaa
open Go Go.Abs

theorem is97 : IsFn Try.prog 97 Try.f97 := ⟨by kernel_rfl, by kernel_rfl, by kernel_rfl, by kernel_rfl⟩
theorem results97 : Try.f97.results.toList = [.cell 6 152] := by kernel_rfl
theorem ld152 (v : Value) (h : Heap) : ld Try.prog 152 v h = ldN 5 v h := by
  unfold ld
  rw [show aggT Try.prog 152 = some true by kernel_rfl, show sizeT Try.prog 152 = some 5 by kernel_rfl]
theorem slR_base {a a' : Option Addr} {n c n' c' : Nat} {vl vh : Option Value} (s : slR 1 (.slice a n c) vl vh none = some (.slice a' n' c')) : ∀ y, a' = some y → ∃ z, a = some z ∧ z.block = y.block := by
  intro y hy
  subst hy
  cases a with
  | none =>
    simp only [slR, sliceSl] at s
    split at s <;> cases s
  | some z =>
    refine ⟨z, rfl, ?_⟩
    obtain ⟨b, off, t⟩ := z
    cases t with
    | none =>
      simp only [slR, sliceSl] at s
      split at s <;> cases s
      rfl
    | some t =>
      simp only [slR, sliceSl] at s
      split at s
      · split at s <;> cases s
        rfl
      · cases s
def zero5 : Blk := [(.bool false), (.int .u64 0), (.int .i64 0), (.int .i64 0), (.slice none 0 0)]
/-- A log block, as the reference has it. -/
def logL (at_ : Nat) (b : List Nat) (s : Value) : Blk := if logOk at_ b = true then [.bool true, .int .u64 ((logGen b : Nat) : Int), i64n (logPart b), i64n (logParts b), s] else zero5
theorem logL_len (at_ : Nat) (b : List Nat) (s : Value) : (logL at_ b s).length = 5 := by unfold logL; split <;> rfl
theorem logL_one (at_ : Nat) (b : List Nat) (a : Option Addr) (n c : Nat) : oneCells (logL at_ b (.slice a n c)) = true := by unfold logL; split <;> rfl
theorem logL_hole (at_ : Nat) (b : List Nat) (a : Option Addr) (n c : Nat) : Abs.noHoles (logL at_ b (.slice a n c)) = true := by unfold logL; split <;> rfl
theorem zero5_plain : ∀ v ∈ zero5, nat8 v = none := by
  unfold zero5
  intro v hv
  simp only [List.mem_cons, List.not_mem_nil, or_false] at hv
  rcases hv with rfl | rfl | rfl | rfl | rfl <;> rfl

section
variable {h : Heap} {F : Nat → Prop} {v : Value} {S : Rf} (x : IsRf h F v S) {D : Dk} (hi : S.img = D.img) (hl : D.img.length = 128 * D.n) (h4 : 4 ≤ D.n) (hn : D.n ≤ 4096)
include x hi hl h4 hn
set_option maxRecDepth 100000 in
/-- ReadLog. -/
theorem r97 {area at_ : Nat} (ha : area ≤ 1) (hat : at_ < D.ar) : ∃ a n c h', CD 97 [v, i64n area, i64n at_] h = some (.agg (logL at_ (D.jb area at_) (.slice a n c)).toArray, h') ∧ Old h h' ∧ sliceBytes a n h' = some (if logOk at_ (D.jb area at_) = true then logData (D.jb area at_) else []) ∧ goodS a n c = true ∧ (∀ y, a = some y → h.next ≤ y.block) := by
  have x' := x
  obtain ⟨a, c, g, rfl, b1, b2, b3, b4, _⟩ := rf_begin x
  have hn0 := h.n0_le_next
  have har : D.ar = (D.n - 2) / 2 := rfl
  have hm : area * D.ar ≤ D.ar := by
    have := Nat.mul_le_mul_right D.ar ha
    omega
  have hin : 2 + area * D.ar + at_ < D.n := by
    rcases Nat.le_one_iff_eq_zero_or_eq_one.1 ha with rfl | rfl <;> omega
  have hnew : ∀ q : Heap, newC [(.bool false), (.int .u64 0), (.int .i64 0), (.int .i64 0), (.slice none 0 0)] q = some (ptr q.next 0, q.alloc zero5) := fun _ => rfl
  have getz : ∀ q : Heap, (q.alloc zero5).get q.next = some zero5 := fun q => by rw [Heap.get_alloc, if_pos rfl]
  have oz : Old g (g.alloc zero5) := Kept.alloc _ _ _
  have gz := getz g
  have b2z := Old.get oz b2
  have hnw := hnew g
  have nz : (g.alloc zero5).next = g.next + 1 := Heap.next_alloc ..
  generalize g.alloc zero5 = q0 at *
  have o0 := b3.trans oz
  obtain ⟨q1, e46, o1⟩ := r46 (x'.old o0) hi hl h4 hn
  have hmul : bin Try.prog .mul 3 (i64n area) (i64n D.ar) = some (i64n (area * D.ar)) := mul3 (by omega)
  have hadd1 : bin Try.prog .add 3 (.int .i64 2) (i64n (area * D.ar)) = some (i64n (2 + area * D.ar)) := add3 (a := 2) (by omega)
  have hadd2 : bin Try.prog .add 3 (i64n (2 + area * D.ar)) (i64n at_) = some (i64n (2 + area * D.ar + at_)) := add3 (by omega)
  have b2y := Old.get o1 b2z
  obtain ⟨ab, cb, q2, e104, sb, gb, fb, o2, hbl⟩ := rblk (x'.old (o0.trans o1)) hi hl h4 hn hin
  have hjb : D.blk (2 + area * D.ar + at_) = D.jb area at_ := rfl
  rw [hjb] at sb hbl
  have e46 : CD 46 [.agg (S.cells (.slice a S.img.length c)).toArray] q0 = some (i64n D.ar, q1) := e46
  have e104 : CD 104 [.agg (S.cells (.slice a S.img.length c)).toArray, i64n (2 + area * D.ar + at_)] q1 = some (.slice ab 128 cb, q2) := e104
  have ld0 := rf_ld b2z rfl (cells_hole _ _ _ _)
  have ldy := rf_ld b2y rfl (cells_hole _ _ _ _)
  have hck : chkR true (some (Value.agg (S.cells (.slice a S.img.length c)).toArray, q1)) (.agg (S.cells (.slice a S.img.length c)).toArray) = true := chk_at rfl (by simp [veq, veqL, Rf.cells])
  have hbyte := (sliceBytes_spec sb).2.1
  have hle := goodS_le gb
  have gz2 := Old.get (o1.trans o2) gz
  have o02 := (o0.trans o1).trans o2
  generalize D.jb area at_ = b at *
  have sl : ∀ lo hi : Nat, lo ≤ hi → hi ≤ 128 → ∃ a' c', slR 1 (.slice ab 128 cb) (some (.int .i64 (lo : Int))) (some (.int .i64 (hi : Int))) none = some (.slice a' (hi - lo) c') ∧ (∀ q, sliceBytes ab 128 q = some b → sliceBytes a' (hi - lo) q = some ((b.drop lo).take (hi - lo))) ∧ goodS a' (hi - lo) c' = true := by
    intro lo hi h1 h2
    have bl : boundA 0 hi (some (.int .i64 (lo : Int))) = some lo := by
      unfold boundA; simp only; rw [if_pos (by omega)]; simp
    have bh : boundA 128 cb (some (.int .i64 (hi : Int))) = some hi := by
      unfold boundA; simp only; rw [if_pos (by omega)]; simp
    obtain ⟨a', c', s, t, u⟩ := slR_bytes gb sb h1 h2 bh bl
    refine ⟨a', c', s, fun q hq => ?_, u⟩
    obtain ⟨a2, c2, s2, t2, _⟩ := slR_bytes gb hq h1 h2 bh bl
    rw [s] at s2
    cases s2
    exact t2
  obtain ⟨a1, c1, s1, t1, _⟩ := sl 4 12 (by omega) (by omega)
  obtain ⟨a2, c2, s2, t2, _⟩ := sl 16 18 (by omega) (by omega)
  obtain ⟨a3, c3, s3, t3, _⟩ := sl 18 20 (by omega) (by omega)
  obtain ⟨a4, c4, s4, t4, _⟩ := sl 20 22 (by omega) (by omega)
  obtain ⟨a5, c5, s5, t5, _⟩ := sl 12 16 (by omega) (by omega)
  have s1 : slR 1 (.slice ab 128 cb) (some (.int .i64 4)) (some (.int .i64 12)) none = some (.slice a1 (12 - 4) c1) := s1
  have s2 : slR 1 (.slice ab 128 cb) (some (.int .i64 16)) (some (.int .i64 18)) none = some (.slice a2 (18 - 16) c2) := s2
  have s3 : slR 1 (.slice ab 128 cb) (some (.int .i64 18)) (some (.int .i64 20)) none = some (.slice a3 (20 - 18) c3) := s3
  have s4 : slR 1 (.slice ab 128 cb) (some (.int .i64 20)) (some (.int .i64 22)) none = some (.slice a4 (22 - 20) c4) := s4
  have s5 : slR 1 (.slice ab 128 cb) (some (.int .i64 12)) (some (.int .i64 16)) none = some (.slice a5 (16 - 12) c5) := s5
  have e1 : CD 102 [.slice a1 (12 - 4) c1] q2 = some (.int .u64 ((logGen b : Nat) : Int), q2) := r102 (t1 _ sb) (by omega)
  have e2 : CD 102 [.slice a2 (18 - 16) c2] q2 = some (.int .u64 ((logPart b : Nat) : Int), q2) := r102 (t2 _ sb) (by omega)
  have e3 : CD 102 [.slice a3 (20 - 18) c3] q2 = some (.int .u64 ((logParts b : Nat) : Int), q2) := r102 (t3 _ sb) (by omega)
  have b16 : logPart b < 65536 := be_lt 2 ((b.drop 16).take 2) (by simp; omega) fun y hy => hbyte y (List.mem_of_mem_drop (List.mem_of_mem_take hy))
  have b18 : logParts b < 65536 := be_lt 2 ((b.drop 18).take 2) (by simp; omega) fun y hy => hbyte y (List.mem_of_mem_drop (List.mem_of_mem_take hy))
  have b20 : logSize b < 65536 := be_lt 2 ((b.drop 20).take 2) (by simp; omega) fun y hy => hbyte y (List.mem_of_mem_drop (List.mem_of_mem_take hy))
  have cv : ∀ (n : Nat) (q : Heap), n < 65536 → cvI .i64 (.int .u64 (n : Int)) q = some (i64n n, q) := fun n q hq => by rw [cvI_int, wrap_i64 (by omega) (by omega)]
  have hcku : ∀ (n : Nat) (q : Heap), chkR true (some (i64n n, q)) (i64n n) = true := fun n q => chk_at rfl (by simp [i64n, veq])
  have hbld : bldR [(.bool false), (.int .u64 0), (.int .i64 0), (.int .i64 0), (.slice none 0 0)] [(0, 1, (.bool true)), (1, 1, .int .u64 ((logGen b : Nat) : Int)), (2, 1, i64n (logPart b)), (3, 1, i64n (logParts b)), (4, 1, (.slice none 0 0))] = some (.agg [.bool true, .int .u64 ((logGen b : Nat) : Int), i64n (logPart b), i64n (logParts b), .slice none 0 0].toArray) := rfl
  have hn2 := hnew q2
  have o3 : Old q2 (q2.alloc zero5) := Kept.alloc _ _ _
  have g8 := getz q2
  have n3 : (q2.alloc zero5).next = q2.next + 1 := Heap.next_alloc ..
  have sb3 := Old.bytes o3 sb
  have gz3 := Old.get o3 gz2
  have o03 := o02.trans o3
  generalize q2.alloc zero5 = q3 at *
  have hnx : g.next < q2.next := by have := o1.next; have := o2.next; omega
  have n0' : q3.n0 ≤ h.next := by rw [o03.n0]; exact hn0
  have hqg : h.next + 1 = g.next := b4.symm
  obtain ⟨u1, u2, u3, u4⟩ := sm_st (n := 5) (k' := [.bool true, .int .u64 ((logGen b : Nat) : Int), i64n (logPart b), i64n (logParts b), .slice none 0 0]) g8 (by omega) rfl rfl rfl rfl
  have sb4 := u4.bytesP (fun y hy => by subst hy; exact ⟨_, g8, zero5_plain⟩) sb3
  have gz4 := u4.getE gz3 (by omega)
  have o04 : Old h _ := o03.also u4 (fun y hy e => by omega)
  generalize q3.set q2.next [.bool true, .int .u64 ((logGen b : Nat) : Int), i64n (logPart b), i64n (logParts b), .slice none 0 0] = q4 at *
  have n04 : q4.n0 ≤ h.next := by rw [o04.n0]; exact hn0
  have e4 : CD 102 [.slice a4 (22 - 20) c4] q4 = some (.int .u64 ((logSize b : Nat) : Int), q4) := r102 (t4 _ sb4) (by omega)
  have e5 : CD 102 [.slice a5 (16 - 12) c5] q4 = some (.int .u64 ((logPlace b : Nat) : Int), q4) := r102 (t5 _ sb4) (by omega)
  have e72 : CD 72 [.slice ab 128 cb] q4 = some (.bool (right b), q4) := r72 sb4 gb rfl
  have cvu : cvI .u64 (i64n at_) q4 = some (.int .u64 (at_ : Int), q4) := by rw [i64n, cvI_int, wrap_u64 (by omega) (by omega)]
  have l3 : ld1 (ptr q2.next 3) q4 = some (i64n (logParts b), q4) := ld1_at u3 rfl
  have l2 : ld1 (ptr q2.next 2) q4 = some (i64n (logPart b), q4) := ld1_at u3 rfl
  have hlss : bin Try.prog .lss 3 (i64n (logParts b)) (.int .i64 1) = some (.bool (decide (logParts b < 1))) := lss3 _ 1
  have hgtr : bin Try.prog .gtr 3 (i64n (logSize b)) (.int .i64 106) = some (.bool (decide (106 < logSize b))) := gtr3 _ 106
  have hz : bldR [(.bool false), (.int .u64 0), (.int .i64 0), (.int .i64 0), (.slice none 0 0)] [] = some (.agg zero5.toArray) := rfl
  have key : (logOk at_ b = false → ∃ h', t97 CD (.agg (S.cells (.slice a S.img.length c)).toArray) (i64n area) (i64n at_) h = some (.agg zero5.toArray, h') ∧ Old h h') ∧
      (logOk at_ b = true → ∃ a' n' c' h', t97 CD (.agg (S.cells (.slice a S.img.length c)).toArray) (i64n area) (i64n at_) h = some (.agg [.bool true, .int .u64 ((logGen b : Nat) : Int), i64n (logPart b), i64n (logParts b), .slice a' n' c'].toArray, h') ∧ Old h h' ∧ sliceBytes a' n' h' = some (logData b) ∧ goodS a' n' c' = true ∧ (∀ y, a' = some y → h.next ≤ y.block)) := by
    obtain ⟨p1, p2, p3, p4⟩ := sm_st (n := 5) (k' := zero5) gz4 (by omega) rfl rfl rfl rfl
    have oz4 : Old h _ := o04.also p4 (fun y hy e => by omega)
    generalize q4.set g.next zero5 = qz at *
    have fin : ∀ (y : Nat → Value), y 6 = ptr g.next 0 → resultsA Try.prog Try.f97.results.toList (mkF 69 y) qz = some (.agg zero5.toArray, qz) := fun y hy => res_c results97 (by decide) ld152 y (by rw [hy]; exact p2)
    have ndt : logSize b ≤ 106 → ∃ a6 c6, slR 1 (.slice ab 128 cb) (some (.int .i64 22)) (some (i64n (22 + logSize b))) none = some (.slice a6 (22 + logSize b - 22) c6) ∧ (∀ q, sliceBytes ab 128 q = some b → sliceBytes a6 (22 + logSize b - 22) q = some (logData b)) ∧ goodS a6 (22 + logSize b - 22) c6 = true ∧ (∀ y, a6 = some y → h.next ≤ y.block) := by
      intro h6
      obtain ⟨a', c', s, t, u⟩ := sl 22 (22 + logSize b) (by omega) (by omega)
      refine ⟨a', c', s, fun q hq => ?_, u, ?_⟩
      · have := t q hq
        rw [Nat.add_sub_cancel_left] at this ⊢
        rw [this]
        unfold logData
        rw [if_pos h6]
      · intro y hy
        obtain ⟨z, hz, hb⟩ := slR_base s y hy
        have hz := fb z hz
        have := o0.next; have := o1.next
        omega
    unfold t97
    simp -implicitDefEqProofs only [b1, thenV_some, hnw, ld0, e46, hmul, hadd1, hadd2, e104, hck, Bool.and_true, ldy, s1, s2, s3, s4, pu_some, e1, e2, e3, cv _ _ b16, cv _ _ b18, cv _ _ b20, hbld, hn2, u1, hcku, e4, e72, unA_not, bOf_bool]
    unfold logOk
    cases k1 : right b with
    | false =>
      simp -implicitDefEqProofs only [Bool.not_false, sf, guardK_false, thenV_some, if_true, bOf_bool, hz, p1, pu_some, Bool.false_and]
      exact ⟨fun _ => ⟨qz, fin _ rfl, oz4⟩, fun h => (by cases h)⟩
    | true =>
      simp -implicitDefEqProofs only [Bool.not_true, beq_self_eq_true, guardK_true, thenV_some, s5, pu_some, e5, cvu, bin58n, Bool.false_eq_true, if_false, bOf_bool, Bool.true_and]
      cases k2 : (logPlace b == at_) with
      | false =>
        simp -implicitDefEqProofs only [Bool.not_false, sf, guardK_false, thenV_some, if_true, bOf_bool, hz, p1, pu_some, Bool.false_and]
        exact ⟨fun _ => ⟨qz, fin _ rfl, oz4⟩, fun h => (by cases h)⟩
      | true =>
        simp -implicitDefEqProofs only [Bool.not_true, beq_self_eq_true, guardK_true, thenV_some, addP_ptr, Nat.zero_add, l3, hlss, pu_some, Bool.false_eq_true, if_false, bOf_bool, Bool.true_and]
        by_cases k3 : logParts b < 1
        · simp -implicitDefEqProofs only [decide_eq_true k3, decide_eq_false (show ¬ 1 ≤ logParts b by omega), sf, guardK_false, thenV_some, if_true, bOf_bool, hz, p1, pu_some, Bool.false_and]
          exact ⟨fun _ => ⟨qz, fin _ rfl, oz4⟩, fun h => (by cases h)⟩
        · simp -implicitDefEqProofs only [decide_eq_false k3, decide_eq_true (show 1 ≤ logParts b by omega), beq_self_eq_true, guardK_true, thenV_some, addP_ptr, Nat.zero_add, l2, l3, geq3, pu_some, Bool.false_eq_true, if_false, bOf_bool, Bool.true_and]
          by_cases k4 : logParts b ≤ logPart b
          · simp -implicitDefEqProofs only [decide_eq_true k4, decide_eq_false (show ¬ logPart b < logParts b by omega), sf, guardK_false, thenV_some, if_true, bOf_bool, hz, p1, pu_some, Bool.false_and]
            exact ⟨fun _ => ⟨qz, fin _ rfl, oz4⟩, fun h => (by cases h)⟩
          · simp -implicitDefEqProofs only [decide_eq_false k4, decide_eq_true (show logPart b < logParts b by omega), beq_self_eq_true, guardK_true, thenV_some, hgtr, pu_some, Bool.false_eq_true, if_false, bOf_bool, Bool.true_and]
            by_cases k5 : 106 < logSize b
            · simp -implicitDefEqProofs only [decide_eq_true k5, decide_eq_false (show ¬ logSize b ≤ 106 by omega), thenV_some, hz, p1, pu_some]
              exact ⟨fun _ => ⟨qz, fin _ rfl, oz4⟩, fun h => (by cases h)⟩
            · obtain ⟨a6, c6, s6, t6, g6, f6⟩ := ndt (by omega)
              have w1 : stN 1 (ptr q2.next 4) (.slice a6 (22 + logSize b - 22) c6) q4 = some (undef, q4.set q2.next [.bool true, .int .u64 ((logGen b : Nat) : Int), i64n (logPart b), i64n (logParts b), .slice a6 (22 + logSize b - 22) c6]) := stN1_at u3 (by simp) (by omega) rfl rfl
              obtain ⟨w2, w3⟩ := setPlain (k' := [.bool true, .int .u64 ((logGen b : Nat) : Int), i64n (logPart b), i64n (logParts b), .slice a6 (22 + logSize b - 22) c6]) u3 (by omega)
              have w4 := w2.getE gz4 (by omega)
              have pl8 : ∀ y, y = q2.next → Plain q4 y := fun y hy => by
                subst hy
                refine ⟨_, u3, ?_⟩
                intro v hv
                simp only [List.mem_cons, List.not_mem_nil, or_false] at hv
                rcases hv with rfl | rfl | rfl | rfl | rfl <;> rfl
              have sb5 := w2.bytesP pl8 sb4
              have o05 : Old h _ := o04.also w2 (fun y hy e => by omega)
              generalize q4.set q2.next [.bool true, .int .u64 ((logGen b : Nat) : Int), i64n (logPart b), i64n (logParts b), .slice a6 (22 + logSize b - 22) c6] = q5 at *
              have w5 := ldN_whole (n := 5) w3 rfl rfl
              obtain ⟨v1, v2, v3, v4⟩ := sm_st (n := 5) (k' := [.bool true, .int .u64 ((logGen b : Nat) : Int), i64n (logPart b), i64n (logParts b), .slice a6 (22 + logSize b - 22) c6]) w4 (by rw [o05.n0]; omega) rfl rfl rfl rfl
              have sb6 := v4.bytesP (fun y hy => by subst hy; exact ⟨_, w4, zero5_plain⟩) sb5
              have hadd : bin Try.prog .add 3 (.int .i64 22) (i64n (logSize b)) = some (i64n (22 + logSize b)) := add3 (a := 22) (by omega)
              simp -implicitDefEqProofs only [decide_eq_false k5, decide_eq_true (show logSize b ≤ 106 by omega), thenV_some, hadd, s6, pu_some, addP_ptr, Nat.zero_add, w1, w5, v1]
              exact ⟨fun h => (by cases h), fun _ => ⟨a6, _, c6, _, res_c (rs := Try.f97.results.toList) (n := 69) results97 (by decide) ld152 _ v2, o05.also v4 (fun y hy e => by omega), t6 _ sb6, g6, f6⟩⟩
  have e97 : ∀ r, t97 CD (.agg (S.cells (.slice a S.img.length c)).toArray) (i64n area) (i64n at_) h = some r → CD 97 [.agg (S.cells (.slice a S.img.length c)).toArray, i64n area, i64n at_] h = some r := fun o ho => CD_body is97 rfl ((t97_eq _ _ _ _ _).trans ho)
  cases hok : logOk at_ b with
  | false =>
    obtain ⟨h', k1, k2⟩ := key.1 hok
    refine ⟨none, 0, 0, h', (e97 _ k1).trans ?_, k2, rfl, rfl, fun y hy => (by cases hy)⟩
    unfold logL
    rw [hok]; rfl
  | true =>
    obtain ⟨a', n', c', h', k1, k2, k3, k4, k5⟩ := key.2 hok
    refine ⟨a', n', c', h', (e97 _ k1).trans ?_, k2, by rw [if_pos rfl]; exact k3, k4, k5⟩
    unfold logL
    rw [hok]; rfl
end
end Go.Proofs.Ytcmfgmhadeeieaa

namespace Go.Proofs.Ytcmfgmhadeeieaa
open Go Go.Abs

theorem is76 : IsFn Try.prog 76 Try.f76 := ⟨by kernel_rfl, by kernel_rfl, by kernel_rfl, by kernel_rfl⟩
theorem results76 : Try.f76.results.toList = [.tmp 8, .tmp 9, .tmp 10] := by kernel_rfl
theorem b76_exit (C : CallF) (e : Env) (h : Heap) : b76_12 C 0 e h = k76_10 C e h := rfl
theorem new5 (q : Heap) : newC [(.bool false), (.int .u64 0), (.int .i64 0), (.int .i64 0), (.slice none 0 0)] q = some (ptr q.next 0, q.alloc zero5) := rfl

section
variable {D : Dk} (hl : D.img.length = 128 * D.n) (h4 : 4 ≤ D.n) (hn : D.n ≤ 4096)
include hl h4 hn
/-- ReadLog, and its struct stored. -/
theorem r97c {h : Heap} {F : Nat → Prop} {v : Value} {S : Rf} (x : IsRf h F v S) (hi : S.img = D.img) {area at_ : Nat} (ha : area ≤ 1) (hat : at_ < D.ar) : ∃ a n c h1 h2,
    CD 97 [v, i64n area, i64n at_] h = some (.agg (logL at_ (D.jb area at_) (.slice a n c)).toArray, h1) ∧
    stN 5 (ptr h1.next 0) (.agg (logL at_ (D.jb area at_) (.slice a n c)).toArray) (h1.alloc zero5) = some (undef, h2) ∧
    h2.get h1.next = some (logL at_ (D.jb area at_) (.slice a n c)) ∧ Old h h2 ∧ h.next ≤ h1.next ∧ h1.next < h2.next ∧
    sliceBytes a n h2 = some (if logOk at_ (D.jb area at_) = true then logData (D.jb area at_) else []) ∧ (∀ y, a = some y → h.next ≤ y.block) := by
  obtain ⟨a, n, c, h1, e, o, sb, g, f⟩ := r97 x hi hl h4 hn ha hat
  have oA : Old h1 (h1.alloc zero5) := Kept.alloc _ _ _
  have gA : (h1.alloc zero5).get h1.next = some zero5 := by rw [Heap.get_alloc, if_pos rfl]
  have n0 : (h1.alloc zero5).n0 ≤ h1.next := h1.n0_le_next
  obtain ⟨u1, _, u3, u4⟩ := sm_st (n := 5) gA n0 rfl (logL_len at_ (D.jb area at_) (.slice a n c)) (logL_one at_ _ a n c) (logL_hole at_ _ a n c)
  have hnx := o.next
  refine ⟨a, n, c, h1, _, e, u1, u3, (o.trans oA).also u4 (fun y hy e => by omega), hnx, ?_, ?_, f⟩
  · have := u4.next
    rw [Heap.next_alloc] at this
    omega
  · exact u4.bytesP (fun y hy => by subst hy; exact ⟨_, gA, zero5_plain⟩) (Old.bytes oA sb)
omit hl h4 hn in
theorem logL_lds {g : Heap} {f at_ : Nat} {b : List Nat} {s : Value} (e : g.get f = some (logL at_ b s)) : ld1 (ptr f 0) g = some (.bool (logOk at_ b), g) ∧
    (logOk at_ b = true → ld1 (ptr f 1) g = some (.int .u64 ((logGen b : Nat) : Int), g) ∧ ld1 (ptr f 2) g = some (i64n (logPart b), g) ∧ ld1 (ptr f 3) g = some (i64n (logParts b), g) ∧ (∀ a n c, s = .slice a n c → ld1 (ptr f 4) g = some (s, g))) := by
  unfold logL at e
  cases hk : logOk at_ b with
  | false =>
    rw [hk, if_neg (by decide)] at e
    exact ⟨ld1_at e rfl, fun h => (by cases h)⟩
  | true =>
    rw [hk, if_pos rfl] at e
    exact ⟨ld1_at e rfl, fun _ => ⟨ld1_at e rfl, ld1_at e rfl, ld1_at e rfl, fun a n c hs => (by subst hs; exact ld1_at e rfl)⟩⟩

omit hl h4 hn in
def Box6 (g : Heap) (b : Nat) (v : Value) : Prop := ∃ k, g.get b = some k ∧ v = .agg k.toArray ∧ k.length = 6 ∧ Abs.noHoles k = true
omit hl h4 hn in
theorem Box6.ld {g : Heap} {b : Nat} {v : Value} (x : Box6 g b v) : ldN 6 (ptr b 0) g = some (v, g) := by
  obtain ⟨k, e, rfl, e2, e3⟩ := x
  exact ldN_whole e e2 e3
omit hl h4 hn in
theorem Box6.keep {g g' : Heap} {b : Nat} {v : Value} (x : Box6 g b v) {B : Nat → Prop} (k : Kept g g' B) (hb : ¬ B b) : Box6 g' b v := by
  obtain ⟨q, e, e1⟩ := x
  exact ⟨q, k.getE e hb, e1⟩
omit hl h4 hn in
theorem Box6.lt {g : Heap} {b : Nat} {v : Value} (x : Box6 g b v) : b < g.next := by
  obtain ⟨q, e, _⟩ := x
  exact g.lt_of_get e
def Fld (g : Heap) (f i : Nat) (w : Value) : Prop := ∃ k, g.get f = some k ∧ k[i]? = some w
omit hl h4 hn in
theorem Fld.ld {g : Heap} {f i : Nat} {w : Value} (x : Fld g f i w) (hh : isHole w = false := by rfl) : ld1 (ptr f i) g = some (w, g) := by
  obtain ⟨k, e, e1⟩ := x
  exact ld1_at e e1 hh
omit hl h4 hn in
theorem Fld.keep {g g' : Heap} {f i : Nat} {w : Value} (x : Fld g f i w) {B : Nat → Prop} (k : Kept g g' B) (hb : ¬ B f) : Fld g' f i w := by
  obtain ⟨q, e, e1⟩ := x
  exact ⟨q, k.getE e hb, e1⟩
omit hl h4 hn in
theorem Fld.lt {g : Heap} {f i : Nat} {w : Value} (x : Fld g f i w) : f < g.next := by
  obtain ⟨q, e, _⟩ := x
  exact g.lt_of_get e

section
variable {h0 : Heap} {F : Nat → Prop} {v : Value} {S : Rf} (x0 : IsRf h0 F v S) (hi : S.img = D.img)
def stInv (h0 : Heap) (N bx f : Nat) (v : Value) (D : Dk) (area gen at_ P : Nat) (k : Nat) (y : Nat → Value) (g : Heap) : Prop :=
  ∃ i, y 4 = ptr bx 0 ∧ y 1 = i64n area ∧ y 2 = .int .u64 (gen : Int) ∧ y 3 = i64n at_ ∧ y 11 = ptr f 0 ∧ Box6 g bx v ∧ Fld g f 3 (i64n P) ∧ bx < N ∧ f < N ∧ N ≤ g.next ∧ g.n0 ≤ N ∧
    y 13 = i64n i ∧ i ≤ P ∧ i + k = P ∧ OwnB g N (y 12) (D.data area at_ i) ∧ Old h0 g ∧ h0.next ≤ N ∧ ∀ q, q < i → D.part area gen at_ P q = true
def stFin (h0 : Heap) (N f : Nat) (D : Dk) (area gen at_ P : Nat) (ex : Ex) (y : Nat → Value) (g : Heap) : Prop :=
  Old h0 g ∧ ((ex = .ret ∧ y 8 = .slice none 0 0 ∧ y 9 = .int .i64 0 ∧ y 10 = .bool false ∧ ∃ i, i < P ∧ D.part area gen at_ P i = false) ∨
    (ex = .exit 0 ∧ y 11 = ptr f 0 ∧ Fld g f 3 (i64n P) ∧ OwnB g N (y 12) (D.data area at_ P) ∧ ∀ q, q < P → D.part area gen at_ P q = true))
include x0 hi
theorem st_round {N bx f area gen at_ P : Nat} (ha : area ≤ 1) (hP : at_ + P ≤ D.ar) : ∀ k y g, stInv h0 N bx f v D area gen at_ P k y g → Rnd 92 (stInv h0 N bx f v D area gen at_ P) (stFin h0 N f D area gen at_ P) k (t76l76_11111010 CD y g) := by
  rintro k y g ⟨i, i4, i1, i2, i3, i11, B6, F3, hbx, hf, hN, hn0, i13, hiP, hk, own, hold, h0N, hall⟩
  have har : D.ar = (D.n - 2) / 2 := rfl
  unfold t76l76_11111010
  simp -implicitDefEqProofs only [i13, i11, addP_ptr, Nat.zero_add, F3.ld, lss3, thenV_some, pu_some]
  by_cases hlt : i < P
  · obtain ⟨a, n, c, q1, q2, e97, est, gq, o2, n1, n2, sb, fb⟩ := r97c hl h4 hn (x0.old hold) hi ha (show at_ + i < D.ar by omega)
    have F32 := F3.keep o2 (fun h => h)
    have B62 := B6.keep o2 (fun h => h)
    have own2 := own.keep o2 (fun _ _ h => h)
    have hold2 : Old h0 q2 := hold.trans o2
    obtain ⟨l0, lrest⟩ := logL_lds gq
    have hq2 := o2.next
    simp -implicitDefEqProofs only [decide_eq_true hlt, i4, B6.ld, thenV_some, i1, i3, add3 (show at_ + i ≤ 9223372036854775807 by omega), pu_some, e97, new5, est, addP_ptr, Nat.zero_add, l0, unA_not, bOf_bool, i2]
    have hpart : D.part area gen at_ P i = (logOk (at_ + i) (D.jb area (at_ + i)) && (logGen (D.jb area (at_ + i)) == gen) && (logPart (D.jb area (at_ + i)) == i) && (logParts (D.jb area (at_ + i)) == P)) := rfl
    cases hc1 : logOk (at_ + i) (D.jb area (at_ + i)) with
    | false =>
      simp -implicitDefEqProofs only [Bool.not_false, sf, guardK_false, thenV_some, if_true, bOf_bool]
      exact Rnd.ret ⟨hold2, .inl ⟨rfl, rfl, rfl, rfl, i, hlt, by rw [hpart, hc1]; rfl⟩⟩
    | true =>
      obtain ⟨l1, l2, l3, l4⟩ := lrest hc1
      have l4 := l4 a n c rfl
      rw [hc1, if_pos rfl] at sb
      simp -implicitDefEqProofs only [Bool.not_true, beq_self_eq_true, guardK_true, thenV_some, pu_some, l1, bin58n, Bool.false_eq_true, if_false, bOf_bool]
      cases hc2 : (logGen (D.jb area (at_ + i)) == gen) with
      | false =>
        simp -implicitDefEqProofs only [Bool.not_false, sf, guardK_false, thenV_some, if_true, bOf_bool]
        exact Rnd.ret ⟨hold2, .inl ⟨rfl, rfl, rfl, rfl, i, hlt, by rw [hpart, hc1, hc2]; rfl⟩⟩
      | true =>
        simp -implicitDefEqProofs only [Bool.not_true, beq_self_eq_true, guardK_true, thenV_some, pu_some, l2, bin3n, Bool.false_eq_true, if_false, bOf_bool]
        cases hc3 : (logPart (D.jb area (at_ + i)) == i) with
        | false =>
          simp -implicitDefEqProofs only [Bool.not_false, sf, guardK_false, thenV_some, if_true, bOf_bool]
          exact Rnd.ret ⟨hold2, .inl ⟨rfl, rfl, rfl, rfl, i, hlt, by rw [hpart, hc1, hc2, hc3]; rfl⟩⟩
        | true =>
          simp -implicitDefEqProofs only [Bool.not_true, beq_self_eq_true, guardK_true, thenV_some, pu_some, addP_ptr, Nat.zero_add, l3, F32.ld, bin3n, Bool.false_eq_true, if_false, bOf_bool]
          cases hc4 : (logParts (D.jb area (at_ + i)) == P) with
          | false =>
            simp -implicitDefEqProofs only [Bool.not_false]
            exact Rnd.ret ⟨hold2, .inl ⟨rfl, rfl, rfl, rfl, i, hlt, by rw [hpart, hc1, hc2, hc3, hc4]; rfl⟩⟩
          | true =>
            have hlen := D.data_length area at_ i
            have hnn : n ≤ 106 := by
              obtain ⟨h1, _, _⟩ := sliceBytes_spec sb
              have h2 : (logData (D.jb area (at_ + i))).length ≤ 106 := by
                unfold logData
                split
                · rw [List.length_take]; omega
                · simp
              omega
            obtain ⟨v', g4, f1, f2, f3, f4⟩ := append_ownB (c := c) own2 (by rw [o2.n0]; exact hn0) (by omega) sb (by omega)
            rw [← D.data_succ] at f2
            have hbase : ∀ y0, baseOf (y 12) = some y0 → N ≤ y0 := fun y0 hy0 => own2.own.base hy0
            have hold4 : Old h0 g4 := hold2.also f3 (fun c hc hb => by have := hbase c hb; omega)
            simp -implicitDefEqProofs only [Bool.not_true, addP_ptr, Nat.zero_add, pu_some, thenV_some, l4, f1, add31 (show i + 1 ≤ 9223372036854775807 by omega)]
            refine Rnd.next (k - 1) (by omega) ⟨i + 1, i4, i1, i2, i3, i11, B62.keep f3 (fun hb => by have := hbase bx hb; omega), F32.keep f3 (fun hb => by have := hbase f hb; omega), hbx, hf, by have := f3.next; omega, by rw [f3.n0, o2.n0]; exact hn0, rfl, by omega, by omega, f2, hold4, h0N, ?_⟩
            intro q hq
            by_cases hqi : q = i
            · subst hqi
              rw [hpart, hc1, hc2, hc3, hc4]; rfl
            · exact hall q (by omega)
  · simp -implicitDefEqProofs only [decide_eq_false hlt]
    have hii : i = P := by omega
    subst hii
    exact Rnd.out 0 ⟨hold, .inr ⟨rfl, i11, F3, own, hall⟩⟩
omit hl h4 hn x0 hi in
theorem st_false (y : Nat → Value) (g : Heap) (h8 : y 8 = .slice none 0 0) (h9 : y 9 = .int .i64 0) (h10 : y 10 = .bool false) : resultsA Try.prog Try.f76.results.toList (mkF 92 y) g = some (.tuple #[.slice none 0 0, .int .i64 0, .bool false], g) := by
  have k8 : (mkF 92 y).getD 8 undef = y 8 := rfl
  have k9 : (mkF 92 y).getD 9 undef = y 9 := rfl
  have k10 : (mkF 92 y).getD 10 undef = y 10 := rfl
  rw [results76]
  simp only [resultsA, List.mapM_cons, List.mapM_nil, resultA, k8, k9, k10, h8, h9, h10]
  rfl
/-- Whether a record stands at a position. -/
def Dk.at? (D : Dk) (area gen : Nat) (at_ : Int) : Bool := decide (0 ≤ at_) && decide (at_ < (D.ar : Int)) && D.stands area gen at_.toNat
set_option maxRecDepth 100000 in
/-- Stands. -/
theorem r76 {area gen : Nat} {at_ : Int} (ha : area ≤ 1) :
    (D.at? area gen at_ = false ∧ ∃ h', CD 76 [v, i64n area, .int .u64 (gen : Int), .int .i64 at_] h0 = some (.tuple #[.slice none 0 0, .int .i64 0, .bool false], h') ∧ Old h0 h') ∨
    (D.at? area gen at_ = true ∧ ∃ w h', CD 76 [v, i64n area, .int .u64 (gen : Int), .int .i64 at_] h0 = some (.tuple #[w, i64n (D.parts area at_.toNat), .bool true], h') ∧ Old h0 h' ∧ OwnB h' h0.next w (D.data area at_.toNat (D.parts area at_.toNat))) := by
  have x' := x0
  obtain ⟨a, c, g, rfl, b1, b2, b3, b4, _⟩ := rf_begin x0
  have hn0 := h0.n0_le_next
  have har : D.ar = (D.n - 2) / 2 := rfl
  have B6 : Box6 g h0.next (.agg (S.cells (.slice a S.img.length c)).toArray) := ⟨_, b2, rfl, rfl, cells_hole _ _ _ _⟩
  obtain ⟨g1, e46, o1⟩ := r46 (x'.old b3) hi hl h4 hn
  have e46 : CD 46 [.agg (S.cells (.slice a S.img.length c)).toArray] g = some (i64n D.ar, g1) := e46
  have B61 := B6.keep o1 (fun h => h)
  have hlss : bin Try.prog .lss 3 (.int .i64 at_) (.int .i64 0) = some (.bool (decide (at_ < 0))) := bin_lss ..
  have hgeq : bin Try.prog .geq 3 (.int .i64 at_) (i64n D.ar) = some (.bool (decide (at_ ≥ (D.ar : Int)))) := bin_geq ..
  have up76 : ∀ r, t76 CD (.agg (S.cells (.slice a S.img.length c)).toArray) (i64n area) (.int .u64 (gen : Int)) (.int .i64 at_) h0 = some r → CD 76 [.agg (S.cells (.slice a S.img.length c)).toArray, i64n area, .int .u64 (gen : Int), .int .i64 at_] h0 = some r := fun r hr => CD_body is76 rfl ((t76_eq _ _ _ _ _ _).trans hr)
  have no : ∀ {P : Prop}, D.at? area gen at_ = false → (∃ h', t76 CD (.agg (S.cells (.slice a S.img.length c)).toArray) (i64n area) (.int .u64 (gen : Int)) (.int .i64 at_) h0 = some (.tuple #[.slice none 0 0, .int .i64 0, .bool false], h') ∧ Old h0 h') → (D.at? area gen at_ = false ∧ ∃ h', CD 76 [.agg (S.cells (.slice a S.img.length c)).toArray, i64n area, .int .u64 (gen : Int), .int .i64 at_] h0 = some (.tuple #[.slice none 0 0, .int .i64 0, .bool false], h') ∧ Old h0 h') ∨ P := by
    rintro P hf ⟨h', e, o⟩
    exact .inl ⟨hf, h', up76 _ e, o⟩
  by_cases c1 : at_ < 0
  · refine no (by unfold Dk.at?; rw [decide_eq_false (by omega)]; rfl) ⟨g, ?_, b3⟩
    unfold t76
    simp -implicitDefEqProofs only [b1, thenV_some, hlss, pu_some, decide_eq_true c1, bOf_bool, sf, guardK_false, if_true]
  by_cases c2 : at_ ≥ (D.ar : Int)
  · refine no (by unfold Dk.at?; rw [decide_eq_false (show ¬ at_ < (D.ar : Int) by omega), Bool.and_false]; rfl) ⟨g1, ?_, b3.trans o1⟩
    unfold t76
    simp -implicitDefEqProofs only [b1, thenV_some, hlss, pu_some, decide_eq_false c1, bOf_bool, beq_self_eq_true, guardK_true, B6.ld, e46, hgeq, decide_eq_true c2, Bool.false_eq_true, if_false]
  obtain ⟨m, rfl⟩ : ∃ m : Nat, at_ = m := ⟨at_.toNat, by omega⟩
  have hm : m < D.ar := by omega
  rw [Int.toNat_natCast]
  have hat : D.at? area gen (m : Int) = D.stands area gen m := by
    unfold Dk.at?
    rw [decide_eq_true (show (0 : Int) ≤ (m : Int) by omega), decide_eq_true (show (m : Int) < (D.ar : Int) by omega), Int.toNat_natCast]; rfl
  rw [hat] at no ⊢
  obtain ⟨aa, n, cc, q1, q2, e97, est, gq, o2, n1, n2, sb, fb⟩ := r97c hl h4 hn ((x'.old b3).old o1) hi ha hm
  have e97 : CD 97 [.agg (S.cells (.slice a S.img.length c)).toArray, i64n area, .int .i64 (m : Int)] g1 = some (.agg (logL m (D.jb area m) (.slice aa n cc)).toArray, q1) := e97
  have B62 := B61.keep o2 (fun h => h)
  have o02 := (b3.trans o1).trans o2
  obtain ⟨q3, e46b, o3⟩ := r46 (x'.old o02) hi hl h4 hn
  have e46b : CD 46 [.agg (S.cells (.slice a S.img.length c)).toArray] q2 = some (i64n D.ar, q3) := e46b
  have o03 := o02.trans o3
  obtain ⟨l0, lrest⟩ := logL_lds gq
  have gq3 := Old.get o3 gq
  obtain ⟨l0', lrest'⟩ := logL_lds gq3
  have hsub : bin Try.prog .sub 3 (i64n D.ar) (.int .i64 (m : Int)) = some (i64n (D.ar - m)) := sub3 (by omega) (by omega)
  have hp0 : ∀ P, D.part area gen m P 0 = (logOk m (D.jb area m) && (logGen (D.jb area m) == gen) && (logPart (D.jb area m) == 0) && (logParts (D.jb area m) == P)) := fun P => rfl
  have hPd : D.parts area m = logParts (D.jb area m) := rfl
  have hne0 : ∀ p : Nat, bin Try.prog .neq 3 (i64n p) (.int .i64 0) = some (.bool (!(p == 0))) := fun p => bin3n p 0
  have hfail : D.part area gen m (D.parts area m) 0 = false → D.stands area gen m = false := fun hf => Dk.not_stands' (i := 0) (by omega) hf
  have ckt : ∀ o : Out, ∀ w, chkR false o w = true := fun _ _ => rfl
  cases hc1 : logOk m (D.jb area m) with
  | false =>
    refine no (hfail (by rw [hp0, hc1]; rfl)) ⟨q2, ?_, o02⟩
    unfold t76
    simp -implicitDefEqProofs only [b1, thenV_some, hlss, pu_some, decide_eq_false c1, bOf_bool, beq_self_eq_true, guardK_true, B6.ld, e46, hgeq, decide_eq_false c2, Bool.false_eq_true, if_false, B61.ld, e97, new5, est, addP_ptr, Nat.zero_add, l0, hc1, unA_not, Bool.not_false, sf, guardK_false, if_true, ckt, Bool.and_true]
  | true =>
    obtain ⟨l1, l2, l3, _⟩ := lrest hc1
    obtain ⟨_, _, l3', _⟩ := lrest' hc1
    cases hc2 : (logGen (D.jb area m) == gen) with
    | false =>
      refine no (hfail (by rw [hp0, hc1, hc2]; rfl)) ⟨q2, ?_, o02⟩
      unfold t76
      simp -implicitDefEqProofs only [b1, thenV_some, hlss, pu_some, decide_eq_false c1, bOf_bool, beq_self_eq_true, guardK_true, B6.ld, e46, hgeq, decide_eq_false c2, Bool.false_eq_true, if_false, B61.ld, e97, new5, est, addP_ptr, Nat.zero_add, l0, hc1, unA_not, Bool.not_true, l1, bin58n, hc2, Bool.not_false, sf, guardK_false, if_true, ckt, Bool.and_true]
    | true =>
      cases hc3 : (logPart (D.jb area m) == 0) with
      | false =>
        refine no (hfail (by rw [hp0, hc1, hc2, hc3]; rfl)) ⟨q2, ?_, o02⟩
        unfold t76
        simp -implicitDefEqProofs only [b1, thenV_some, hlss, pu_some, decide_eq_false c1, bOf_bool, beq_self_eq_true, guardK_true, B6.ld, e46, hgeq, decide_eq_false c2, Bool.false_eq_true, if_false, B61.ld, e97, new5, est, addP_ptr, Nat.zero_add, l0, hc1, unA_not, Bool.not_true, l1, bin58n, hc2, l2, hne0, hc3, Bool.not_false, sf, guardK_false, if_true, ckt, Bool.and_true]
      | true =>
        have ck3 : chkR true (some (i64n (logParts (D.jb area m)), q3)) (i64n (logParts (D.jb area m))) = true := chk_at rfl (by simp [i64n, veq])
        by_cases c4 : D.ar - m < logParts (D.jb area m)
        · refine no (by unfold Dk.stands; rw [hPd, decide_eq_false (by omega)]; rfl) ⟨q3, ?_, o03⟩
          unfold t76
          simp -implicitDefEqProofs only [b1, thenV_some, hlss, pu_some, decide_eq_false c1, bOf_bool, beq_self_eq_true, guardK_true, B6.ld, e46, hgeq, decide_eq_false c2, Bool.false_eq_true, if_false, B61.ld, e97, new5, est, addP_ptr, Nat.zero_add, l0, hc1, unA_not, Bool.not_true, l1, bin58n, hc2, l2, hne0, hc3, l3, B62.ld, e46b, hsub, gtr3, decide_eq_true c4, l3', ck3, Bool.and_true]
        · have oA : Old q3 (q3.alloc []) := Kept.alloc _ _ _
          have nA : (q3.alloc []).next = q3.next + 1 := Heap.next_alloc ..
          have hq2 := o1.next; have hq3 := o3.next
          have F3 : Fld (q3.alloc []) q1.next 3 (i64n (logParts (D.jb area m))) := by
            refine ⟨_, Old.get oA gq3, ?_⟩
            unfold logL; rw [hc1, if_pos rfl]; rfl
          have B6A := (B62.keep o3 (fun h => h)).keep oA (fun h => h)
          have ownE : OwnB (q3.alloc []) q3.next (.slice (some ⟨q3.next, 0, none⟩) 0 0) [] := ⟨OwnC.empty _ (Nat.le_refl _), by simp⟩
          have key : ∀ o, t76 CD (.agg (S.cells (.slice a S.img.length c)).toArray) (i64n area) (.int .u64 (gen : Int)) (.int .i64 (m : Int)) h0 = o → (D.stands area gen m = false ∧ ∃ h', o = some (.tuple #[.slice none 0 0, .int .i64 0, .bool false], h') ∧ Old h0 h') ∨
              (D.stands area gen m = true ∧ ∃ w h', o = some (.tuple #[w, i64n (D.parts area m), .bool true], h') ∧ Old h0 h' ∧ OwnB h' h0.next w (D.data area m (D.parts area m))) := by
            intro o ho
            subst ho
            unfold t76
            simp -implicitDefEqProofs only [b1, thenV_some, hlss, pu_some, decide_eq_false c1, bOf_bool, beq_self_eq_true, guardK_true, B6.ld, e46, hgeq, decide_eq_false c2, Bool.false_eq_true, if_false, B61.ld, e97, new5, est, addP_ptr, Nat.zero_add, l0, hc1, unA_not, Bool.not_true, l1, bin58n, hc2, l2, hne0, hc3, l3, B62.ld, e46b, hsub, gtr3, decide_eq_false c4, l3', ck3, Bool.and_true, bsl_bytes]
            refine endL_fin (Q := fun (o : Out) => (D.stands area gen m = false ∧ ∃ h', o = some (.tuple #[.slice none 0 0, .int .i64 0, .bool false], h') ∧ Old h0 h') ∨
              (D.stands area gen m = true ∧ ∃ w h', o = some (.tuple #[w, i64n (D.parts area m), .bool true], h') ∧ Old h0 h' ∧ OwnB h' h0.next w (D.data area m (D.parts area m))))
              (loop_fin (t76l76_11111010_eq CD) (st_round hl h4 hn x' hi (N := q3.next) (bx := h0.next) (f := q1.next) (area := area) (gen := gen) (at_ := m) (P := logParts (D.jb area m)) ha (by omega)) (logParts (D.jb area m)) (by have : rounds = 18446744073709551616 := rfl; omega)
                ⟨0, rfl, rfl, rfl, rfl, rfl, B6A, F3, by omega, by omega, by omega, by rw [oA.n0, o03.n0]; have := o03.next; omega, rfl, by omega, by omega, ownE, o03.trans oA, o03.next, by omega⟩) ?_
            rintro ex y g4 ⟨hold, ⟨rfl, y8, y9, y10, i, hiP, hpf⟩ | ⟨rfl, y11, F4, own, hall⟩⟩
            · refine .inl ⟨Dk.not_stands' (.inl (show i < D.parts area m from hiP)) hpf, g4, st_false y g4 y8 y9 y10, hold⟩
            · have hok := hc1
              unfold logOk at hok
              simp only [Bool.and_eq_true, decide_eq_true_eq] at hok
              refine .inr ⟨?_, y 12, g4, ?_, hold, ?_⟩
              · unfold Dk.stands
                rw [hPd, decide_eq_true (show m + logParts (D.jb area m) ≤ D.ar by omega), decide_eq_true hok.1.1.2]
                simp only [Bool.true_and, List.all_eq_true, List.mem_range]
                exact hall
              · simp -implicitDefEqProofs only [endL_exit, b76_exit, t76k76_10_eq]
                unfold t76k76_10
                simp -implicitDefEqProofs only [thenV_some, y11, addP_ptr, Nat.zero_add, pu_some, F4.ld, hPd]
              · have := o03.next
                exact ⟨⟨own.own.1, own.own.2.1, own.own.2.2.1, by
                  rcases own.own.2.2.2 with h | ⟨b, s, k1, k2, k3⟩
                  · exact .inl h
                  · exact .inr ⟨b, s, k1, by omega, k3⟩⟩, own.byte⟩
          rcases key _ rfl with ⟨k1, h', k2, k3⟩ | ⟨k1, w, h', k2, k3, k4⟩
          · exact .inl ⟨k1, h', up76 _ k2, k3⟩
          · exact .inr ⟨k1, w, h', up76 _ k2, k3, k4⟩
end
end
end Go.Proofs.Ytcmfgmhadeeieaa

