/-
  The journal: slices that grow; records.
  Conditions: as each theorem states.
  The journal: the record that stands at a position.
  Conditions: as each theorem states.
  The journal: what it answers.
  Conditions: as each theorem states.
  The journal: the Writer.
  Conditions: as each theorem states.
  The journal: what is written through a Writer; sealed blocks.
  Conditions: as each theorem states.
  The journal: a record's blocks are written.
  Conditions: as each theorem states.
  The journal: Append.
  Conditions: as each theorem states.
  The journal: Open: superblocks and generations.
  Conditions: as each theorem states.
  The journal: Open: entries.
  Conditions: as each theorem states.
  The journal: Rewrite.
  Conditions: as each theorem states.
  The journal: Rewrite, whole.
  Conditions: as each theorem states.
  The journal's plain law: what is written is what is read.
  Conditions: as each theorem states.
  The journal's plain law: with power, a Rewrite and an Append succeed, and what they lay is what Open finds.
  Conditions: as each theorem states.
  The journal's plain law: what Open finds; a Rewrite and an Append with power.
  Conditions: as each theorem states.
  A journal can not be used after a later Open nor after a loss of power: the walk.
  Conditions: as each theorem states.
  Lists of records in memory: own, datas, same.
  Conditions: as each theorem states.
  One changed byte breaks a block's checksum; Rot.
  Conditions: as each theorem states.
  The journal's plain law: a changed byte hides exactly the record.
  Conditions: as each theorem states.
  Parts of lists of records; the script that heavy is asked about.
  Conditions: as each theorem states.
  DiskRotHides: the walk.
  Conditions: as each theorem states.
-/
import Derived.Test.YtcmfgmhadeeieaaG6
namespace Go.Proofs.Ytcmfgmhadeeieaa
open Go Go.Abs

def baseOf : Value → Option Nat
  | .slice (some a) _ _ => some a.block
  | _ => none
/-- A slice that grows: nothing yet, or a block of its own. -/
def OwnC (h : Heap) (N size : Nat) (v : Value) (len : Nat) (cells : List Value) : Prop :=
  cells.length = len * size ∧ Abs.noHoles cells = true ∧ oneCells cells = true ∧
  ((v = .slice none 0 0 ∧ len = 0) ∨ ∃ b s, v = .slice (some ⟨b, 0, s⟩) len len ∧ N ≤ b ∧ ((s = none ∧ len = 0) ∨ (s = some size ∧ h.get b = some cells)))
theorem OwnC.nil (h : Heap) (N size : Nat) : OwnC h N size (.slice none 0 0) 0 [] := ⟨by simp, rfl, rfl, .inl ⟨rfl, rfl⟩⟩
theorem OwnC.empty (h : Heap) {N size b : Nat} (hb : N ≤ b) : OwnC h N size (.slice (some ⟨b, 0, none⟩) 0 0) 0 [] := ⟨by simp, rfl, rfl, .inr ⟨b, none, rfl, hb, .inl ⟨rfl, rfl⟩⟩⟩
theorem OwnC.keep {h h' : Heap} {N size : Nat} {v : Value} {len : Nat} {cells : List Value} (o : OwnC h N size v len cells) {B : Nat → Prop} (k : Kept h h' B) (hB : ∀ b, baseOf v = some b → ¬ B b) : OwnC h' N size v len cells := by
  obtain ⟨h1, h2, h3, h4⟩ := o
  refine ⟨h1, h2, h3, ?_⟩
  rcases h4 with h4 | ⟨b, s, rfl, h5, h6 | ⟨h6, h7⟩⟩
  · exact .inl h4
  · exact .inr ⟨b, s, rfl, h5, .inl h6⟩
  · exact .inr ⟨b, s, rfl, h5, .inr ⟨h6, k.getE h7 (hB b rfl)⟩⟩
theorem noHoles_append (a b : List Value) (ha : Abs.noHoles a = true) (hb : Abs.noHoles b = true) : Abs.noHoles (a ++ b) = true := by
  unfold Abs.noHoles at *
  rw [List.all_append, ha, hb]; rfl
theorem oneCells_append (a b : List Value) (ha : oneCells a = true) (hb : oneCells b = true) : oneCells (a ++ b) = true := by
  unfold oneCells at *
  rw [List.all_append, ha, hb]; rfl
theorem OwnC.base {h : Heap} {N size : Nat} {v : Value} {len : Nat} {cells : List Value} (o : OwnC h N size v len cells) {b : Nat} (hb : baseOf v = some b) : N ≤ b := by
  obtain ⟨_, _, _, ⟨rfl, _⟩ | ⟨b', s, rfl, h5, _⟩⟩ := o
  · cases hb
  · cases hb; exact h5
theorem append_own {h : Heap} {N size by_ len m : Nat} {v x : Value} {cells news : List Value} (o : OwnC h N size v len cells) (h0 : h.n0 ≤ N) (hN : N ≤ h.next) (_hs : 0 < size) (hx : lenA x = some m) (hf : firstA size m x h = some news)
    (h1 : oneCells news = true) (h2 : Abs.noHoles news = true) (hl : news.length = m * size) (hb : (len + m) * by_ ≤ 140737488355328) (hc : len + m ≤ 4611686018427387904) :
    ∃ v' h', appendA size by_ v x h = some (v', h') ∧ OwnC h' N size v' (len + m) (cells ++ news) ∧ Kept h h' (fun c => baseOf v = some c ∧ h.get c = some cells) ∧ (v' = v ∨ baseOf v' = some h.next) := by
  have o' := o
  obtain ⟨o1, o2, o3, o4⟩ := o
  have hcond : ∀ len' : Nat, len' = len → (!(oneCells news) || !(decide ((len' + m) * by_ ≤ 140737488355328)) || !(decide (len' + m ≤ 4611686018427387904)) || decide (news.length ≠ m * size)) = false := by
    rintro _ rfl
    rw [h1, decide_eq_true hb, decide_eq_true hc, decide_eq_false (by omega)]; rfl
  by_cases hm : m = 0
  · subst hm
    have hn : news = [] := List.length_eq_zero_iff.1 (by omega)
    subst hn
    have ho : OwnC h N size v (len + 0) (cells ++ []) := by rw [List.append_nil]; exact o'
    refine ⟨v, h, ?_, ho, Kept.refl _ _, .inl rfl⟩
    rcases o4 with ⟨rfl, rfl⟩ | ⟨b, s, rfl, h5, h6⟩
    · unfold appendA
      simp only [hx, hf]
      rw [if_neg (by rw [hcond 0 rfl]; decide), if_pos (by omega), if_pos trivial]
    · unfold appendA
      simp only [hx, hf]
      rw [if_neg (by rw [hcond len rfl]; decide), if_pos (by omega), if_pos trivial]
  · have fresh : ∀ cs : List Value, cs = [] → len = 0 → OwnC (h.alloc news) N size (.slice (some ⟨h.next, 0, some size⟩) (len + m) (len + m)) (len + m) (cs ++ news) := by
      rintro _ rfl rfl
      exact ⟨by simpa using hl, by simpa using h2, by simpa using h1, .inr ⟨h.next, _, rfl, hN, .inr ⟨rfl, by rw [Heap.get_alloc, if_pos rfl]; rfl⟩⟩⟩
    rcases o4 with ⟨rfl, rfl⟩ | ⟨b, s, rfl, h5, ⟨rfl, rfl⟩ | ⟨rfl, h6⟩⟩
    · have hce : cells = [] := List.length_eq_zero_iff.1 (by simpa using o1)
      refine ⟨_, _, ?_, fresh cells hce rfl, Kept.alloc _ _ _, .inr rfl⟩
      unfold appendA
      simp only [hx, hf]
      rw [if_neg (by rw [hcond 0 rfl]; decide), if_neg (by omega), if_pos trivial]
    · have hce : cells = [] := List.length_eq_zero_iff.1 (by simpa using o1)
      refine ⟨_, _, ?_, fresh cells hce rfl, Kept.alloc _ _ _, .inr rfl⟩
      unfold appendA
      simp only [hx, hf]
      have f0 : firstA size 0 (.slice (some ⟨b, 0, none⟩) 0 0) h = some [] := by simp [firstA]
      rw [if_neg (by rw [hcond 0 rfl]; decide), if_neg (by omega)]
      simp only [f0]
      rw [if_neg (by simp)]; rfl
    · have hf2 : firstA size len (.slice (some ⟨b, 0, some size⟩) len len) h = some cells := by
        simp only [firstA]
        by_cases hz : len * size = 0
        · rw [if_pos hz]
          have : cells = [] := List.length_eq_zero_iff.1 (by omega)
          rw [this]
        · rw [if_neg hz]
          simp only [h6]
          have e : (cells.drop 0).take (len * size) = cells := by rw [List.drop_zero, List.take_of_length_le (by omega)]
          simp only [e]
          rw [if_pos ⟨by omega, o2⟩]
      have hlt := h.lt_of_get h6
      have hk : ∀ c, c < h.next → c ≠ b → ((h.kill b).alloc (cells ++ news)).get c = h.get c := by
        intro c hc hne
        rw [Heap.get_alloc, if_neg (by rw [Heap.next_kill]; omega)]
        exact get_kill (by omega) hlt hne
      refine ⟨.slice (some ⟨h.next, 0, some size⟩) (len + m) (len + m), (h.kill b).alloc (cells ++ news), ?_, ⟨by rw [List.length_append, o1, hl, Nat.add_mul], noHoles_append _ _ o2 h2, oneCells_append _ _ o3 h1, .inr ⟨h.next, _, rfl, hN, .inr ⟨rfl, ?_⟩⟩⟩, ⟨rfl, by simp, fun c hc hB => hk c hc (fun e => hB (by rw [e]; exact ⟨rfl, h6⟩))⟩, .inr rfl⟩
      · unfold appendA
        simp only [hx, hf]
        rw [if_neg (by rw [hcond len rfl]; decide), if_neg (by omega)]
        simp only [hf2]
        rw [if_neg (by simp [o1]), if_pos (by simp [h6]; omega)]
      · rw [Heap.get_alloc, if_pos (by rw [Heap.next_kill])]

/-- Bytes that grow. -/
structure OwnB (h : Heap) (N : Nat) (v : Value) (l : List Nat) : Prop where
  own : OwnC h N 1 v l.length (l.map u8)
  byte : ∀ x ∈ l, x < 256
theorem OwnB.nil (h : Heap) (N : Nat) : OwnB h N (.slice none 0 0) [] := ⟨.nil h N 1, by simp⟩
theorem OwnB.keep {h h' : Heap} {N : Nat} {v : Value} {l : List Nat} (o : OwnB h N v l) {B : Nat → Prop} (k : Kept h h' B) (hB : ∀ b, baseOf v = some b → ¬ B b) : OwnB h' N v l := ⟨o.own.keep k hB, o.byte⟩
theorem OwnB.bytes {h : Heap} {N : Nat} {v : Value} {l : List Nat} (o : OwnB h N v l) : ∃ a c, v = .slice a l.length c ∧ sliceBytes a l.length h = some l ∧ goodS a l.length c = true ∧ (∀ y, a = some y → N ≤ y.block) ∧ (∀ y, a = some y → baseOf v = some y.block) := by
  obtain ⟨⟨o1, o2, o3, o4⟩, ob⟩ := o
  rcases o4 with ⟨rfl, h4⟩ | ⟨b, s, rfl, h5, ⟨rfl, h4⟩ | ⟨rfl, h6⟩⟩
  · have : l = [] := List.length_eq_zero_iff.1 h4
    subst this
    exact ⟨none, 0, rfl, rfl, rfl, fun y hy => (by cases hy), fun y hy => (by cases hy)⟩
  · have : l = [] := List.length_eq_zero_iff.1 h4
    subst this
    exact ⟨_, _, rfl, rfl, rfl, fun y hy => (by cases hy; exact h5), fun y hy => (by cases hy; rfl)⟩
  · refine ⟨_, _, rfl, ?_, ?_, fun y hy => by cases hy; exact h5, fun y hy => by cases hy; rfl⟩
    · have := sliceBytes_at (off := 0) (n := l.length) (s := some 1) h6 (by omega) ob
      rw [this, List.drop_zero, List.take_of_length_le (Nat.le_refl _)]
    · unfold goodS
      rw [Nat.ble_eq_true_of_le (Nat.le_refl _)]; rfl
theorem append_ownB {h : Heap} {N n c : Nat} {v : Value} {l m : List Nat} {a : Option Addr} (o : OwnB h N v l) (h0 : h.n0 ≤ N) (hN : N ≤ h.next) (hm : sliceBytes a n h = some m) (hb : l.length + n ≤ 100000000) :
    ∃ v' h', appendA 1 1 v (.slice a n c) h = some (v', h') ∧ OwnB h' N v' (l ++ m) ∧ Kept h h' (fun c => baseOf v = some c) ∧ (v' = v ∨ baseOf v' = some h.next) := by
  obtain ⟨hl, hbt, _⟩ := sliceBytes_spec hm
  have hf := firstA_of hm (Nat.le_refl n) (c := c)
  rw [List.take_of_length_le (by omega)] at hf
  obtain ⟨v', h', e1, e2, e3, e4⟩ := append_own (by_ := 1) o.own h0 hN (by decide) (show lenA (.slice a n c) = some n from rfl) hf (one_u8 _) (noHoles_u8 _) (by simp [hl]) (by omega) (by omega)
  refine ⟨v', h', e1, ⟨?_, ?_⟩, e3.mono (fun c _ hc => hc.1), e4⟩
  · rw [List.length_append, List.map_append, hl]; exact e2
  · intro x hx
    rcases List.mem_append.1 hx with hx | hx
    · exact o.byte x hx
    · exact hbt x hx

/-- A journal. -/
structure Jn where
  turn : Int
  slot : Int
  area : Nat
  gen : Nat
  known : Nat
  ready : Bool
  fin : Nat
def Jn.cells (J : Jn) (d : Nat) : Blk := [ptr d 0, .int .i64 J.turn, .int .i64 J.slot, i64n J.area, .int .u64 J.gen, .int .u64 J.known, .bool J.ready, i64n J.fin]
structure IsJn (h : Heap) (j d : Nat) (J : Jn) : Prop where
  get : h.get j = some (J.cells d)
  n0 : h.n0 ≤ j
  area : J.area ≤ 1
theorem Jn.plain (J : Jn) (d : Nat) : ∀ v ∈ J.cells d, nat8 v = none := by
  intro v hv
  simp only [Jn.cells, List.mem_cons, List.not_mem_nil, or_false] at hv
  rcases hv with rfl | rfl | rfl | rfl | rfl | rfl | rfl | rfl <;> rfl
theorem IsJn.keep {h h' : Heap} {j d : Nat} {J : Jn} (x : IsJn h j d J) {B : Nat → Prop} (k : Kept h h' B) (hB : ¬ B j) : IsJn h' j d J := ⟨k.getE x.get hB, k.n0 ▸ x.n0, x.area⟩
theorem IsJn.lt {h : Heap} {j d : Nat} {J : Jn} (x : IsJn h j d J) : j < h.next := h.lt_of_get x.get
section
variable {h : Heap} {j d : Nat} {J : Jn} (x : IsJn h j d J)
include x
theorem IsJn.l0 : ld1 (ptr j 0) h = some (ptr d 0, h) := ld1_at x.get rfl
theorem IsJn.l1 : ld1 (ptr j 1) h = some (.int .i64 J.turn, h) := ld1_at x.get rfl
theorem IsJn.l2 : ld1 (ptr j 2) h = some (.int .i64 J.slot, h) := ld1_at x.get rfl
theorem IsJn.l3 : ld1 (ptr j 3) h = some (i64n J.area, h) := ld1_at x.get rfl
theorem IsJn.l4 : ld1 (ptr j 4) h = some (.int .u64 J.gen, h) := ld1_at x.get rfl
theorem IsJn.l5 : ld1 (ptr j 5) h = some (.int .u64 J.known, h) := ld1_at x.get rfl
theorem IsJn.l6 : ld1 (ptr j 6) h = some (.bool J.ready, h) := ld1_at x.get rfl
theorem IsJn.l7 : ld1 (ptr j 7) h = some (i64n J.fin, h) := ld1_at x.get rfl
end

/-- The block of a position of an area. -/
def Dk.jb (D : Dk) (area at_ : Nat) : List Nat := D.blk (2 + area * D.ar + at_)
/-- The i-th block of a record of so many stands. -/
def Dk.part (D : Dk) (area gen at_ parts i : Nat) : Bool := logOk (at_ + i) (D.jb area (at_ + i)) && (logGen (D.jb area (at_ + i)) == gen) && (logPart (D.jb area (at_ + i)) == i) && (logParts (D.jb area (at_ + i)) == parts)
def Dk.parts (D : Dk) (area at_ : Nat) : Nat := logParts (D.jb area at_)
def Dk.stands (D : Dk) (area gen at_ : Nat) : Bool := decide (at_ + D.parts area at_ ≤ D.ar) && decide (1 ≤ D.parts area at_) && (List.range (D.parts area at_)).all (D.part area gen at_ (D.parts area at_))
def Dk.data (D : Dk) (area at_ n : Nat) : List Nat := (List.range n).flatMap fun i => logData (D.jb area (at_ + i))
theorem Dk.data_succ (D : Dk) (area at_ n : Nat) : D.data area at_ (n + 1) = D.data area at_ n ++ logData (D.jb area (at_ + n)) := by
  unfold Dk.data
  rw [List.range_succ, List.flatMap_append]
  simp
theorem Dk.data_length (D : Dk) (area at_ : Nat) : ∀ n, (D.data area at_ n).length ≤ 106 * n
  | 0 => by simp [Dk.data]
  | n + 1 => by
    rw [D.data_succ, List.length_append]
    have := D.data_length area at_ n
    have h2 : (logData (D.jb area (at_ + n))).length ≤ 106 := by
      unfold logData
      split
      · rw [List.length_take]; omega
      · simp
    omega
theorem Dk.not_stands {D : Dk} {area gen at_ i : Nat} (hi : i < D.parts area at_) (hp : D.part area gen at_ (D.parts area at_) i = false) : D.stands area gen at_ = false := by
  unfold Dk.stands
  have : (List.range (D.parts area at_)).all (D.part area gen at_ (D.parts area at_)) = false := by
    rw [List.all_eq_false]
    exact ⟨i, List.mem_range.2 hi, by rw [hp]; simp⟩
  rw [this, Bool.and_false]

theorem is57 : IsFn Try.prog 57 Try.f57 := ⟨by kernel_rfl, by kernel_rfl, by kernel_rfl, by kernel_rfl⟩
theorem bin58n (a b : Nat) : bin Try.prog .neq 58 (.int .u64 (a : Int)) (.int .u64 (b : Int)) = some (.bool (!(a == b))) := by
  rw [bin_neq]
  show some (Value.bool (!((a : Int) == (b : Int)))) = _
  rw [int_beq]
theorem bin3n (a b : Nat) : bin Try.prog .neq 3 (i64n a) (i64n b) = some (.bool (!(a == b))) := by
  unfold i64n
  rw [bin_neq]
  show some (Value.bool (!((a : Int) == (b : Int)))) = _
  rw [int_beq]
theorem int_lt (a b : Nat) : decide ((a : Int) < (b : Int)) = decide (a < b) := decide_eq_decide.2 (by omega)

/-- What the loop of record comes to. -/
def recFin (D : Dk) (J : Jn) (h0 : Heap) (at_ : Nat) (ex : Ex) (y : Nat → Value) (g : Heap) : Prop :=
  Old h0 g ∧ ((ex = .ret ∧ y 4 = .slice none 0 0 ∧ y 5 = .int .i64 0 ∧ D.stands J.area J.gen at_ = false) ∨
    (ex = .exit 0 ∧ D.stands J.area J.gen at_ = true ∧ y 8 = i64n (D.parts J.area at_) ∧ OwnB g h0.next (y 7) (D.data J.area at_ (D.parts J.area at_))))
def recInv (D : Dk) (J : Jn) (h0 : Heap) (j at_ : Nat) (k : Nat) (y : Nat → Value) (g : Heap) : Prop :=
  ∃ i P, y 0 = ptr j 0 ∧ y 1 = i64n at_ ∧ y 6 = i64n D.ar ∧ y 9 = i64n i ∧ y 8 = i64n P ∧ i ≤ P ∧ i + k = 70000 ∧ OwnB g h0.next (y 7) (D.data J.area at_ i) ∧ Old h0 g ∧ P ≤ 65535 ∧
    ((i = 0 ∧ P = 1) ∨ (0 < i ∧ P = D.parts J.area at_ ∧ at_ + i ≤ D.ar ∧ ∀ q, q < i → D.part J.area J.gen at_ P q = true))

end Go.Proofs.Ytcmfgmhadeeieaa

namespace Go.Proofs.Ytcmfgmhadeeieaa
open Go Go.Abs

theorem lss3 (a b : Nat) : bin Try.prog .lss 3 (i64n a) (i64n b) = some (.bool (decide (a < b))) := by
  unfold i64n; rw [bin_lss, int_lt]
theorem geq3 (a b : Nat) : bin Try.prog .geq 3 (i64n a) (i64n b) = some (.bool (decide (b ≤ a))) := by
  unfold i64n; rw [bin_geq]; exact congrArg (fun q => some (Value.bool q)) (decide_eq_decide.2 (by omega))
theorem gtr3 (a b : Nat) : bin Try.prog .gtr 3 (i64n a) (i64n b) = some (.bool (decide (b < a))) := by
  unfold i64n; rw [bin_gtr]; exact congrArg (fun q => some (Value.bool q)) (decide_eq_decide.2 (by omega))
theorem leq3 (a b : Nat) : bin Try.prog .leq 3 (i64n a) (i64n b) = some (.bool (decide (a ≤ b))) := by
  unfold i64n; rw [bin_leq]; exact congrArg (fun q => some (Value.bool q)) (decide_eq_decide.2 (by omega))
theorem eql3 (a b : Nat) : bin Try.prog .eql 3 (i64n a) (i64n b) = some (.bool (a == b)) := by
  unfold i64n; rw [bin_eql, int_beq]
theorem add3 {a b : Nat} (h : a + b ≤ 9223372036854775807) : bin Try.prog .add 3 (i64n a) (i64n b) = some (i64n (a + b)) := by
  unfold i64n; rw [bin_add, wrap_i64 (by omega) (by omega), Int.natCast_add]
theorem sub3 {a b : Nat} (h : b ≤ a) (h2 : a ≤ 9223372036854775807) : bin Try.prog .sub 3 (i64n a) (i64n b) = some (i64n (a - b)) := by
  unfold i64n; rw [bin_sub, wrap_i64 (by omega) (by omega)]; exact congrArg (fun q => some (Value.int .i64 q)) (by omega)
theorem mul3 {a b : Nat} (h : a * b ≤ 9223372036854775807) : bin Try.prog .mul 3 (i64n a) (i64n b) = some (i64n (a * b)) := by
  unfold i64n; rw [bin_mul, ← Int.natCast_mul, wrap_i64 (by omega) (by omega)]

theorem eql3z (a : Nat) : bin Try.prog .eql 3 (i64n a) (.int .i64 0) = some (.bool (a == 0)) := eql3 a 0
theorem add31 {a : Nat} (h : a + 1 ≤ 9223372036854775807) : bin Try.prog .add 3 (i64n a) (.int .i64 1) = some (i64n (a + 1)) := add3 h

theorem Dk.not_stands' {D : Dk} {area gen at_ i : Nat} (hi : i < D.parts area at_ ∨ D.parts area at_ = 0) (hp : D.part area gen at_ (D.parts area at_) i = false) : D.stands area gen at_ = false := by
  rcases hi with hi | hi
  · exact Dk.not_stands hi hp
  · unfold Dk.stands
    rw [hi]; simp
theorem logParts_lt {h : Heap} {d : Nat} {D : Dk} (x : IsDk h d D) (area at_ : Nat) : logParts (D.jb area at_) < 65536 := by
  have hb : ∀ y ∈ ((D.jb area at_).drop 18).take 2, y < 256 := fun y hy => Dk.blk_byte x _ y (List.mem_of_mem_drop (List.mem_of_mem_take hy))
  have hl : (((D.jb area at_).drop 18).take 2).length ≤ 2 := List.length_take_le ..
  have := be_lt _ _ rfl hb
  have h2 := Nat.pow_le_pow_right (n := 256) (by decide) hl
  unfold logParts
  omega

theorem rec_round {h0 : Heap} {d j at_ : Nat} {D : Dk} {J : Jn} (x : IsDk h0 d D) (xj : IsJn h0 j d J) (h2 : 2 ≤ D.n) (hat : at_ < D.ar) :
    ∀ k y g, recInv D J h0 j at_ k y g → Rnd 89 (recInv D J h0 j at_) (recFin D J h0 at_) k (t57l57_11111010 CD y g) := by
  rintro k y g ⟨i, P, i0, i1, i6, i9, i8, hiP, hk, ho, hold, hP, hcase⟩
  have hsm := x.small
  have har : D.ar = (D.n - 2) / 2 := rfl
  have xg := Old.dk hold x
  have jg := xj.keep hold (fun h => h)
  unfold t57l57_11111010
  simp -implicitDefEqProofs only [i8, i9, lss3, pu_some, thenV_some]
  by_cases hlt : i < P
  · simp -implicitDefEqProofs only [decide_eq_true hlt, i1, i6, i0, add3 (show at_ + i ≤ 9223372036854775807 by omega), pu_some, thenV_some, geq3]
    by_cases hge : D.ar ≤ at_ + i
    · simp -implicitDefEqProofs only [decide_eq_true hge, thenV_some]
      refine Rnd.ret ⟨hold, .inl ⟨rfl, rfl, rfl, ?_⟩⟩
      rcases hcase with ⟨rfl, _⟩ | ⟨_, rfl, _, _⟩
      · omega
      · unfold Dk.stands
        rw [decide_eq_false (show ¬ at_ + D.parts J.area at_ ≤ D.ar by omega)]; rfl
    · obtain ⟨a, n, c, g1, e1, e2, e3, e4, e5⟩ := r56 xg h2 jg.area (show at_ + i < D.ar by omega)
      have hjb : D.blk (2 + J.area * D.ar + (at_ + i)) = D.jb J.area (at_ + i) := rfl
      rw [hjb] at e1 e2
      have hpl := logParts_lt x J.area (at_ + i)
      have g2p : (g1.alloc logZ).get g1.next = some logZ := by rw [Heap.get_alloc, if_pos rfl]
      have n02 : (g1.alloc logZ).n0 ≤ g1.next := g1.n0_le_next
      generalize hcs : logC (logGen (D.jb J.area (at_ + i))) (logPart (D.jb J.area (at_ + i))) (logParts (D.jb J.area (at_ + i))) (.slice a n c) = cs at e1
      have hst : stN 4 (ptr g1.next 0) (.agg cs.toArray) (g1.alloc logZ) = some (undef, (g1.alloc logZ).set g1.next cs) := by
        subst hcs; exact stN_whole g2p n02 rfl rfl rfl
      obtain ⟨k3, g3p⟩ := setPlain (k' := cs) g2p n02
      have k2 : Old g1 (g1.alloc logZ) := Kept.alloc g1 logZ _
      have k13 : Old g ((g1.alloc logZ).set g1.next cs) := (e4.trans k2).also k3 (fun c h1 h2 => by have := e4.next; omega)
      have sB := k3.bytesP (fun c hc => by subst hc; exact plain4 g2p) (Old.bytes k2 e2)
      have hlogz : g1.alloc [(.int .u64 0), (.int .i64 0), (.int .i64 0), (.slice none 0 0)] = g1.alloc logZ := rfl
      generalize hg3 : (g1.alloc logZ).set g1.next cs = g3 at *
      have l0 : ld1 (ptr g1.next 0) g3 = some (.int .u64 (logGen (D.jb J.area (at_ + i))), g3) := by subst hcs; exact ld1_at g3p rfl
      have l1 : ld1 (ptr g1.next 1) g3 = some (i64n (logPart (D.jb J.area (at_ + i))), g3) := by subst hcs; exact ld1_at g3p rfl
      have l2 : ld1 (ptr g1.next 2) g3 = some (i64n (logParts (D.jb J.area (at_ + i))), g3) := by subst hcs; exact ld1_at g3p rfl
      have l3 : ld1 (ptr g1.next 3) g3 = some (.slice a n c, g3) := by subst hcs; exact ld1_at g3p rfl
      have hold3 : Old h0 g3 := hold.trans k13
      have jg3 := xj.keep hold3 (fun h => h)
      have ho3 := ho.keep k13 (fun _ _ h => h)
      have hlen := D.data_length J.area at_ i
      have hn : n ≤ 106 := by
        obtain ⟨h1, _, _⟩ := sliceBytes_spec sB
        have h2 : (logData (D.jb J.area (at_ + i))).length ≤ 106 := by
          unfold logData
          split
          · rw [List.length_take]; omega
          · simp
        omega
      obtain ⟨v', g4, f1, f2, f3, f4⟩ := append_ownB (c := c) ho3 (by rw [hold3.n0]; exact h0.n0_le_next) hold3.next sB (by omega)
      rw [← D.data_succ] at f2
      have hold4 : Old h0 g4 := hold3.also f3 (fun c hc hb => by
        obtain ⟨a1, c1, e6, _, _, e7, e8⟩ := ho3.bytes
        rw [e6] at hb
        cases a1 with
        | none => cases hb
        | some y1 =>
          have := e7 y1 rfl
          have hb : some y1.block = some c := hb
          cases hb
          omega)
      have hx0 : ∀ a b : Value, extractA (.tuple #[a, b]) 0 = some a := fun _ _ => rfl
      have hx1 : ∀ a b : Value, extractA (.tuple #[a, b]) 1 = some b := fun _ _ => rfl
      simp -implicitDefEqProofs only [decide_eq_false hge, nilCheck_ptr, pu_some, thenV_some, addP_ptr, Nat.zero_add, jg.l0, jg.l3, e1, hx0, hx1, newC, Abs.newRow, hlogz, hst, eql3z]
      by_cases hi0 : i = 0
      · have hP' : D.parts J.area at_ = logParts (D.jb J.area (at_ + i)) := by rw [hi0]; rfl
        have hfl : i < D.parts J.area at_ ∨ D.parts J.area at_ = 0 := by omega
        have hfail : D.part J.area J.gen at_ (logParts (D.jb J.area (at_ + i))) i = false → D.stands J.area J.gen at_ = false := fun hf => Dk.not_stands' hfl (by rw [hP']; exact hf)
        have hbeq : (i == 0) = true := by simp [hi0]
        have hpp : (logParts (D.jb J.area (at_ + i)) == logParts (D.jb J.area (at_ + i))) = true := beq_self_eq_true _
        unfold Dk.part at hfail
        rw [hpp, Bool.and_true] at hfail
        simp -implicitDefEqProofs only [hbeq, l2, pu_some, thenV_some, unA_not, bOf_bool]
        cases hc1 : logOk (at_ + i) (D.jb J.area (at_ + i)) with
        | false =>
          simp -implicitDefEqProofs only [Bool.not_false, sf, guardK_false, thenV_some, if_true, bOf_bool]
          exact Rnd.ret ⟨hold3, .inl ⟨rfl, rfl, rfl, hfail (by rw [hc1]; rfl)⟩⟩
        | true =>
          simp -implicitDefEqProofs only [Bool.not_true, beq_self_eq_true, guardK_true, thenV_some, pu_some, addP_ptr, Nat.zero_add, l0, jg3.l4, bin58n, nilCheck_ptr, Bool.false_eq_true, if_false, bOf_bool]
          cases hc2 : (logGen (D.jb J.area (at_ + i)) == J.gen) with
          | false =>
            simp -implicitDefEqProofs only [Bool.not_false, sf, guardK_false, thenV_some, if_true, bOf_bool]
            exact Rnd.ret ⟨hold3, .inl ⟨rfl, rfl, rfl, hfail (by rw [hc1, hc2]; rfl)⟩⟩
          | true =>
            simp -implicitDefEqProofs only [Bool.not_true, beq_self_eq_true, guardK_true, thenV_some, pu_some, addP_ptr, Nat.zero_add, l1, bin3n, Bool.false_eq_true, if_false, bOf_bool]
            cases hc3 : (logPart (D.jb J.area (at_ + i)) == i) with
            | false =>
              simp -implicitDefEqProofs only [Bool.not_false, sf, guardK_false, thenV_some, if_true, bOf_bool]
              exact Rnd.ret ⟨hold3, .inl ⟨rfl, rfl, rfl, hfail (by rw [hc1, hc2, hc3]; rfl)⟩⟩
            | true =>
              simp -implicitDefEqProofs only [Bool.not_true, beq_self_eq_true, guardK_true, thenV_some, pu_some, l2, bin3n, Bool.false_eq_true, if_false, l3, f1, add31 (show i + 1 ≤ 9223372036854775807 by omega)]
              have h1p : 1 ≤ logParts (D.jb J.area (at_ + i)) := by
                unfold logOk at hc1
                simp only [Bool.and_eq_true, decide_eq_true_eq] at hc1
                exact hc1.1.1.2
              refine Rnd.next (k - 1) (by omega) ⟨i + 1, logParts (D.jb J.area (at_ + i)), i0, i1, i6, rfl, rfl, by omega, by omega, f2, hold4, by omega, .inr ⟨by omega, hP'.symm, by omega, ?_⟩⟩
              intro q hq
              have : q = i := by omega
              subst this
              unfold Dk.part
              rw [hc1, hc2, hc3, hpp]; rfl
      · rcases hcase with ⟨h, _⟩ | ⟨hi1, hPe, hati, hall⟩
        · exact absurd h hi0
        have hfail : D.part J.area J.gen at_ P i = false → D.stands J.area J.gen at_ = false := fun hf => Dk.not_stands' (i := i) (.inl (by omega)) (by rw [← hPe]; exact hf)
        have hbeq : (i == 0) = false := by simp [hi0]
        unfold Dk.part at hfail
        simp -implicitDefEqProofs only [hbeq, pu_some, thenV_some, unA_not, bOf_bool]
        cases hc1 : logOk (at_ + i) (D.jb J.area (at_ + i)) with
        | false =>
          simp -implicitDefEqProofs only [Bool.not_false, sf, guardK_false, thenV_some, if_true, bOf_bool]
          exact Rnd.ret ⟨hold3, .inl ⟨rfl, rfl, rfl, hfail (by rw [hc1]; rfl)⟩⟩
        | true =>
          simp -implicitDefEqProofs only [Bool.not_true, beq_self_eq_true, guardK_true, thenV_some, pu_some, addP_ptr, Nat.zero_add, l0, jg3.l4, bin58n, nilCheck_ptr, Bool.false_eq_true, if_false, bOf_bool]
          cases hc2 : (logGen (D.jb J.area (at_ + i)) == J.gen) with
          | false =>
            simp -implicitDefEqProofs only [Bool.not_false, sf, guardK_false, thenV_some, if_true, bOf_bool]
            exact Rnd.ret ⟨hold3, .inl ⟨rfl, rfl, rfl, hfail (by rw [hc1, hc2]; rfl)⟩⟩
          | true =>
            simp -implicitDefEqProofs only [Bool.not_true, beq_self_eq_true, guardK_true, thenV_some, pu_some, addP_ptr, Nat.zero_add, l1, bin3n, Bool.false_eq_true, if_false, bOf_bool]
            cases hc3 : (logPart (D.jb J.area (at_ + i)) == i) with
            | false =>
              simp -implicitDefEqProofs only [Bool.not_false, sf, guardK_false, thenV_some, if_true, bOf_bool]
              exact Rnd.ret ⟨hold3, .inl ⟨rfl, rfl, rfl, hfail (by rw [hc1, hc2, hc3]; rfl)⟩⟩
            | true =>
              simp -implicitDefEqProofs only [Bool.not_true, beq_self_eq_true, guardK_true, thenV_some, pu_some, l2, bin3n, Bool.false_eq_true, if_false]
              cases hc4 : (logParts (D.jb J.area (at_ + i)) == P) with
              | false =>
                simp -implicitDefEqProofs only [Bool.not_false]
                exact Rnd.ret ⟨hold3, .inl ⟨rfl, rfl, rfl, hfail (by rw [hc1, hc2, hc3, hc4]; rfl)⟩⟩
              | true =>
                simp -implicitDefEqProofs only [Bool.not_true, addP_ptr, Nat.zero_add, pu_some, thenV_some, l3, f1, add31 (show i + 1 ≤ 9223372036854775807 by omega)]
                refine Rnd.next (k - 1) (by omega) ⟨i + 1, P, i0, i1, i6, rfl, i8, by omega, by omega, f2, hold4, hP, .inr ⟨by omega, hPe, by omega, ?_⟩⟩
                intro q hq
                by_cases hqi : q = i
                · subst hqi
                  unfold Dk.part
                  rw [hc1, hc2, hc3, hc4]; rfl
                · exact hall q (by omega)
  · simp -implicitDefEqProofs only [decide_eq_false hlt]
    have hii : i = P := by omega
    rcases hcase with ⟨h, h'⟩ | ⟨hi1, hPe, hati, hall⟩
    · omega
    · refine Rnd.out 0 ⟨hold, .inr ⟨rfl, ?_, ?_, ?_⟩⟩
      · unfold Dk.stands
        rw [← hPe, decide_eq_true (show at_ + P ≤ D.ar by omega), decide_eq_true (show 1 ≤ P by omega)]
        simp only [Bool.true_and, List.all_eq_true, List.mem_range]
        exact fun q hq => hall q (by omega)
      · show y 8 = _
        rw [i8, hPe]
      · show OwnB g h0.next (y 7) _
        rw [← hPe, ← hii]; exact ho

end Go.Proofs.Ytcmfgmhadeeieaa

namespace Go.Proofs.Ytcmfgmhadeeieaa
open Go Go.Abs

theorem rec_loop {h0 : Heap} {d j at_ : Nat} {D : Dk} {J : Jn} (x : IsDk h0 d D) (xj : IsJn h0 j d J) (h2 : 2 ≤ D.n) (hat : at_ < D.ar) {y : Nat → Value} (i0 : y 0 = ptr j 0) (i1 : y 1 = i64n at_) (i6 : y 6 = i64n D.ar) (i9 : y 9 = i64n 0) (i8 : y 8 = i64n 1) (i7 : y 7 = .slice none 0 0) :
    Fin 89 (recFin D J h0 at_) (iter (codeA Try.prog CD (partOf Try.f57 [1, 1, 1, 1, 1, 0, 1, 0, 0])) rounds (mkF 89 y) h0) :=
  loop_fin (t57l57_11111010_eq CD) (rec_round x xj h2 hat) 70000 (by have : rounds = 18446744073709551616 := rfl; omega)
    ⟨0, 1, i0, i1, i6, i9, i8, by omega, rfl, by rw [i7]; exact .nil _ _, Kept.refl _ _, by omega, .inl ⟨rfl, rfl⟩⟩

/-- No record stands at a position. -/
def Dk.none (D : Dk) (J : Jn) (at_ : Int) : Prop := J.slot < 0 ∨ at_ < 0 ∨ (D.ar : Int) ≤ at_ ∨ D.stands J.area J.gen at_.toNat = false
theorem r57_start {h : Heap} {d j : Nat} {D : Dk} {J : Jn} (x : IsDk h d D) (xj : IsJn h j d J) (h2 : 2 ≤ D.n) (at_ : Int) (hout : J.slot < 0 ∨ at_ < 0 ∨ (D.ar : Int) ≤ at_) :
    CD 57 [ptr j 0, .int .i64 at_] h = some (.tuple #[.slice none 0 0, .int .i64 0], h) := by
  refine CD_body is57 rfl ((t57_eq _ _ _ _).trans ?_)
  unfold t57
  simp -implicitDefEqProofs only [thenV_some, nilCheck_ptr, pu_some, addP_ptr, Nat.zero_add, xj.l0, r55 x h2, xj.l2, bin_lss, bOf_bool]
  by_cases c1 : J.slot < 0
  · simp -implicitDefEqProofs only [c1, decide_true, sf, guardK_false, thenV_some, if_true, bOf_bool]
  · simp -implicitDefEqProofs only [c1, decide_false, beq_self_eq_true, guardK_true, thenV_some, pu_some, bin_lss, Bool.false_eq_true, if_false, bOf_bool]
    by_cases c2 : at_ < 0
    · simp -implicitDefEqProofs only [c2, decide_true, sf, guardK_false, thenV_some, if_true]
    · have c3 : at_ ≥ (D.ar : Int) := by omega
      simp -implicitDefEqProofs only [c2, decide_false, beq_self_eq_true, guardK_true, thenV_some, pu_some, i64n, bin_geq, c3, decide_true, Bool.false_eq_true, if_false]
theorem r57_run {h : Heap} {d j : Nat} {D : Dk} {J : Jn} (x : IsDk h d D) (xj : IsJn h j d J) (h2 : 2 ≤ D.n) {at_ : Nat} (hs : 0 ≤ J.slot) (hat : at_ < D.ar) :
    (D.stands J.area J.gen at_ = false ∧ ∃ h', CD 57 [ptr j 0, i64n at_] h = some (.tuple #[.slice none 0 0, .int .i64 0], h') ∧ Old h h') ∨
    (D.stands J.area J.gen at_ = true ∧ ∃ v h', CD 57 [ptr j 0, i64n at_] h = some (.tuple #[v, i64n (D.parts J.area at_)], h') ∧ Old h h' ∧ OwnB h' h.next v (D.data J.area at_ (D.parts J.area at_))) := by
  have c1 : ¬ J.slot < 0 := by omega
  have c2 : ¬ ((at_ : Int) < 0) := by omega
  have c3 : ¬ ((at_ : Int) ≥ (D.ar : Int)) := by omega
  have key : ∀ (o : Out), bodyK Try.prog CD Try.f57 [ptr j 0, i64n at_] h = o → (D.stands J.area J.gen at_ = false ∧ ∃ h', o = some (.tuple #[.slice none 0 0, .int .i64 0], h') ∧ Old h h') ∨
    (D.stands J.area J.gen at_ = true ∧ ∃ v h', o = some (.tuple #[v, i64n (D.parts J.area at_)], h') ∧ Old h h' ∧ OwnB h' h.next v (D.data J.area at_ (D.parts J.area at_))) := by
    intro o ho
    subst ho
    rw [t57_eq]
    unfold t57
    simp -implicitDefEqProofs only [thenV_some, nilCheck_ptr, pu_some, addP_ptr, Nat.zero_add, xj.l0, r55 x h2, xj.l2, bin_lss, bOf_bool, c1, c2, c3, decide_false, beq_self_eq_true, guardK_true, i64n, bin_geq, Bool.false_eq_true, if_false]
    refine endL_fin (Q := fun (o : Out) => (D.stands J.area J.gen at_ = false ∧ ∃ h', o = some (.tuple #[.slice none 0 0, .int .i64 0], h') ∧ Old h h') ∨
      (D.stands J.area J.gen at_ = true ∧ ∃ v h', o = some (.tuple #[v, i64n (D.parts J.area at_)], h') ∧ Old h h' ∧ OwnB h' h.next v (D.data J.area at_ (D.parts J.area at_)))) (rec_loop x xj h2 hat rfl rfl rfl rfl rfl rfl) ?_
    rintro ex y g ⟨hold, ⟨rfl, y4, y5, hst⟩ | ⟨rfl, hst, y8, hown⟩⟩
    · refine .inl ⟨hst, g, ?_, hold⟩
      have hr : Try.f57.results.toList = [.tmp 4, .tmp 5] := by kernel_rfl
      have h4 : (mkF 89 y).getD 4 undef = y 4 := rfl
      have h5 : (mkF 89 y).getD 5 undef = y 5 := rfl
      show resultsA Try.prog Try.f57.results.toList (mkF 89 y) g = _
      rw [hr]
      simp only [resultsA, List.mapM_cons, List.mapM_nil, resultA, h4, h5, y4, y5]
      rfl
    · refine .inr ⟨hst, y 7, g, ?_, hold, hown⟩
      simp -implicitDefEqProofs only [endL_exit, b57_9, if_true, t57k57_7_eq]
      unfold t57k57_7
      simp -implicitDefEqProofs only [y8, thenV_some]
  rcases key _ rfl with ⟨h3, h', h4, h5⟩ | ⟨h3, v, h', h4, h5, h6⟩
  · exact .inl ⟨h3, h', CD_body is57 rfl h4, h5⟩
  · exact .inr ⟨h3, v, h', CD_body is57 rfl h4, h5, h6⟩

/-- Whether a journal is live. -/
def Jn.live (J : Jn) (D : Dk) : Bool := !D.down && (D.turn == J.turn)
theorem eql38 (b o : Nat) : bin Try.prog .eql 38 (ptr b o) (.pointer none) = some (.bool false) := by kernel_rfl
theorem is58 : IsFn Try.prog 58 Try.f58 := ⟨by kernel_rfl, by kernel_rfl, by kernel_rfl, by kernel_rfl⟩
theorem r58 {h : Heap} {d j : Nat} {D : Dk} {J : Jn} (x : IsDk h d D) (xj : IsJn h j d J) : CD 58 [ptr j 0] h = some (.int .i64 (if J.live D then 0 else 9), h) := by
  refine CD_body is58 rfl ((t58_eq _ _ _).trans ?_)
  unfold t58 Jn.live
  simp -implicitDefEqProofs only [thenV_some, eql38, pu_some, nilCheck_ptr, addP_ptr, Nat.zero_add, xj.l0, x.l1, bOf_bool]
  cases D.down with
  | true => rfl
  | false =>
    have hne : bin Try.prog .neq 3 (.int .i64 D.turn) (.int .i64 J.turn) = some (.bool (D.turn != J.turn)) := bin_neq ..
    simp -implicitDefEqProofs only [beq_self_eq_true, guardK_true, thenV_some, pu_some, nilCheck_ptr, addP_ptr, Nat.zero_add, xj.l0, x.l5, xj.l1, hne, Bool.false_eq_true, if_false, Bool.not_false, Bool.true_and, bne]
    cases (D.turn == J.turn) <;> rfl
theorem is22 : IsFn Try.prog 22 Try.f22 := ⟨by kernel_rfl, by kernel_rfl, by kernel_rfl, by kernel_rfl⟩
theorem is26 : IsFn Try.prog 26 Try.f26 := ⟨by kernel_rfl, by kernel_rfl, by kernel_rfl, by kernel_rfl⟩
theorem is28 : IsFn Try.prog 28 Try.f28 := ⟨by kernel_rfl, by kernel_rfl, by kernel_rfl, by kernel_rfl⟩
theorem r22 {h : Heap} {d j : Nat} {D : Dk} {J : Jn} (x : IsDk h d D) (xj : IsJn h j d J) (h2 : 2 ≤ D.n) : CD 22 [ptr j 0] h = some (i64n (if J.live D then D.ar else 0), h) := by
  refine CD_body is22 rfl ((t22_eq _ _ _).trans ?_)
  unfold t22
  simp -implicitDefEqProofs only [thenV_some, r58 x xj, pu_some, bin28n0]
  cases J.live D with
  | true => simp -implicitDefEqProofs only [if_true, bne_self_eq_false, thenV_some, nilCheck_ptr, pu_some, addP_ptr, Nat.zero_add, xj.l0, r55 x h2]
  | false => rfl
/-- The free blocks. -/
def Jn.free (J : Jn) (D : Dk) : Nat := if J.live D && J.ready then D.ar - J.fin else 0
theorem chk_at {o : Out} {v : Value} {q : Heap} (h : o = some (v, q)) (hv : veq v v = true) : chkR true o v = true := by
  unfold chkR Abs.same
  rw [h]
  simpa using hv
theorem r26 {h : Heap} {d j : Nat} {D : Dk} {J : Jn} (x : IsDk h d D) (xj : IsJn h j d J) (h2 : 2 ≤ D.n) (hf : J.ready = true → J.fin ≤ D.ar) : CD 26 [ptr j 0] h = some (i64n (J.free D), h) := by
  refine CD_body is26 rfl ((t26_eq _ _ _).trans ?_)
  have hsm := x.small
  have har : D.ar = (D.n - 2) / 2 := rfl
  unfold t26 Jn.free
  simp -implicitDefEqProofs only [thenV_some, r58 x xj, pu_some, bin28n0, bOf_bool]
  cases J.live D with
  | false => rfl
  | true =>
    simp -implicitDefEqProofs only [if_true, bne_self_eq_false, beq_self_eq_true, guardK_true, thenV_some, nilCheck_ptr, pu_some, addP_ptr, Nat.zero_add, xj.l6, unA_not, Bool.false_eq_true, if_false, Bool.true_and]
    cases hr : J.ready with
    | false => rfl
    | true =>
      simp -implicitDefEqProofs only [Bool.not_true, thenV_some, nilCheck_ptr, pu_some, addP_ptr, Nat.zero_add, xj.l0, r55 x h2, xj.l7, sub3 (hf hr) (show D.ar ≤ 9223372036854775807 by omega), chk_at (rfl : some (i64n J.fin, h) = some (i64n J.fin, h)) (show veq (i64n J.fin) (i64n J.fin) = true by simp [i64n, veq]), Bool.and_true, if_true]
def Jn.base (J : Jn) (D : Dk) : Nat := if J.live D && decide (0 ≤ J.slot) then 2 + J.area * D.ar else 0
/-- ReadAt: what it answers of a position. -/
def Jn.stands (J : Jn) (D : Dk) (at_ : Int) : Bool := decide (0 ≤ J.slot) && decide (0 ≤ at_) && decide (at_ < (D.ar : Int)) && D.stands J.area J.gen at_.toNat
theorem Dk.stands_pos {D : Dk} {area gen at_ : Nat} (h : D.stands area gen at_ = true) : 1 ≤ D.parts area at_ ∧ at_ + D.parts area at_ ≤ D.ar := by
  unfold Dk.stands at h
  simp only [Bool.and_eq_true, decide_eq_true_eq] at h
  exact ⟨h.1.2, h.1.1⟩
theorem r28_yes {h : Heap} {d j : Nat} {D : Dk} {J : Jn} (x : IsDk h d D) (xj : IsJn h j d J) (h2 : 2 ≤ D.n) {at_ : Nat} (hl : J.live D = true) (hs : J.stands D at_ = true) :
    ∃ v h', CD 28 [ptr j 0, i64n at_] h = some (.tuple #[v, .int .i64 0], h') ∧ Old h h' ∧ OwnB h' h.next v (D.data J.area at_ (D.parts J.area at_)) := by
  unfold Jn.stands at hs
  simp only [Bool.and_eq_true, decide_eq_true_eq, Int.toNat_natCast] at hs
  rcases r57_run x xj h2 (at_ := at_) (by omega) (by omega) with ⟨h3, _⟩ | ⟨_, v, h', h3, h4, h5⟩
  · rw [h3] at hs; cases hs.2
  · refine ⟨v, h', CD_body is28 rfl ((t28_eq _ _ _ _).trans ?_), h4, h5⟩
    have hx0 : ∀ a b : Value, extractA (.tuple #[a, b]) 0 = some a := fun _ _ => rfl
    have hx1 : ∀ a b : Value, extractA (.tuple #[a, b]) 1 = some b := fun _ _ => rfl
    have hp := (Dk.stands_pos hs.2).1
    have hz : (D.parts J.area at_ == 0) = false := by
      rw [beq_eq_false_iff_ne]; omega
    unfold t28
    simp -implicitDefEqProofs only [thenV_some, r58 x xj, hl, if_true, pu_some, bin28n0, bne_self_eq_false, h3, hx0, hx1, eql3z, hz]

end Go.Proofs.Ytcmfgmhadeeieaa

namespace Go.Proofs.Ytcmfgmhadeeieaa
open Go Go.Abs

/-- A Writer that has not failed: its limit and its bytes; all that is its own lies at N or above. -/
structure IsW (h : Heap) (N w lim : Nat) (l : List Nat) : Prop where
  ex : ∃ v, h.get w = some [i64n lim, .bool false, v] ∧ OwnB h N v l ∧ baseOf v ≠ some w
  n0 : h.n0 ≤ N
  Nw : N ≤ w
  small : lim ≤ 100000
/-- All below a number is as it was. -/
abbrev Abv (N : Nat) (h h' : Heap) : Prop := Kept h h' (fun c => N ≤ c)
theorem IsW.lt {h : Heap} {N w lim : Nat} {l : List Nat} (W : IsW h N w lim l) : w < h.next := by
  obtain ⟨v, h1, _⟩ := W.ex
  exact h.lt_of_get h1
theorem OwnB.nat8 {h : Heap} {N : Nat} {v : Value} {l : List Nat} (o : OwnB h N v l) : nat8 v = none := by
  obtain ⟨a, c, rfl, _⟩ := o.bytes
  rfl
theorem OwnB.cell {h : Heap} {N : Nat} {v : Value} {l : List Nat} (o : OwnB h N v l) : v.cells = #[v] ∧ v.oneCell' = true ∧ isHole v = false := by
  obtain ⟨a, c, rfl, _⟩ := o.bytes
  exact ⟨rfl, rfl, rfl⟩

/-- Bytes are appended to what a Writer has. -/
theorem w_append {h : Heap} {N w lim : Nat} {l m : List Nat} {a : Option Addr} {n c : Nat} (W : IsW h N w lim l) (hm : sliceBytes a n h = some m) (hb : l.length + n ≤ 100000) :
    ∃ v v' g g', ld1 (ptr w 2) h = some (v, h) ∧ appendA 1 1 v (.slice a n c) h = some (v', g) ∧ stN 1 (ptr w 2) v' g = some (undef, g') ∧ IsW g' N w lim (l ++ m) ∧ Abv N h g' := by
  obtain ⟨v, h1, h2, h3⟩ := W.ex
  have hlt := W.lt
  have hNw := W.Nw
  obtain ⟨v', g, e1, e2, e3, e4⟩ := append_ownB (c := c) h2 W.n0 (by omega) hm (by omega)
  have hg := e3.getE h1 h3
  obtain ⟨c1, c2, c3⟩ := e2.cell
  have n0g : g.n0 ≤ w := by rw [e3.n0]; have := W.n0; omega
  have hst : stN 1 (ptr w 2) v' g = some (undef, g.set w [i64n lim, .bool false, v']) := stN1_at hg (by simp) n0g c1 c2
  obtain ⟨k2, k3⟩ := setPlain (k' := [i64n lim, .bool false, v']) hg n0g
  have hv' : baseOf v' ≠ some w := by
    rcases e4 with rfl | e4
    · exact h3
    · rw [e4]; intro he; cases he; omega
  refine ⟨v, v', g, _, ld1_at h1 rfl (h2.cell.2.2), e1, hst, ⟨⟨v', k3, e2.keep k2 (fun b hb hc => by subst hc; exact hv' hb), hv'⟩, ?_, hNw, W.small⟩, ?_⟩
  · rw [k2.n0, e3.n0]; exact W.n0
  · refine (e3.mono (B' := fun c => N ≤ c) ?_).trans (k2.mono (fun c _ hc => by rw [hc]; exact hNw))
    intro b _ hb
    obtain ⟨a1, c4, rfl, _, _, h7, h8⟩ := h2.bytes
    cases a1 with
    | none => cases hb
    | some y =>
      have hb : some y.block = some b := hb
      cases hb
      exact h7 y rfl

theorem is60 : IsFn Try.prog 60 Try.f60 := ⟨by kernel_rfl, by kernel_rfl, by kernel_rfl, by kernel_rfl⟩
theorem r60 (h : Heap) {lim : Nat} (hl : lim ≤ 100000) : ∃ h', CD 60 [i64n lim] h = some (ptr h.next 0, h') ∧ IsW h' h.next h.next lim [] ∧ Abv h.next h h' := by
  have hmx : minmax true (.int .i64 0) [i64n lim] = some (i64n lim) := by
    simp only [minmax, i64n, if_true]
    by_cases h0 : (lim : Int) > 0
    · rw [if_pos (by simpa using h0)]
    · have : lim = 0 := by omega
      subst this; rfl
  have hb : bldR [(.int .i64 0), (.bool false), (.slice none 0 0)] [(0, 1, i64n lim)] = some (.agg [i64n lim, .bool false, .slice none 0 0].toArray) := rfl
  refine ⟨h.alloc [i64n lim, .bool false, .slice none 0 0], CD_body is60 rfl ((t60_eq _ _ _).trans ?_), ⟨⟨.slice none 0 0, by rw [Heap.get_alloc, if_pos rfl], .nil _ _, by intro h; cases h⟩, h.n0_le_next, Nat.le_refl _, hl⟩, Kept.alloc _ _ _⟩
  unfold t60
  simp -implicitDefEqProofs only [thenV_some, hmx, pu_some, hb, box_at h [i64n lim, .bool false, .slice none 0 0] rfl]

theorem is109 : IsFn Try.prog 109 Try.f109 := ⟨by kernel_rfl, by kernel_rfl, by kernel_rfl, by kernel_rfl⟩
theorem eql110 (b o : Nat) : bin Try.prog .eql 110 (ptr b o) (.pointer none) = some (.bool false) := by kernel_rfl
theorem r109 {h : Heap} {N w lim : Nat} {l : List Nat} (W : IsW h N w lim l) {n : Nat} (hn : l.length + n ≤ lim) : ∃ h', CD 109 [ptr w 0, i64n n] h = some (.bool true, h') ∧ IsW h' N w lim l ∧ Abv N h h' := by
  obtain ⟨v, h1, h2, h3⟩ := W.ex
  obtain ⟨a, c, hv, h4, h5, h6, h7⟩ := h2.bytes
  have hNw := W.Nw
  have n0w : h.n0 ≤ w := by have := W.n0; omega
  have l0 : ld1 (ptr w 0) h = some (i64n lim, h) := ld1_at h1 rfl
  have l1 : ld1 (ptr w 1) h = some (.bool false, h) := ld1_at h1 rfl
  have l2 : ld1 (ptr w 2) h = some (.slice a l.length c, h) := by rw [← hv]; exact ld1_at h1 rfl (h2.cell.2.2)
  have hst : stN 1 (ptr w 1) (.bool false) h = some (undef, h.set w [i64n lim, .bool false, v]) := stN1_at h1 (by simp) n0w rfl rfl
  obtain ⟨k2, k3⟩ := setPlain (k' := [i64n lim, .bool false, v]) h1 n0w
  have hsm := W.small
  have hd : (decide (lim - l.length < n)) = false := decide_eq_false (by omega)
  refine ⟨_, CD_body is109 rfl ((t109_eq _ _ _ _).trans ?_), ⟨⟨v, k3, h2.keep k2 (fun b hb hc => by subst hc; exact h3 hb), h3⟩, k2.n0 ▸ W.n0, hNw, hsm⟩, k2.mono (fun c _ hc => by rw [hc]; exact hNw)⟩
  have l1' : ld1 (ptr w 1) (h.set w [i64n lim, .bool false, v]) = some (.bool false, h.set w [i64n lim, .bool false, v]) := ld1_at k3 rfl
  unfold t109
  simp -implicitDefEqProofs only [thenV_some, eql110, pu_some, bOf_bool, beq_self_eq_true, guardK_true, nilCheck_ptr, addP_ptr, Nat.zero_add, l1, Bool.false_eq_true, if_false, l0, l2, lenL_slice]
  rw [show (Value.int .i64 (l.length : Int)) = i64n l.length from rfl]
  simp -implicitDefEqProofs only [sub3 (show l.length ≤ lim by omega) (show lim ≤ 9223372036854775807 by omega), pu_some, thenV_some, gtr3, hd, hst, nilCheck_ptr, addP_ptr, Nat.zero_add, l1', unA_not, Bool.not_false]

/-- A number in so many bytes, the highest first. -/
def beB : Nat → Nat → List Nat
  | 0, _ => []
  | n + 1, v => (v / 256 ^ n % 256) :: beB n v
theorem beB_length : ∀ n v, (beB n v).length = n
  | 0, _ => rfl
  | n + 1, v => by rw [beB, List.length_cons, beB_length]
theorem beB_byte : ∀ n v, ∀ x ∈ beB n v, x < 256
  | n + 1, v, x, h => by
    rw [beB] at h
    rcases List.mem_cons.1 h with rfl | h
    · exact Nat.mod_lt _ (by decide)
    · exact beB_byte n v x h
theorem is93 : IsFn Try.prog 93 Try.f93 := ⟨by kernel_rfl, by kernel_rfl, by kernel_rfl, by kernel_rfl⟩
theorem bsl1 (h : Heap) (x : Nat) : bslR 1 (.int .u8 0) 1 [(0, u8 x)] h = some (.slice (some ⟨h.next, 0, none⟩) 1 1, h.alloc [u8 x]) := rfl
theorem bytes1 (h : Heap) {x : Nat} (hx : x < 256) : sliceBytes (some ⟨h.next, 0, none⟩) 1 (h.alloc [u8 x]) = some [x] := by
  have := sliceBytes_at (h := h.alloc [u8 x]) (b := h.next) (off := 0) (n := 1) (s := none) (l := [x]) (by rw [Heap.get_alloc, if_pos rfl]; rfl) (by simp) (by simpa using hx)
  rw [this]; rfl
theorem IsW.alloc {h : Heap} {N w lim : Nat} {l : List Nat} (W : IsW h N w lim l) (k : Blk) : IsW (h.alloc k) N w lim l := by
  obtain ⟨v, h1, h2, h3⟩ := W.ex
  have ka : Kept h (h.alloc k) (fun _ => False) := Kept.alloc _ _ _
  exact ⟨⟨v, ka.getE h1 (fun h => h), h2.keep ka (fun _ _ h => h), h3⟩, W.n0, W.Nw, W.small⟩

theorem r93 {h : Heap} {N w lim : Nat} {l : List Nat} (W : IsW h N w lim l) {v n : Nat} (h1n : 1 ≤ n) (hn : n ≤ 8) (hfit : l.length + n ≤ lim) (_hv : v < 18446744073709551616) :
    ∃ h', CD 93 [ptr w 0, .int .u64 v, i64n n] h = some (.tuple #[], h') ∧ IsW h' N w lim (l ++ beB n v) ∧ Abv N h h' := by
  obtain ⟨h1, e1, W1, k1⟩ := r109 W hfit
  have hsm := W.small
  have key : Fin 30 (fun ex y g => ex = .exit 0 ∧ IsW g N w lim (l ++ beB n v) ∧ Abv N h g)
      (iter (codeA Try.prog CD (partOf Try.f93 [1, 0, 1, 0, 0])) rounds (mkF 30 (up (bs [ptr w 0, .int .u64 v, i64n n]) [(6, i64n (n - 1)), (7, ptr w 0), (8, i64n n), (9, .bool true), (10, i64n n), (11, i64n (n - 1))])) h1) := by
    refine loop_fin (t93l93_1010_eq CD) (Inv := fun k y g => k ≤ n ∧ y 0 = ptr w 0 ∧ y 1 = .int .u64 v ∧ y 6 = .int .i64 ((k : Int) - 1) ∧ Abv N h g ∧ ∃ cur, IsW g N w lim cur ∧ cur ++ beB k v = l ++ beB n v) ?_ n (by have : rounds = 18446744073709551616 := rfl; omega)
      ⟨Nat.le_refl _, rfl, rfl, by show i64n (n - 1) = _; unfold i64n; exact congrArg _ (by omega), k1, l, W1, rfl⟩
    rintro k y g ⟨hk, i0, i1, i6, hkept, cur, Wc, hcur⟩
    have hclen : cur.length + k = l.length + n := by
      have := congrArg List.length hcur
      simpa [beB_length] using this
    unfold t93l93_1010
    simp -implicitDefEqProofs only [i6, thenV_some, bin_geq, pu_some]
    by_cases hz : k = 0
    · subst hz
      have hd : decide ((((0 : Nat) : Int) - 1) ≥ 0) = false := by decide
      simp -implicitDefEqProofs only [hd]
      refine Rnd.out 0 ⟨rfl, ?_, hkept⟩
      have : cur = l ++ beB n v := by simpa [beB] using hcur
      rw [← this]; exact Wc
    · obtain ⟨q, rfl⟩ : ∃ q, k = q + 1 := ⟨k - 1, by omega⟩
      have hd : decide ((((q + 1 : Nat) : Int) - 1) ≥ 0) = true := decide_eq_true (by omega)
      have hm8 : bin Try.prog .mul 3 (.int .i64 8) (.int .i64 (((q + 1 : Nat) : Int) - 1)) = some (.int .i64 ((8 * q : Nat) : Int)) := by
        rw [bin_mul, wrap_i64 (by omega) (by omega)]
        exact congrArg (fun z => some (Value.int .i64 z)) (by omega)
      have hsh : bin Try.prog .shr 58 (.int .u64 (v : Int)) (.int .i64 ((8 * q : Nat) : Int)) = some (.int .u64 ((v / 256 ^ q : Nat) : Int)) := by
        rw [bin_shr_nat Try.prog 58 (k := .u64) (k' := .i64) (b := 8 * q) (by show 8 * q ≤ 64; omega)]
        rw [show (2 : Nat) ^ (8 * q) = 256 ^ q by rw [Nat.pow_mul]]
      have hcv : IntKind.wrap .u8 ((v / 256 ^ q : Nat) : Int) = ((v / 256 ^ q % 256 : Nat) : Int) := by
        rw [wrap_u8_mod]; omega
      have hlt8 : v / 256 ^ q % 256 < 256 := Nat.mod_lt _ (by decide)
      generalize hx : v / 256 ^ q % 256 = x at *
      obtain ⟨v1, v2, g1, g2, f1, f2, f3, f4, f5⟩ := w_append (c := 1) (Wc.alloc [u8 x]) (bytes1 g hlt8) (by omega)
      have hl2 : ld1 (ptr w 2) g = some (v1, g) := by
        obtain ⟨vv, q1, q2, q3⟩ := Wc.ex
        have e1 : ld1 (ptr w 2) g = some (vv, g) := ld1_at q1 rfl (q2.cell.2.2)
        have e2 : ld1 (ptr w 2) (g.alloc [u8 x]) = some (vv, g.alloc [u8 x]) := ld1_at (Heap.get_alloc_some q1 _) rfl (q2.cell.2.2)
        rw [e2] at f1
        simp only [Option.some.injEq, Prod.mk.injEq, and_true] at f1
        rw [← f1]; exact e1
      have hsub : bin Try.prog .sub 3 (.int .i64 (((q + 1 : Nat) : Int) - 1)) (.int .i64 1) = some (.int .i64 ((q : Int) - 1)) := by
        rw [bin_sub, wrap_i64 (by omega) (by omega)]
        exact congrArg (fun z => some (Value.int .i64 z)) (by omega)
      simp -implicitDefEqProofs only [hd, i0, i1, thenV_some, pu_some, nilCheck_ptr, addP_ptr, Nat.zero_add, hl2, hm8, hsh, cvI_int, hcv]
      rw [show (Value.int .u8 (x : Int)) = u8 x from rfl, bsl1]
      simp -implicitDefEqProofs only [thenV_some, f2, pu_some, nilCheck_ptr, addP_ptr, Nat.zero_add, f3, hsub]
      refine Rnd.next q (by omega) ⟨by omega, i0, i1, rfl, ?_, cur ++ [x], f4, ?_⟩
      · exact (hkept.trans (Kept.alloc g _ _)).trans f5
      · rw [← hcur, beB, hx, List.append_assoc]; rfl
  obtain ⟨ex, y, g, q1, rfl, q2, q3⟩ := key
  refine ⟨g, CD_body is93 rfl ((t93_eq _ _ _ _ _).trans ?_), q2, q3⟩
  unfold t93
  have hs1 : bin Try.prog .sub 3 (i64n n) (.int .i64 1) = some (i64n (n - 1)) := sub3 (b := 1) h1n (by omega)
  simp -implicitDefEqProofs only [thenV_some, e1, hs1, pu_some]
  rw [q1]
  simp -implicitDefEqProofs only [endL_exit, b93_2, if_true]
  have hr : Try.f93.results.toList = [] := by kernel_rfl
  rw [hr]; rfl

end Go.Proofs.Ytcmfgmhadeeieaa

namespace Go.Proofs.Ytcmfgmhadeeieaa
open Go Go.Abs

theorem is61 : IsFn Try.prog 61 Try.f61 := ⟨by kernel_rfl, by kernel_rfl, by kernel_rfl, by kernel_rfl⟩
theorem is62 : IsFn Try.prog 62 Try.f62 := ⟨by kernel_rfl, by kernel_rfl, by kernel_rfl, by kernel_rfl⟩
theorem is63 : IsFn Try.prog 63 Try.f63 := ⟨by kernel_rfl, by kernel_rfl, by kernel_rfl, by kernel_rfl⟩
theorem is91 : IsFn Try.prog 91 Try.f91 := ⟨by kernel_rfl, by kernel_rfl, by kernel_rfl, by kernel_rfl⟩
theorem is92 : IsFn Try.prog 92 Try.f92 := ⟨by kernel_rfl, by kernel_rfl, by kernel_rfl, by kernel_rfl⟩
theorem is94 : IsFn Try.prog 94 Try.f94 := ⟨by kernel_rfl, by kernel_rfl, by kernel_rfl, by kernel_rfl⟩
theorem is64 : IsFn Try.prog 64 Try.f64 := ⟨by kernel_rfl, by kernel_rfl, by kernel_rfl, by kernel_rfl⟩

section
variable {h : Heap} {N w lim : Nat} {l : List Nat} (W : IsW h N w lim l)
include W
theorem r61 {v : Nat} (hfit : l.length + 4 ≤ lim) (hv : v < 4294967296) : ∃ h', CD 61 [ptr w 0, .int .u32 v] h = some (.tuple #[], h') ∧ IsW h' N w lim (l ++ beB 4 v) ∧ Abv N h h' := by
  obtain ⟨h1, e1, e2, e3⟩ := r93 W (v := v) (n := 4) (by decide) (by decide) hfit (by omega)
  have e1 : CD 93 [ptr w 0, .int .u64 v, .int .i64 4] h = _ := e1
  have hw : IntKind.wrap .u64 (v : Int) = (v : Int) := wrap_u64 (by omega) (by omega)
  refine ⟨h1, CD_body is61 rfl ((t61_eq _ _ _ _).trans ?_), e2, e3⟩
  unfold t61
  simp -implicitDefEqProofs only [thenV_some, cvI_int, hw, e1]
theorem r62 {v : Nat} (hfit : l.length + 8 ≤ lim) (hv : v < 18446744073709551616) : ∃ h', CD 62 [ptr w 0, .int .u64 v] h = some (.tuple #[], h') ∧ IsW h' N w lim (l ++ beB 8 v) ∧ Abv N h h' := by
  obtain ⟨h1, e1, e2, e3⟩ := r93 W (v := v) (n := 8) (by decide) (by decide) hfit (by omega)
  have e1 : CD 93 [ptr w 0, .int .u64 v, .int .i64 8] h = _ := e1
  refine ⟨h1, CD_body is62 rfl ((t62_eq _ _ _ _).trans ?_), e2, e3⟩
  unfold t62
  simp -implicitDefEqProofs only [thenV_some, e1]
theorem r63 {v : Nat} (hfit : l.length + 1 ≤ lim) (hv : v < 256) : ∃ h', CD 63 [ptr w 0, .int .u8 v] h = some (.tuple #[], h') ∧ IsW h' N w lim (l ++ beB 1 v) ∧ Abv N h h' := by
  obtain ⟨h1, e1, e2, e3⟩ := r93 W (v := v) (n := 1) (by decide) (by decide) hfit (by omega)
  have e1 : CD 93 [ptr w 0, .int .u64 v, .int .i64 1] h = _ := e1
  have hw : IntKind.wrap .u64 (v : Int) = (v : Int) := wrap_u64 (by omega) (by omega)
  refine ⟨h1, CD_body is63 rfl ((t63_eq _ _ _ _).trans ?_), e2, e3⟩
  unfold t63
  simp -implicitDefEqProofs only [thenV_some, cvI_int, hw, e1]
theorem r91 {v : Nat} (hfit : l.length + 2 ≤ lim) (hv : v < 65536) : ∃ h', CD 91 [ptr w 0, .int .u16 v] h = some (.tuple #[], h') ∧ IsW h' N w lim (l ++ beB 2 v) ∧ Abv N h h' := by
  obtain ⟨h1, e1, e2, e3⟩ := r93 W (v := v) (n := 2) (by decide) (by decide) hfit (by omega)
  have e1 : CD 93 [ptr w 0, .int .u64 v, .int .i64 2] h = _ := e1
  have hw : IntKind.wrap .u64 (v : Int) = (v : Int) := wrap_u64 (by omega) (by omega)
  refine ⟨h1, CD_body is91 rfl ((t91_eq _ _ _ _).trans ?_), e2, e3⟩
  unfold t91
  simp -implicitDefEqProofs only [thenV_some, cvI_int, hw, e1]
theorem IsW.l2' {k : Blk} {v : Value} (e : ld1 (ptr w 2) (h.alloc k) = some (v, h.alloc k)) : ld1 (ptr w 2) h = some (v, h) := by
  obtain ⟨vv, q1, q2, q3⟩ := W.ex
  have e1 : ld1 (ptr w 2) h = some (vv, h) := ld1_at q1 rfl (q2.cell.2.2)
  have e2 : ld1 (ptr w 2) (h.alloc k) = some (vv, h.alloc k) := ld1_at (Heap.get_alloc_some q1 _) rfl (q2.cell.2.2)
  rw [e2] at e
  simp only [Option.some.injEq, Prod.mk.injEq, and_true] at e
  rw [← e]; exact e1
/-- Text: a length of two bytes, and the bytes. -/
theorem r92 {a : Option Addr} {n c : Nat} {m : List Nat} (hm : sliceBytes a n h = some m) (ha : ∀ y, a = some y → 0 < n → y.block < N) (hfit : l.length + (n + 2) ≤ lim) (hn : n < 65536) :
    ∃ h', CD 92 [ptr w 0, .slice a n c] h = some (.tuple #[], h') ∧ IsW h' N w lim (l ++ beB 2 n ++ m) ∧ Abv N h h' := by
  obtain ⟨h1, e1, W1, k1⟩ := r109 W (n := n + 2) hfit
  have hsm := W.small
  have c1 : (65535 : Int) = ((65535 : Nat) : Int) := rfl
  have hgt : bin Try.prog .gtr 3 (i64n n) (.int .i64 65535) = some (.bool false) := by
    have := gtr3 n 65535
    rw [decide_eq_false (by omega)] at this
    exact this
  have hadd : bin Try.prog .add 3 (i64n n) (.int .i64 2) = some (i64n (n + 2)) := add3 (b := 2) (by omega)
  have hsh : bin Try.prog .shr 3 (i64n n) (.int .u64 8) = some (i64n (n / 256)) := bin_shr_nat Try.prog 3 (k := .i64) (k' := .u64) (a := n) (b := 8) (by decide)
  have hw1 : IntKind.wrap .u8 ((n / 256 : Nat) : Int) = ((n / 256 : Nat) : Int) := wrap_u8 (by omega) (by omega)
  have hw2 : IntKind.wrap .u8 ((n : Nat) : Int) = ((n % 256 : Nat) : Int) := by rw [wrap_u8_mod]; omega
  have hbs : bslR 1 (.int .u8 0) 2 [(0, u8 (n / 256)), (1, u8 (n % 256))] h1 = some (.slice (some ⟨h1.next, 0, none⟩) 2 2, h1.alloc ([n / 256, n % 256].map u8)) := rfl
  have hb2 : sliceBytes (some ⟨h1.next, 0, none⟩) 2 (h1.alloc ([n / 256, n % 256].map u8)) = some [n / 256, n % 256] := by
    have := sliceBytes_at (h := h1.alloc ([n / 256, n % 256].map u8)) (b := h1.next) (off := 0) (n := 2) (s := none) (l := [n / 256, n % 256]) (by rw [Heap.get_alloc, if_pos rfl]) (by simp) (by
      intro x hx
      simp only [List.mem_cons, List.not_mem_nil, or_false] at hx
      rcases hx with rfl | rfl <;> omega)
    rw [this]; rfl
  obtain ⟨v1, v2, g1, g2, f1, f2, f3, f4, f5⟩ := w_append (c := 2) (W1.alloc ([n / 256, n % 256].map u8)) hb2 (by omega)
  have hl2 := W1.l2' f1
  have k2 : Abv N h g2 := (k1.trans (Kept.alloc h1 _ _)).trans f5
  have hm2 : sliceBytes a n g2 = some m := k2.bytes hm (fun y hy hn2 => by have := ha y hy hn2; omega)
  obtain ⟨v3, v4, g3, g4, p1, p2, p3, p4, p5⟩ := w_append (c := c) f4 hm2 (by simp only [List.length_append, List.length_cons, List.length_nil]; omega)
  have hbe : beB 2 n = [n / 256, n % 256] := by
    simp only [beB, Nat.pow_one, Nat.pow_zero, Nat.div_one]
    rw [Nat.mod_eq_of_lt (show n / 256 < 256 by omega)]
  refine ⟨g4, CD_body is92 rfl ((t92_eq _ _ _ _).trans ?_), by rw [hbe]; exact p4, k2.trans p5⟩
  unfold t92
  simp -implicitDefEqProofs only [thenV_some, eql110, pu_some, lenL_slice]
  rw [show (Value.int .i64 (n : Int)) = i64n n from rfl]
  simp -implicitDefEqProofs only [hgt, hadd, pu_some, thenV_some, e1, nilCheck_ptr, addP_ptr, Nat.zero_add, hl2, hsh]
  simp -implicitDefEqProofs only [i64n, cvI_int, hw1, hw2, thenV_some]
  rw [show (Value.int .u8 ((n / 256 : Nat) : Int)) = u8 (n / 256) from rfl, show (Value.int .u8 ((n % 256 : Nat) : Int)) = u8 (n % 256) from rfl, hbs]
  simp -implicitDefEqProofs only [thenV_some, f2, pu_some, nilCheck_ptr, addP_ptr, Nat.zero_add, f3, p1, p2, p3]
/-- Bytes: a copy of what was written. -/
theorem r94 (hl : l.length ≤ 21000) : ∃ a c h', CD 94 [ptr w 0] h = some (.tuple #[.slice a l.length c, .int .i64 0], h') ∧ sliceBytes a l.length h' = some l ∧ goodS a l.length c = true ∧ Old h h' ∧ (∀ y, a = some y → h.next ≤ y.block) := by
  obtain ⟨v, h1, h2, h3⟩ := W.ex
  obtain ⟨a, c, hv, h4, h5, h6, h7⟩ := h2.bytes
  obtain ⟨a', c', h', e1, e2, e3, e4, e5, _⟩ := r107 (c := c) h4 hl
  have l1 : ld1 (ptr w 1) h = some (.bool false, h) := ld1_at h1 rfl
  have l2 : ld1 (ptr w 2) h = some (.slice a l.length c, h) := by rw [← hv]; exact ld1_at h1 rfl (h2.cell.2.2)
  refine ⟨a', c', h', CD_body is94 rfl ((t94_eq _ _ _).trans ?_), e2, e3, e4, e5⟩
  unfold t94
  simp -implicitDefEqProofs only [thenV_some, eql110, pu_some, nilCheck_ptr, addP_ptr, Nat.zero_add, l1, l2, e1]
end

/-- A sealed block. -/
def sealB (l : List Nat) : List Nat := beB 4 (crcN (l ++ List.replicate (124 - l.length) 0)) ++ (l ++ List.replicate (124 - l.length) 0)
theorem sealB_length {l : List Nat} (hl : l.length ≤ 124) : (sealB l).length = 128 := by
  simp only [sealB, List.length_append, beB_length, List.length_replicate]; omega
theorem sealB_byte {l : List Nat} (hb : ∀ x ∈ l, x < 256) : ∀ x ∈ sealB l, x < 256 := by
  intro x hx
  simp only [sealB, List.mem_append] at hx
  rcases hx with hx | hx | hx
  · exact beB_byte _ _ x hx
  · exact hb x hx
  · rw [List.eq_of_mem_replicate hx]; decide
theorem crcN_lt {l : List Nat} (hb : ∀ x ∈ l, x < 256) : crcN l < 4294967296 := by
  unfold crcN
  exact Nat.xor_lt_two_pow (n := 32) (by decide) (crcFold_lt l 4294967295 (by decide) hb)

theorem r64 {h : Heap} {N w lim : Nat} {l : List Nat} (W : IsW h N w lim l) (hl : l.length ≤ 124) :
    ∃ B h', CD 64 [ptr w 0] h = some (.slice (some ⟨B, 0, none⟩) 128 128, h') ∧ sliceBytes (some ⟨B, 0, none⟩) 128 h' = some (sealB l) ∧ Old h h' ∧ h.next ≤ B := by
  obtain ⟨a, c, h1, e1, e2, e3, e4, e5⟩ := r94 W (by omega)
  have hb := (sliceBytes_spec e2).2.1
  have hmk := mk1 (h := h1) (n := 128) (c := 128) (Nat.le_refl _) (by decide)
  have hg2 : (h1.alloc ((List.replicate 128 0).map u8)).get h1.next = some ((List.replicate 128 0).map u8) := by rw [Heap.get_alloc, if_pos rfl]
  have n02 : (h1.alloc ((List.replicate 128 0).map u8)).n0 ≤ h1.next := h1.n0_le_next
  have kA : Old h1 (h1.alloc ((List.replicate 128 0).map u8)) := Kept.alloc _ _ _
  have s2 := Old.bytes kA e2
  have oA : Old h (h1.alloc ((List.replicate 128 0).map u8)) := e4.trans kA
  generalize hB : h1.next = B at *
  generalize hh2 : h1.alloc ((List.replicate 128 0).map u8) = h2 at *
  have hB2 : h.next ≤ B := by rw [← hB]; exact e4.next
  -- the bytes are copied
  have hmin : min l.length 124 = l.length := by omega
  obtain ⟨h3, q1, q2, q3, q4, q5⟩ := copy_bytes (b := B) (off := 4) (dl := 124) (dc := 124) (s := none) (c := c) hg2 n02 s2 (by simp; omega)
  generalize hR : l ++ List.replicate (124 - l.length) 0 = R at *
  have hRl : R.length = 124 := by rw [← hR]; simp; omega
  have hRb : ∀ x ∈ R, x < 256 := by
    intro x hx
    rw [← hR] at hx
    rcases List.mem_append.1 hx with hx | hx
    · exact hb x hx
    · rw [List.eq_of_mem_replicate hx]; decide
  have hsp : spliceN (List.replicate 128 0) 4 (l.take (min l.length 124)) = 0 :: 0 :: 0 :: 0 :: R := by
    rw [hmin, List.take_length]
    unfold spliceN
    rw [← hR, List.take_replicate, List.drop_replicate]
    show List.replicate 4 0 ++ l ++ List.replicate (128 - (4 + l.length)) 0 = [0, 0, 0, 0] ++ (l ++ List.replicate (124 - l.length) 0)
    rw [List.append_assoc, show 128 - (4 + l.length) = 124 - l.length by omega]; rfl
  rw [hsp] at q4
  have hs3 : sliceBytes (some ⟨B, 4, none⟩) 124 h3 = some R := by
    have := sliceBytes_at (off := 4) (n := 124) (s := none) q4 (by simp [hRl]) (by
      intro x hx
      simp only [List.mem_cons] at hx
      rcases hx with rfl | rfl | rfl | rfl | hx
      · decide
      · decide
      · decide
      · decide
      · exact hRb x hx)
    rw [this]
    exact congrArg some (List.take_of_length_le (by show R.length ≤ 124; omega))
  have hcrc : CD 95 [.slice (some ⟨B, 4, none⟩) 124 124] h3 = some (u32 (crcN R), h3) := by
    refine CD_known ?_
    rw [X95]
    unfold s95
    simp only [hs3]
    rfl
  have hcl := crcN_lt hRb
  have hseal : sealB l = beB 4 (crcN R) ++ R := by unfold sealB; rw [hR]
  generalize hC : crcN R = cr at *
  have n03 : h3.n0 ≤ B := by rw [q2]; exact n02
  have p0 := st_byte (v := cr / 16777216 % 256) (o := 0) q4 (by simp) n03
  have g0 := Heap.get_set_same n03 q4 (((0 :: 0 :: 0 :: 0 :: R).set 0 (cr / 16777216 % 256)).map u8)
  generalize hh4 : h3.set B (((0 :: 0 :: 0 :: 0 :: R).set 0 (cr / 16777216 % 256)).map u8) = h4 at *
  have n04 : h4.n0 ≤ B := by rw [← hh4]; exact n03
  have p1 := st_byte (v := cr / 65536 % 256) (o := 1) g0 (by simp) n04
  have g1 := Heap.get_set_same n04 g0 ((((0 :: 0 :: 0 :: 0 :: R).set 0 (cr / 16777216 % 256)).set 1 (cr / 65536 % 256)).map u8)
  generalize hh5 : h4.set B ((((0 :: 0 :: 0 :: 0 :: R).set 0 (cr / 16777216 % 256)).set 1 (cr / 65536 % 256)).map u8) = h5 at *
  have n05 : h5.n0 ≤ B := by rw [← hh5]; exact n04
  have p2 := st_byte (v := cr / 256 % 256) (o := 2) g1 (by simp) n05
  have g2 := Heap.get_set_same n05 g1 (((((0 :: 0 :: 0 :: 0 :: R).set 0 (cr / 16777216 % 256)).set 1 (cr / 65536 % 256)).set 2 (cr / 256 % 256)).map u8)
  generalize hh6 : h5.set B (((((0 :: 0 :: 0 :: 0 :: R).set 0 (cr / 16777216 % 256)).set 1 (cr / 65536 % 256)).set 2 (cr / 256 % 256)).map u8) = h6 at *
  have n06 : h6.n0 ≤ B := by rw [← hh6]; exact n05
  have p3 := st_byte (v := cr % 256) (o := 3) g2 (by simp) n06
  have g3 := Heap.get_set_same n06 g2 ((((((0 :: 0 :: 0 :: 0 :: R).set 0 (cr / 16777216 % 256)).set 1 (cr / 65536 % 256)).set 2 (cr / 256 % 256)).set 3 (cr % 256)).map u8)
  have hfin : ((((0 :: 0 :: 0 :: 0 :: R).set 0 (cr / 16777216 % 256)).set 1 (cr / 65536 % 256)).set 2 (cr / 256 % 256)).set 3 (cr % 256) = sealB l := by
    rw [hseal]
    simp only [beB, Nat.pow_zero, Nat.div_one]
    rfl
  rw [hfin] at p3 g3
  have hslb := sealB_byte hb
  have hsll := sealB_length hl
  generalize hh7 : h6.set B ((sealB l).map u8) = h7 at *
  refine ⟨B, h7, CD_body is64 rfl ((t64_eq _ _ _).trans ?_), ?_, ?_, hB2⟩
  · have hx0 : ∀ a b : Value, extractA (.tuple #[a, b]) 0 = some a := fun _ _ => rfl
    have hx1 : ∀ a b : Value, extractA (.tuple #[a, b]) 1 = some b := fun _ _ => rfl
    have hmk' : mkR 1 1 (.int .u8 0) (.int .i64 128) (.int .i64 128) h1 = _ := hmk
    have hsl : slR 1 (.slice (some ⟨B, 0, none⟩) 128 128) (some (.int .i64 4)) none none = some (.slice (some ⟨B, 4, none⟩) 124 124) := rfl
    have s24 : bin Try.prog .shr 113 (u32 cr) (.int .u64 24) = some (u32 (cr / 16777216)) := bin_shr_nat Try.prog 113 (k := .u32) (k' := .u64) (a := cr) (b := 24) (by decide)
    have s16 : bin Try.prog .shr 113 (u32 cr) (.int .u64 16) = some (u32 (cr / 65536)) := bin_shr_nat Try.prog 113 (k := .u32) (k' := .u64) (a := cr) (b := 16) (by decide)
    have s8 : bin Try.prog .shr 113 (u32 cr) (.int .u64 8) = some (u32 (cr / 256)) := bin_shr_nat Try.prog 113 (k := .u32) (k' := .u64) (a := cr) (b := 8) (by decide)
    have cv : ∀ (z : Nat) (g : Heap), cvI .u8 (u32 z) g = some (u8 (z % 256), g) := by
      intro z g
      rw [show u32 z = Value.int .u32 (z : Int) from rfl, cvI_int, wrap_u8_mod, show u8 (z % 256) = Value.int .u8 ((z % 256 : Nat) : Int) from rfl]
      exact congrArg (fun q => some (Value.int .u8 q, g)) (by omega)
    have i0 : idxS 1 (.slice (some ⟨B, 0, none⟩) 128 128) (.int .i64 0) = some (ptr B 0) := rfl
    have i1 : idxS 1 (.slice (some ⟨B, 0, none⟩) 128 128) (.int .i64 1) = some (ptr B 1) := rfl
    have i2 : idxS 1 (.slice (some ⟨B, 0, none⟩) 128 128) (.int .i64 2) = some (ptr B 2) := rfl
    have i3 : idxS 1 (.slice (some ⟨B, 0, none⟩) 128 128) (.int .i64 3) = some (ptr B 3) := rfl
    unfold t64
    simp -implicitDefEqProofs only [thenV_some, e1, hx0, hx1, pu_some, hmk', hsl, q1, hcrc, s24, s16, s8, cv, i0, i1, i2, i3, p0, p1, p2, p3]
  · rw [sliceBytes_at (off := 0) (n := 128) (s := none) g3 (by omega) hslb, List.drop_zero, List.take_of_length_le (by omega)]
  · refine ⟨?_, ?_, ?_⟩
    · rw [← hh7, ← hh6, ← hh5, ← hh4]; exact q2.trans oA.n0
    · rw [← hh7, ← hh6, ← hh5, ← hh4]; show h.next ≤ h3.next; rw [q3]; exact oA.next
    · intro e he _
      have hne : e ≠ B := by omega
      have l3 : B < h3.next := h3.lt_of_get q4
      have l4 : B < h4.next := h4.lt_of_get g0
      have l5 : B < h5.next := h5.lt_of_get g1
      have l6 : B < h6.next := h6.lt_of_get g2
      rw [← hh7, Heap.get_set_other n06 l6 _ hne, ← hh6, Heap.get_set_other n05 l5 _ hne, ← hh5, Heap.get_set_other n04 l4 _ hne, ← hh4, Heap.get_set_other n03 l3 _ hne, q5 e hne]
      exact Kept.get oA e he (fun h => h)

end Go.Proofs.Ytcmfgmhadeeieaa

namespace Go.Proofs.Ytcmfgmhadeeieaa
open Go Go.Abs

def costN (n : Nat) : Nat := if n ≤ 106 then 1 else (n - 1) / 106 + 1
theorem cost_nat (n : Nat) : cost (n : Int) = (costN n : Nat) := by
  unfold cost costN
  by_cases h : n ≤ 106
  · rw [if_pos (by omega), if_pos h]; rfl
  · rw [if_neg (by omega), if_neg h]; omega
theorem costN_pos (n : Nat) : 1 ≤ costN n := by unfold costN; split <;> omega
theorem costN_le {n : Nat} (h : n ≤ 21000) : costN n ≤ 199 := by unfold costN; split <;> omega
theorem costN_room (n : Nat) : n ≤ 106 * costN n := by unfold costN; split <;> omega
theorem costN_tight {n i : Nat} (h : i < costN n) : 106 * i ≤ n := by unfold costN at h; split at h <;> omega

/-- A log block's bytes. -/
def logBody (gen at_ part parts : Nat) (data : List Nat) : List Nat := beB 8 gen ++ beB 4 at_ ++ beB 2 part ++ beB 2 parts ++ beB 2 data.length ++ data
def logBlk (gen at_ part parts : Nat) (data : List Nat) : List Nat := sealB (logBody gen at_ part parts data)
theorem logBody_length (gen at_ part parts : Nat) (data : List Nat) : (logBody gen at_ part parts data).length = 18 + data.length := by
  simp only [logBody, List.length_append, beB_length]
def chunk (rec_ : List Nat) (i : Nat) : List Nat := (rec_.drop (106 * i)).take 106
theorem chunk_length (rec_ : List Nat) (i : Nat) : (chunk rec_ i).length ≤ 106 := List.length_take_le ..
/-- What writing a record's blocks from the i-th one comes to. -/
def Dk.wr (area gen at_ parts : Nat) (rec_ : List Nat) : Nat → Nat → Dk → Int × Dk
  | 0, _, D => (0, D)
  | k + 1, i, D =>
    if (D.write ((2 + area * D.ar + at_ + i : Nat) : Int) (logBlk gen (at_ + i) i parts (chunk rec_ i))).1 = 0 then Dk.wr area gen at_ parts rec_ k (i + 1) (D.write ((2 + area * D.ar + at_ + i : Nat) : Int) (logBlk gen (at_ + i) i parts (chunk rec_ i))).2
    else D.write ((2 + area * D.ar + at_ + i : Nat) : Int) (logBlk gen (at_ + i) i parts (chunk rec_ i))
def Dk.wrRec (D : Dk) (area gen at_ : Nat) (rec_ : List Nat) : Int × Dk := Dk.wr area gen at_ (costN rec_.length) rec_ (costN rec_.length) 0 D

theorem dk_plain {h : Heap} {d : Nat} {D : Dk} (x : IsDk h d D) : Plain h d := ⟨_, x.hdr, by
  intro v hv
  simp only [Dk.hdr, List.mem_cons, List.not_mem_nil, or_false] at hv
  rcases hv with rfl | rfl | rfl | rfl | rfl | rfl <;> rfl⟩
theorem IsJn.ne_d {h : Heap} {j d d' : Nat} {J : Jn} {D : Dk} (xj : IsJn h j d J) (x : IsDk h d' D) : j ≠ d' := by
  rintro rfl
  have := xj.get.symm.trans x.hdr
  have := congrArg List.length (Option.some.inj this)
  simp [Jn.cells, Dk.hdr] at this
theorem IsJn.ne_bb {h : Heap} {j d d' : Nat} {J : Jn} {D : Dk} (xj : IsJn h j d J) (x : IsDk h d' D) : j ≠ D.bb := by
  intro he
  have h1 := xj.get
  rw [he, x.img] at h1
  have h2 := Option.some.inj h1
  cases hi : D.img with
  | nil => rw [hi] at h2; simp [Jn.cells] at h2
  | cons a l => rw [hi] at h2; simp [Jn.cells, ptr] at h2
/-- Only a disk is changed. -/
abbrev DkOnly (d bb : Nat) (h h' : Heap) : Prop := Kept h h' (fun c => c = d ∨ c = bb)
theorem putDk_only {h : Heap} {d : Nat} {D E : Dk} (x : IsDk h d D) (hb : E.bb = D.bb) : DkOnly d D.bb h (putDk h d E) :=
  ⟨rfl, Nat.le_refl _, fun c _ hc => by rw [putDk_get x hb, if_neg (fun e => hc (.inr (e.trans hb))), if_neg (fun e => hc (.inl e))]⟩
theorem X19 : XX 19 = s19 := rfl
theorem X15 : XX 15 = sCost := rfl
theorem r19 {h : Heap} {d : Nat} {D : Dk} (x : IsDk h d D) (i : Int) {a : Option Addr} {n c : Nat} {l : List Nat} (hl : sliceBytes a n h = some l) (hg : goodS a n c = true) :
    CD 19 [ptr d 0, .int .i64 i, .slice a n c] h = some (.int .i64 (D.write i l).1, putDk h d (D.write i l).2) ∧ IsDk (putDk h d (D.write i l).2) d (D.write i l).2 ∧ (D.write i l).2.bb = D.bb ∧ (D.write i l).2.n = D.n ∧ DkOnly d D.bb h (putDk h d (D.write i l).2) := by
  have o := Dk.write_okd x i (sliceBytes_spec hl).2.1
  exact ⟨CD_known (by rw [X19]; exact s19_at x i hl hg), x.put o, o.bb, o.n, putDk_only x o.bb⟩
theorem r15 (n : Nat) (h : Heap) (hn : n ≤ 100000000) : CD 15 [i64n n] h = some (i64n (costN n), h) := by
  refine CD_known ?_
  rw [X15, show i64n n = Value.int .i64 (n : Int) from rfl]
  unfold sCost
  have : inI64 (n : Int) = true := by unfold inI64; simp only [Bool.and_eq_true, decide_eq_true_eq]; omega
  simp only [this, if_true, cost_nat]

section
variable {h0 : Heap} {d j : Nat} {D : Dk} {J : Jn} {area gen at_ n c : Nat} {a : Option Addr} {rec_ : List Nat} (x : IsDk h0 d D) (xj : IsJn h0 j d J) (h2 : 2 ≤ D.n) (ha : area ≤ 1) (hg : gen < 18446744073709551616) (hat : at_ ≤ 10000)
  (hs : sliceBytes a n h0 = some rec_) (hgd : goodS a n c = true) (hn : n ≤ 21000) (hab : ∀ y, a = some y → 0 < n → y.block ≠ D.bb)
include x xj h2 ha hg hat hs hgd hn hab
def wrInv (h0 : Heap) (d j : Nat) (D : Dk) (area gen at_ n c : Nat) (a : Option Addr) (rec_ : List Nat) (k : Nat) (y : Nat → Value) (g : Heap) : Prop :=
  ∃ i E, y 0 = ptr j 0 ∧ y 1 = i64n area ∧ y 2 = .int .u64 gen ∧ y 3 = i64n at_ ∧ y 4 = .slice a n c ∧ y 11 = i64n (costN n) ∧ y 19 = i64n (costN n) ∧ y 20 = i64n i ∧ i + k = costN n ∧ IsDk g d E ∧ E.bb = D.bb ∧ E.n = D.n ∧ DkOnly d D.bb h0 g ∧
    Dk.wr area gen at_ (costN n) rec_ k i E = D.wrRec area gen at_ rec_
def wrFin (h0 : Heap) (d : Nat) (D : Dk) (area gen at_ : Nat) (rec_ : List Nat) (ex : Ex) (y : Nat → Value) (g : Heap) : Prop :=
  IsDk g d (D.wrRec area gen at_ rec_).2 ∧ (D.wrRec area gen at_ rec_).2.bb = D.bb ∧ (D.wrRec area gen at_ rec_).2.n = D.n ∧ DkOnly d D.bb h0 g ∧
    ((ex = .exit 0 ∧ (D.wrRec area gen at_ rec_).1 = 0) ∨ (ex = .ret ∧ y 10 = .int .i64 (D.wrRec area gen at_ rec_).1))
theorem wr_round : ∀ k y g, wrInv h0 d j D area gen at_ n c a rec_ k y g → Rnd 77 (wrInv h0 d j D area gen at_ n c a rec_) (wrFin h0 d D area gen at_ rec_) k (t59l59_11010 CD y g) := by
  rintro k y g ⟨i, E, i0, i1, i2, i3, i4, i11, i19, i20, hik, xg, hEb, hEn, hk, hw⟩
  have hrl := (sliceBytes_spec hs).1
  have hcl := costN_le hn
  have hsm := x.small
  have hEar : E.ar = D.ar := by unfold Dk.ar; rw [hEn]
  have har : D.ar = (D.n - 2) / 2 := rfl
  have hma : area * D.ar ≤ D.ar := by
    have := Nat.mul_le_mul_right D.ar ha
    omega
  have jg : IsJn g j d J := xj.keep hk (fun h => h.elim (xj.ne_d x) (xj.ne_bb x))
  unfold t59l59_11010
  simp -implicitDefEqProofs only [i19, i20, lss3, pu_some, thenV_some]
  by_cases hz : k = 0
  · subst hz
    have hii : i = costN n := by omega
    simp -implicitDefEqProofs only [decide_eq_false (show ¬ i < costN n by omega)]
    have he : D.wrRec area gen at_ rec_ = (0, E) := hw.symm
    refine Rnd.out 0 ⟨?_, ?_, ?_, hk, .inl ⟨rfl, ?_⟩⟩
    · rw [he]; exact xg
    · rw [he]; exact hEb
    · rw [he]; exact hEn
    · rw [he]
  · obtain ⟨q, rfl⟩ : ∃ q, k = q + 1 := ⟨k - 1, by omega⟩
    have hlt : i < costN n := by omega
    have htight := costN_tight hlt
    -- the chunk
    have hsg : sliceBytes a n g = some rec_ := by
      refine hk.bytes hs (fun y hy hn2 hb => ?_)
      rcases hb with hb | hb
      · obtain ⟨kk, e1, e2⟩ := dk_plain x
        exact bytes_apart hs e1 e2 y hy hn2 hb
      · exact hab y hy hn2 hb
    have hm1 : bin Try.prog .mul 3 (i64n i) (.int .i64 106) = some (i64n (i * 106)) := mul3 (b := 106) (by omega)
    have hm2 : bin Try.prog .mul 3 (i64n (i + 1)) (.int .i64 106) = some (i64n ((i + 1) * 106)) := mul3 (b := 106) (by omega)
    have hmn : minmax false (.int .i64 (n : Int)) [i64n ((i + 1) * 106)] = some (i64n (min n ((i + 1) * 106))) := by
      simp only [minmax, i64n, if_true, Bool.false_eq_true, if_false]
      by_cases hc : (((i + 1) * 106 : Nat) : Int) < (n : Int)
      · rw [if_pos (by simpa using hc), Nat.min_eq_right (by omega)]
      · rw [if_neg (by simpa using hc), Nat.min_eq_left (by omega)]
    obtain ⟨a1, c1, s1, s2, s3⟩ := slR_bytes (vl := some (i64n (i * 106))) (vh := some (i64n (min n ((i + 1) * 106)))) (lo := i * 106) (hi := min n ((i + 1) * 106)) hgd hsg (by omega) (by omega)
      (by simp only [boundA, i64n]; rw [if_pos (by have := goodS_le hgd; omega), Int.toNat_natCast]) (by simp only [boundA, i64n]; rw [if_pos (by omega), Int.toNat_natCast])
    have hch : (rec_.drop (i * 106)).take (min n ((i + 1) * 106) - i * 106) = chunk rec_ i := by
      unfold chunk
      rw [Nat.mul_comm 106 i]
      by_cases hc : n ≤ (i + 1) * 106
      · rw [Nat.min_eq_left hc, List.take_of_length_le (by simp; omega), List.take_of_length_le (by simp; omega)]
      · rw [Nat.min_eq_right (by omega), show (i + 1) * 106 - i * 106 = 106 by omega]
    rw [hch] at s2
    have hcn := (sliceBytes_spec s2).1
    have hc106 := chunk_length rec_ i
    generalize hcm : min n ((i + 1) * 106) - i * 106 = m at *
    -- where the chunk lies
    have ha1 : ∀ y, a1 = some y → 0 < m → y.block < g.next := by
      intro y hy hm
      subst hy
      obtain ⟨b', o', s', e, hb⟩ := sliceBytes_lt s2 hm
      cases e; exact hb
    -- the Writer
    obtain ⟨g1, e1, W1, k1⟩ := r60 g (lim := 124) (by decide)
    have e1 : CD 60 [.int .i64 124] g = _ := e1
    obtain ⟨g2, e2, W2, k2⟩ := r62 W1 (v := gen) (by simp) hg
    obtain ⟨g3, e3, W3, k3⟩ := r61 W2 (v := at_ + i) (by simp [beB_length]) (by omega)
    obtain ⟨g4, e4, W4, k4⟩ := r91 W3 (v := i) (by simp [beB_length]) (by omega)
    obtain ⟨g5, e5, W5, k5⟩ := r91 W4 (v := costN n) (by simp [beB_length]) (by omega)
    have k15 : Abv g.next g g5 := (((k1.trans k2).trans k3).trans k4).trans k5
    have sm5 : sliceBytes a1 m g5 = some (chunk rec_ i) := k15.bytes s2 (fun y hy hm => by have := ha1 y hy hm; omega)
    obtain ⟨g6, e6, W6, k6⟩ := r92 W5 (c := c1) sm5 ha1 (by simp [beB_length]; omega) (by omega)
    have k16 : Abv g.next g g6 := k15.trans k6
    have hbody : [] ++ beB 8 gen ++ beB 4 (at_ + i) ++ beB 2 i ++ beB 2 (costN n) ++ beB 2 m ++ chunk rec_ i = logBody gen (at_ + i) i (costN n) (chunk rec_ i) := by
      unfold logBody
      rw [hcn, List.nil_append]
    rw [hbody] at W6
    have hd6 : IsDk g6 d E := k16.dk xg (by have := xg.lt; omega) (by have := xg.blt; omega)
    have hj6 : IsJn g6 j d J := jg.keep k16 (by have := jg.lt; omega)
    obtain ⟨B, g7, e7, s7, k7, hB⟩ := r64 W6 (by rw [logBody_length]; omega)
    have hd7 : IsDk g7 d E := Old.dk k7 hd6
    have hj7 : IsJn g7 j d J := hj6.keep k7 (fun h => h)
    have hidx := hEar
    obtain ⟨e8, x8, b8, n8, k8⟩ := r19 hd7 ((2 + area * E.ar + at_ + i : Nat) : Int) (c := 128) s7 rfl
    have e8 : CD 19 [ptr d 0, i64n (2 + area * E.ar + at_ + i), .slice (some ⟨B, 0, none⟩) 128 128] g7 = _ := e8
    have hlb : sealB (logBody gen (at_ + i) i (costN n) (chunk rec_ i)) = logBlk gen (at_ + i) i (costN n) (chunk rec_ i) := rfl
    rw [hlb] at e8 x8 b8 n8 k8
    have hw2 : Dk.wr area gen at_ (costN n) rec_ (q + 1) i E = if (E.write ((2 + area * E.ar + at_ + i : Nat) : Int) (logBlk gen (at_ + i) i (costN n) (chunk rec_ i))).1 = 0 then Dk.wr area gen at_ (costN n) rec_ q (i + 1) (E.write ((2 + area * E.ar + at_ + i : Nat) : Int) (logBlk gen (at_ + i) i (costN n) (chunk rec_ i))).2 else E.write ((2 + area * E.ar + at_ + i : Nat) : Int) (logBlk gen (at_ + i) i (costN n) (chunk rec_ i)) := rfl
    rw [hw2] at hw
    rw [hEb] at b8 k8
    have kall : DkOnly d D.bb h0 (putDk g7 d (E.write ((2 + area * E.ar + at_ + i : Nat) : Int) (logBlk gen (at_ + i) i (costN n) (chunk rec_ i))).2) :=
      ((hk.also k16 (fun c hc h => by have := hk.next; omega)).also k7 (fun _ _ h => h.elim)).trans k8
    generalize hRR : E.write ((2 + area * E.ar + at_ + i : Nat) : Int) (logBlk gen (at_ + i) i (costN n) (chunk rec_ i)) = RR at *
    have h55 := r55 hd6 (by omega)
    have hmul : bin Try.prog .mul 3 (i64n area) (i64n E.ar) = some (i64n (area * E.ar)) := mul3 (by rw [hEar]; omega)
    have hadd1 : bin Try.prog .add 3 (.int .i64 2) (i64n (area * E.ar)) = some (i64n (2 + area * E.ar)) := add3 (a := 2) (by rw [hEar]; omega)
    have hadd2 : bin Try.prog .add 3 (i64n (2 + area * E.ar)) (i64n at_) = some (i64n (2 + area * E.ar + at_)) := add3 (by rw [hEar]; omega)
    have hadd3 : bin Try.prog .add 3 (i64n (2 + area * E.ar + at_)) (i64n i) = some (i64n (2 + area * E.ar + at_ + i)) := add3 (by rw [hEar]; omega)
    have cv32 : ∀ g, cvI .u32 (i64n (at_ + i)) g = some (.int .u32 ((at_ + i : Nat) : Int), g) := by
      intro g
      unfold i64n
      rw [cvI_int, wrap_u32 (by omega) (by omega)]
    have cv16 : ∀ (z : Nat), z < 65536 → ∀ g, cvI .u16 (i64n z) g = some (.int .u16 (z : Int), g) := by
      intro z hz g
      unfold i64n
      rw [cvI_int, wrap_u16 (by omega) (by omega)]
    have hv : veq (ptr d 0) (ptr d 0) = true := by simp [ptr, veq]
    have ck6 := chk_at (rfl : some (ptr d 0, g6) = some (ptr d 0, g6)) hv
    have ck7 := chk_at (rfl : some (ptr d 0, g7) = some (ptr d 0, g7)) hv
    simp -implicitDefEqProofs only [decide_eq_true hlt, i0, i1, i2, i3, i4, i11, thenV_some, hm1, lenL_slice, add31 (show i + 1 ≤ 9223372036854775807 by omega), hm2, pu_some, hmn, s1, e1, e2, add3 (show at_ + i ≤ 9223372036854775807 by omega), cv32, e3, cv16 i (by omega), e4, cv16 (costN n) (by omega), e5, e6,
      nilCheck_ptr, addP_ptr, Nat.zero_add, hj6.l0, h55, hmul, hadd1, hadd2, hadd3, e7, hj7.l0, e8, ck6, ck7, Bool.and_true, bin28n0]
    by_cases hc : RR.1 = 0
    · rw [if_pos hc] at hw
      have hne : (RR.1 != 0) = false := by rw [hc]; rfl
      simp -implicitDefEqProofs only [hne, thenV_some]
      exact Rnd.next q (by omega) ⟨i + 1, RR.2, i0, i1, i2, i3, i4, i11, i19, rfl, by omega, x8, b8, n8.trans hEn, kall, hw⟩
    · rw [if_neg hc] at hw
      have hne : (RR.1 != 0) = true := by rw [bne_iff_ne]; exact hc
      simp -implicitDefEqProofs only [hne, thenV_some]
      refine Rnd.ret ⟨?_, ?_, ?_, kall, .inr ⟨rfl, ?_⟩⟩
      · rw [← hw]; exact x8
      · rw [← hw]; exact b8
      · rw [← hw]; exact n8.trans hEn
      · rw [← hw]; rfl

theorem r59 : ∃ h', CD 59 [ptr j 0, i64n area, .int .u64 gen, i64n at_, .slice a n c] h0 = some (.int .i64 (D.wrRec area gen at_ rec_).1, h') ∧ IsDk h' d (D.wrRec area gen at_ rec_).2 ∧ (D.wrRec area gen at_ rec_).2.bb = D.bb ∧ (D.wrRec area gen at_ rec_).2.n = D.n ∧ DkOnly d D.bb h0 h' := by
  have hrl := (sliceBytes_spec hs).1
  have hcl := costN_le hn
  have is59 : IsFn Try.prog 59 Try.f59 := ⟨by kernel_rfl, by kernel_rfl, by kernel_rfl, by kernel_rfl⟩
  have key : ∃ h', t59 CD (ptr j 0) (i64n area) (.int .u64 gen) (i64n at_) (.slice a n c) h0 = some (.int .i64 (D.wrRec area gen at_ rec_).1, h') ∧ IsDk h' d (D.wrRec area gen at_ rec_).2 ∧ (D.wrRec area gen at_ rec_).2.bb = D.bb ∧ (D.wrRec area gen at_ rec_).2.n = D.n ∧ DkOnly d D.bb h0 h' := by
    unfold t59
    simp -implicitDefEqProofs only [thenV_some, lenL_slice, pu_some]
    rw [show (Value.int .i64 (n : Int)) = i64n n from rfl]
    simp -implicitDefEqProofs only [r15 n h0 (by omega), thenV_some]
    refine endL_fin (Q := fun (o : Out) => ∃ h', o = some (.int .i64 (D.wrRec area gen at_ rec_).1, h') ∧ IsDk h' d (D.wrRec area gen at_ rec_).2 ∧ (D.wrRec area gen at_ rec_).2.bb = D.bb ∧ (D.wrRec area gen at_ rec_).2.n = D.n ∧ DkOnly d D.bb h0 h')
      (loop_fin (t59l59_11010_eq CD) (wr_round x xj h2 ha hg hat hs hgd hn hab) (costN n) (by have : rounds = 18446744073709551616 := rfl; omega)
        ⟨0, D, rfl, rfl, rfl, rfl, rfl, rfl, rfl, rfl, Nat.zero_add _, x, rfl, rfl, Kept.refl _ _, by unfold Dk.wrRec; rw [hrl]⟩) ?_
    rintro ex y g ⟨f1, f2, f3, f4, ⟨rfl, f5⟩ | ⟨rfl, f5⟩⟩
    · refine ⟨g, ?_, f1, f2, f3, f4⟩
      simp -implicitDefEqProofs only [endL_exit, b59_4, if_true, t59k59_2_eq]
      unfold t59k59_2
      simp -implicitDefEqProofs only [thenV_some, f5]
    · refine ⟨g, ?_, f1, f2, f3, f4⟩
      show resultsA Try.prog Try.f59.results.toList (mkF 77 y) g = _
      rw [res_one (show Try.f59.results.toList = [.tmp 10] by kernel_rfl) (by decide), f5]
  obtain ⟨h', e, f⟩ := key
  exact ⟨h', CD_body is59 rfl ((t59_eq _ _ _ _ _ _ _).trans e), f⟩
end
end Go.Proofs.Ytcmfgmhadeeieaa

namespace Go.Proofs.Ytcmfgmhadeeieaa
open Go Go.Abs

/-- What holds of a journal beside its disk. -/
structure JnOk (J : Jn) (D : Dk) : Prop where
  slot : J.slot = -1 ∨ J.slot = 0 ∨ J.slot = 1
  area : J.area ≤ 1
  gen : J.gen < 18446744073709551616
  known : J.known < 18446744073709551616
  ready : J.ready = true → J.fin ≤ D.ar ∧ 0 ≤ J.slot

/-- Append. -/
def Jn.append (J : Jn) (D : Dk) (rec_ : List Nat) : Int × Dk × Jn :=
  if J.live D = false then (9, D, J) else
  if J.ready = false then (30, D, J) else
  if 20000 < rec_.length then (3, D, J) else
  if J.free D < costN rec_.length then (8, D, J) else
  if (D.wrRec J.area J.gen J.fin rec_).1 = 0 then (0, (D.wrRec J.area J.gen J.fin rec_).2, { J with fin := J.fin + costN rec_.length })
  else ((D.wrRec J.area J.gen J.fin rec_).1, (D.wrRec J.area J.gen J.fin rec_).2, J)
theorem is27 : IsFn Try.prog 27 Try.f27 := ⟨by kernel_rfl, by kernel_rfl, by kernel_rfl, by kernel_rfl⟩
theorem gtr3k (n k : Nat) : bin Try.prog .gtr 3 (i64n n) (.int .i64 (k : Int)) = some (.bool (decide (k < n))) := gtr3 n k

/-- The blocks that a journal and its disk have. -/
abbrev JdOnly (j d bb : Nat) (h h' : Heap) : Prop := Kept h h' (fun c => c = j ∨ c = d ∨ c = bb)
theorem DkOnly.jd {j d bb : Nat} {h h' : Heap} (k : DkOnly d bb h h') : JdOnly j d bb h h' := Kept.mono k (fun c _ hc => .inr hc)
theorem Old.jd {j d bb : Nat} {h h' : Heap} (k : Old h h') : JdOnly j d bb h h' := Kept.mono k (fun c _ hc => hc.elim)

theorem r27 {h : Heap} {d j : Nat} {D : Dk} {J : Jn} (x : IsDk h d D) (xj : IsJn h j d J) (h2 : 2 ≤ D.n) (ok : JnOk J D) {a : Option Addr} {n c : Nat} {rec_ : List Nat}
    (hs : sliceBytes a n h = some rec_) (hgd : goodS a n c = true) (hn : n ≤ 100000000) (hab : ∀ y, a = some y → 0 < n → y.block ≠ D.bb) :
    ∃ v h', CD 27 [ptr j 0, .slice a n c] h = some (.tuple #[v, .int .i64 (J.append D rec_).1], h') ∧ IsDk h' d (J.append D rec_).2.1 ∧ IsJn h' j d (J.append D rec_).2.2 ∧ (J.append D rec_).2.1.bb = D.bb ∧ (J.append D rec_).2.1.n = D.n ∧ JdOnly j d D.bb h h' ∧
      v = i64n (if (J.append D rec_).1 = 0 then J.fin else 0) := by
  have hrl := (sliceBytes_spec hs).1
  have hsm := x.small
  have har : D.ar = (D.n - 2) / 2 := rfl
  have key : ∀ o : Out, t27 CD (ptr j 0) (.slice a n c) h = o → ∃ v h', o = some (.tuple #[v, .int .i64 (J.append D rec_).1], h') ∧ IsDk h' d (J.append D rec_).2.1 ∧ IsJn h' j d (J.append D rec_).2.2 ∧ (J.append D rec_).2.1.bb = D.bb ∧ (J.append D rec_).2.1.n = D.n ∧ JdOnly j d D.bb h h' ∧
      v = i64n (if (J.append D rec_).1 = 0 then J.fin else 0) := by
    intro o ho
    subst ho
    unfold t27 Jn.append
    simp -implicitDefEqProofs only [thenV_some, r58 x xj, pu_some, bin28n0]
    cases hl : J.live D with
    | false =>
      simp -implicitDefEqProofs only [Bool.false_eq_true, if_false, if_true, show ((9 : Int) != 0) = true from rfl, thenV_some]
      exact ⟨_, h, rfl, x, xj, trivial, trivial, Kept.refl _ _, rfl⟩
    | true =>
      simp -implicitDefEqProofs only [if_true, bne_self_eq_false, thenV_some, nilCheck_ptr, pu_some, addP_ptr, Nat.zero_add, xj.l6, unA_not, show (true = false) = False from eq_false (by decide), if_false]
      cases hr : J.ready with
      | false =>
        simp -implicitDefEqProofs only [Bool.not_false, thenV_some, if_true]
        exact ⟨_, h, rfl, x, xj, trivial, trivial, Kept.refl _ _, rfl⟩
      | true =>
        obtain ⟨hfin, hslot⟩ := ok.ready hr
        simp -implicitDefEqProofs only [Bool.not_true, thenV_some, lenL_slice, pu_some, show (true = false) = False from eq_false (by decide), if_false]
        rw [show (Value.int .i64 (n : Int)) = i64n n from rfl]
        have hg := gtr3k n 20000
        have hg : bin Try.prog .gtr 3 (i64n n) (.int .i64 20000) = _ := hg
        simp -implicitDefEqProofs only [hg, pu_some, thenV_some, hrl]
        by_cases hlong : 20000 < n
        · simp -implicitDefEqProofs only [decide_eq_true hlong, thenV_some, if_pos hlong]
          exact ⟨_, h, rfl, x, xj, trivial, trivial, Kept.refl _ _, rfl⟩
        · simp -implicitDefEqProofs only [decide_eq_false hlong, if_neg hlong, r15 n h hn, thenV_some, r26 x xj h2 (fun _ => hfin), gtr3, pu_some]
          by_cases hfull : J.free D < costN n
          · simp -implicitDefEqProofs only [decide_eq_true hfull, thenV_some, if_pos hfull]
            exact ⟨_, h, rfl, x, xj, trivial, trivial, Kept.refl _ _, rfl⟩
          · have hcn := costN_le (n := n) (by omega)
            obtain ⟨h1, e1, x1, b1, n1, k1⟩ := r59 x xj h2 ok.area ok.gen (at_ := J.fin) (by omega) hs hgd (by omega) hab
            simp -implicitDefEqProofs only [decide_eq_false hfull, if_neg hfull, thenV_some, nilCheck_ptr, pu_some, addP_ptr, Nat.zero_add, xj.l7, xj.l3, xj.l4, e1, bin28n0]
            have xj1 : IsJn h1 j d J := xj.keep k1 (fun h => h.elim (xj.ne_d x) (xj.ne_bb x))
            by_cases hz : (D.wrRec J.area J.gen J.fin rec_).1 = 0
            · rw [if_pos hz]
              have hst : stN 1 (ptr j 7) (i64n (J.fin + costN n)) h1 = some (undef, h1.set j (({ J with fin := J.fin + costN n } : Jn).cells d)) := stN1_at xj1.get (by simp [Jn.cells]) xj1.n0 rfl rfl
              obtain ⟨k2, g2⟩ := setPlain (k' := ({ J with fin := J.fin + costN n } : Jn).cells d) xj1.get xj1.n0
              have hne : ((D.wrRec J.area J.gen J.fin rec_).1 != 0) = false := by rw [hz]; rfl
              simp -implicitDefEqProofs only [hne, thenV_some, nilCheck_ptr, pu_some, addP_ptr, Nat.zero_add, xj1.l7, lenL_slice]
              simp -implicitDefEqProofs only [r15 n h1 hn, thenV_some, add3 (show J.fin + costN n ≤ 9223372036854775807 by omega), pu_some, nilCheck_ptr, addP_ptr, Nat.zero_add, hst, xj1.l7,
                chk_at (rfl : some (i64n J.fin, h1) = some (i64n J.fin, h1)) (show veq (i64n J.fin) (i64n J.fin) = true by simp [i64n, veq]), Bool.and_true]
              have q : IsJn (h1.set j (({ J with fin := J.fin + costN n } : Jn).cells d)) j d { J with fin := J.fin + costN n } := ⟨g2, k2.n0 ▸ xj1.n0, xj1.area⟩
              simp only [hr] at q
              refine ⟨_, _, rfl, ?_, by simpa only [hr] using q, b1, n1, (DkOnly.jd k1).trans (k2.mono (fun c _ hc => .inl hc)), rfl⟩
              exact k2.dk x1 (fun h => (xj1.ne_d x1) h.symm) (fun h => (xj1.ne_bb x1) h.symm)
            · rw [if_neg hz]
              have hne : ((D.wrRec J.area J.gen J.fin rec_).1 != 0) = true := by rw [bne_iff_ne]; exact hz
              simp -implicitDefEqProofs only [hne, thenV_some]
              refine ⟨_, _, rfl, x1, xj1, b1, n1, DkOnly.jd k1, ?_⟩
              rw [if_neg hz]; rfl
  obtain ⟨v, h', e, f⟩ := key _ rfl
  exact ⟨v, h', CD_body is27 rfl ((t27_eq _ _ _ _).trans e), f⟩
end Go.Proofs.Ytcmfgmhadeeieaa

namespace Go.Proofs.Ytcmfgmhadeeieaa
open Go Go.Abs

theorem IsJn.st {h : Heap} {j d : Nat} {J : Jn} (xj : IsJn h j d J) (i : Nat) (v : Value) (J' : Jn) (hi : i < 8) (hc : (J.cells d).set i v = J'.cells d) (hv : v.cells = #[v]) (h1 : v.oneCell' = true) (ha : J'.area ≤ 1) :
    ∃ h', stN 1 (ptr j i) v h = some (undef, h') ∧ IsJn h' j d J' ∧ Kept h h' (fun c => c = j) ∧ h'.next = h.next := by
  have hst := stN1_at (o := i) (v := v) xj.get (by simp [Jn.cells]; omega) xj.n0 hv h1
  obtain ⟨k, g⟩ := setPlain (k' := (J.cells d).set i v) xj.get xj.n0
  rw [hc] at hst k g
  exact ⟨_, hst, ⟨g, k.n0 ▸ xj.n0, ha⟩, k, rfl⟩
theorem mx64 (a b : Nat) : minmax true (.int .u64 (a : Int)) [.int .u64 (b : Int)] = some (.int .u64 ((max a b : Nat) : Int)) := by
  simp only [minmax, if_true]
  by_cases hc : (b : Int) > (a : Int)
  · rw [if_pos (by simpa using hc), Nat.max_eq_right (by omega)]
  · rw [if_neg (by simpa using hc), Nat.max_eq_left (by omega)]
theorem gtr58 (a b : Nat) : bin Try.prog .gtr 58 (.int .u64 (a : Int)) (.int .u64 (b : Int)) = some (.bool (decide (b < a))) := by
  rw [bin_gtr]; exact congrArg (fun q => some (Value.bool q)) (decide_eq_decide.2 (by omega))

/-- A log block is looked at. -/
def Jn.seeLog (D : Dk) (s at_ : Nat) (J : Jn) : Jn := if logOk at_ (D.jb s at_) then { J with known := max J.known (logGen (D.jb s at_)) } else J
def Jn.seeLogs (D : Dk) (s : Nat) : Nat → Nat → Jn → Jn
  | 0, _, J => J
  | k + 1, at_, J => Jn.seeLogs D s k (at_ + 1) (J.seeLog D s at_)
section
variable {h0 : Heap} {d j s : Nat} {D : Dk} {J0 : Jn} (x : IsDk h0 d D) (hj : IsJn h0 j d J0) (h2 : 2 ≤ D.n) (hs : s ≤ 1)
def seeInv (h0 : Heap) (d j s : Nat) (D : Dk) (J0 : Jn) (x : Nat → Value) (k : Nat) (y : Nat → Value) (g : Heap) : Prop :=
  ∃ at_ J, y 0 = ptr d 0 ∧ y 6 = ptr j 0 ∧ y 7 = i64n s ∧ y 83 = i64n D.ar ∧ y 84 = i64n at_ ∧ y 37 = x 37 ∧ y 2 = x 2 ∧ y 3 = x 3 ∧ y 4 = x 4 ∧ at_ + k = D.ar ∧ IsJn g j d J ∧ Kept h0 g (fun c => c = j) ∧ Jn.seeLogs D s k at_ J = Jn.seeLogs D s D.ar 0 J0
def seeFin (h0 : Heap) (d j s : Nat) (D : Dk) (J0 : Jn) (x : Nat → Value) (ex : Ex) (y : Nat → Value) (g : Heap) : Prop :=
  ex = .exit 2 ∧ y 0 = ptr d 0 ∧ y 6 = ptr j 0 ∧ y 37 = x 37 ∧ y 2 = x 2 ∧ y 3 = x 3 ∧ y 4 = x 4 ∧ IsJn g j d (Jn.seeLogs D s D.ar 0 J0) ∧ Kept h0 g (fun c => c = j)
include x hj h2 hs
theorem see_round (x0 : Nat → Value) : ∀ k y g, seeInv h0 d j s D J0 x0 k y g → Rnd 131 (seeInv h0 d j s D J0 x0) (seeFin h0 d j s D J0 x0) k (t21l21_1111010011001110 CD y g) := by
  rintro k y g ⟨at_, J, i0, i6, i7, i83, i84, i37, i2, i3, i4, hk, hJ, hold, htar⟩
  have hsm := x.small
  have har : D.ar = (D.n - 2) / 2 := rfl
  have hjd := hj.ne_d x
  have hjb := hj.ne_bb x
  have xg : IsDk g d D := hold.dk x (fun h => hjd h.symm) (fun h => hjb h.symm)
  unfold t21l21_1111010011001110
  simp -implicitDefEqProofs only [i84, i83, lss3, pu_some, thenV_some]
  by_cases hz : k = 0
  · subst hz
    simp -implicitDefEqProofs only [decide_eq_false (show ¬ at_ < D.ar by omega)]
    exact Rnd.out 2 ⟨rfl, i0, i6, i37, i2, i3, i4, htar ▸ hJ, hold⟩
  · obtain ⟨q, rfl⟩ : ∃ q, k = q + 1 := ⟨k - 1, by omega⟩
    obtain ⟨a, n, c, g1, e1, e2, e3, e4, e5⟩ := r56 xg h2 hs (show at_ < D.ar by omega)
    have hjbk : D.blk (2 + s * D.ar + at_) = D.jb s at_ := rfl
    rw [hjbk] at e1 e2
    have g2p : (g1.alloc logZ).get g1.next = some logZ := by rw [Heap.get_alloc, if_pos rfl]
    have n02 : (g1.alloc logZ).n0 ≤ g1.next := g1.n0_le_next
    generalize hcs : logC (logGen (D.jb s at_)) (logPart (D.jb s at_)) (logParts (D.jb s at_)) (.slice a n c) = cs at e1
    have hst : stN 4 (ptr g1.next 0) (.agg cs.toArray) (g1.alloc logZ) = some (undef, (g1.alloc logZ).set g1.next cs) := by
      subst hcs; exact stN_whole g2p n02 rfl rfl rfl
    obtain ⟨k3, g3p⟩ := setPlain (k' := cs) g2p n02
    have k2 : Old g1 (g1.alloc logZ) := Kept.alloc g1 logZ _
    have k13 : Old g ((g1.alloc logZ).set g1.next cs) := (e4.trans k2).also k3 (fun c h1 h2 => by have := e4.next; omega)
    have hlogz : g1.alloc [(.int .u64 0), (.int .i64 0), (.int .i64 0), (.slice none 0 0)] = g1.alloc logZ := rfl
    generalize hg3 : (g1.alloc logZ).set g1.next cs = g3 at *
    have l0 : ld1 (ptr g1.next 0) g3 = some (.int .u64 (logGen (D.jb s at_)), g3) := by subst hcs; exact ld1_at g3p rfl
    have hJ3 : IsJn g3 j d J := hJ.keep k13 (fun h => h)
    have hold3 : Kept h0 g3 (fun c => c = j) := hold.also k13 (fun _ _ h => h.elim)
    have hx0 : ∀ a b : Value, extractA (.tuple #[a, b]) 0 = some a := fun _ _ => rfl
    have hx1 : ∀ a b : Value, extractA (.tuple #[a, b]) 1 = some b := fun _ _ => rfl
    simp -implicitDefEqProofs only [decide_eq_true (show at_ < D.ar by omega), i0, i7, thenV_some, e1, hx0, hx1, pu_some, newC, Abs.newRow, hlogz, hst]
    have htar2 : Jn.seeLogs D s q (at_ + 1) (J.seeLog D s at_) = Jn.seeLogs D s D.ar 0 J0 := htar
    cases hc : logOk at_ (D.jb s at_) with
    | false =>
      simp -implicitDefEqProofs only [thenV_some, add31 (show at_ + 1 ≤ 9223372036854775807 by omega), pu_some]
      have hsee : J.seeLog D s at_ = J := by unfold Jn.seeLog; rw [hc]; rfl
      rw [hsee] at htar2
      exact Rnd.next q (by omega) ⟨at_ + 1, J, i0, i6, i7, i83, rfl, i37, i2, i3, i4, by omega, hJ3, hold3, htar2⟩
    | true =>
      have hsee : J.seeLog D s at_ = { J with known := max J.known (logGen (D.jb s at_)) } := by unfold Jn.seeLog; rw [hc]; rfl
      obtain ⟨g4, f1, f2, f3, f4⟩ := hJ3.st 5 (.int .u64 ((max J.known (logGen (D.jb s at_)) : Nat) : Int)) { J with known := max J.known (logGen (D.jb s at_)) } (by decide) rfl rfl rfl hJ.area
      simp -implicitDefEqProofs only [i6, thenV_some, nilCheck_ptr, pu_some, addP_ptr, Nat.zero_add, hJ3.l5, l0, mx64, f1, add31 (show at_ + 1 ≤ 9223372036854775807 by omega)]
      rw [hsee] at htar2
      exact Rnd.next q (by omega) ⟨at_ + 1, _, i0, i6, i7, i83, rfl, i37, i2, i3, i4, by omega, f2, hold3.trans f3, htar2⟩
theorem see_loop {y : Nat → Value} (i0 : y 0 = ptr d 0) (i6 : y 6 = ptr j 0) (i7 : y 7 = i64n s) (i83 : y 83 = i64n D.ar) (i84 : y 84 = i64n 0) :
    Fin 131 (seeFin h0 d j s D J0 y) (iter (codeA Try.prog CD (partOf Try.f21 [1, 1, 1, 1, 0, 1, 0, 0, 1, 1, 0, 0, 1, 1, 1, 0, 0])) rounds (mkF 131 y) h0) :=
  loop_fin (t21l21_1111010011001110_eq CD) (see_round x hj h2 hs y) D.ar (by have : rounds = 18446744073709551616 := rfl; have := x.small; unfold Dk.ar; omega)
    ⟨0, J0, i0, i6, i7, i83, i84, rfl, rfl, rfl, rfl, Nat.zero_add _, hj, Kept.refl _ _, rfl⟩
end

/-- A superblock is looked at. -/
def Jn.takeSuper (D : Dk) (s : Nat) (J : Jn) : Jn := if J.slot < 0 ∨ J.gen < superGen (D.blk s) then { J with slot := s, gen := superGen (D.blk s), area := superArea (D.blk s) } else J
def Jn.seeSuper (D : Dk) (s : Nat) (J : Jn) : Jn := if superOk (D.blk s) then { J.takeSuper D s with known := max J.known (superGen (D.blk s)) } else J
def Jn.seeSlot (D : Dk) (s : Nat) (J : Jn) : Jn := Jn.seeLogs D s D.ar 0 (J.seeSuper D s)
def Dk.jn0 (D : Dk) (turn : Int) : Jn := { turn := turn, slot := -1, area := 0, gen := 0, known := 0, ready := false, fin := 0 }
def Dk.openJ (D : Dk) (turn : Int) : Jn := ((D.jn0 turn).seeSlot D 0).seeSlot D 1

theorem superArea_le {b : List Nat} (h : superOk b = true) : superArea b ≤ 1 := by
  unfold superOk at h
  simp only [Bool.and_eq_true, decide_eq_true_eq] at h
  exact h.2

section
variable {h0 : Heap} {d j : Nat} {D : Dk} {J0 : Jn} (x : IsDk h0 d D) (hj : IsJn h0 j d J0) (h2 : 2 ≤ D.n)
def slotInv (h0 : Heap) (d j : Nat) (D : Dk) (J0 : Jn) (k : Nat) (y : Nat → Value) (g : Heap) : Prop :=
  ∃ J, y 0 = ptr d 0 ∧ y 6 = ptr j 0 ∧ IsJn g j d J ∧ Kept h0 g (fun c => c = j) ∧ ((k = 2 ∧ y 37 = i64n 0 ∧ J = J0) ∨ (k = 1 ∧ y 37 = i64n 1 ∧ J = J0.seeSlot D 0) ∨ (k = 0 ∧ y 37 = i64n 2 ∧ J = (J0.seeSlot D 0).seeSlot D 1))
def slotFin (h0 : Heap) (d j : Nat) (D : Dk) (J0 : Jn) (ex : Ex) (y : Nat → Value) (g : Heap) : Prop :=
  ex = .exit 0 ∧ y 0 = ptr d 0 ∧ y 6 = ptr j 0 ∧ IsJn g j d ((J0.seeSlot D 0).seeSlot D 1) ∧ Kept h0 g (fun c => c = j)
include x hj h2
/-- The end of a round: what the blocks of the slot's area show, and the next slot. -/
theorem slot_tail {s k : Nat} (hs : s ≤ 1) {y : Nat → Value} {g : Heap} {J : Jn} (i0 : y 0 = ptr d 0) (i6 : y 6 = ptr j 0) (i7 : y 7 = i64n s) (i83 : y 83 = i64n D.ar) (i84 : y 84 = i64n 0) (i37 : y 37 = i64n s) (hJ : IsJn g j d J) (hold : Kept h0 g (fun c => c = j))
    (hnext : ∀ y' g', y' 0 = ptr d 0 → y' 6 = ptr j 0 → y' 37 = i64n (s + 1) → IsJn g' j d (Jn.seeLogs D s D.ar 0 J) → Kept h0 g' (fun c => c = j) → Rnd 131 (slotInv h0 d j D J0) (slotFin h0 d j D J0) k (some (.normal, mkF 131 y', g'))) :
    Rnd 131 (slotInv h0 d j D J0) (slotFin h0 d j D J0) k (endL (iter (codeA Try.prog CD (partOf Try.f21 [1, 1, 1, 1, 0, 1, 0, 0, 1, 1, 0, 0, 1, 1, 1, 0, 0])) rounds (mkF 131 y) g) (fun e h => some (Ex.ret, e, h)) (b21_25 CD)) := by
  have xg : IsDk g d D := hold.dk x (fun h => (hj.ne_d x) h.symm) (fun h => (hj.ne_bb x) h.symm)
  refine endL_fin (Q := fun o => Rnd 131 (slotInv h0 d j D J0) (slotFin h0 d j D J0) k o) (see_loop xg hJ h2 hs i0 i6 i7 i83 i84) ?_
  rintro ex y' g' ⟨rfl, f0, f6, f37, _, _, _, fJ, fk⟩
  simp -implicitDefEqProofs only [endL_exit, b21_25, if_true, t21k21_16_eq]
  unfold t21k21_16
  rw [f37, i37]
  simp -implicitDefEqProofs only [add31 (show s + 1 ≤ 9223372036854775807 by omega), pu_some, thenV_some]
  exact hnext _ g' f0 f6 rfl fJ (hold.trans fk)

theorem slot_round : ∀ k y g, slotInv h0 d j D J0 k y g → Rnd 131 (slotInv h0 d j D J0) (slotFin h0 d j D J0) k (t21l21_1111010 CD y g) := by
  rintro k y g ⟨J, i0, i6, hJ, hold, hcase⟩
  have hsm := x.small
  have xg : IsDk g d D := hold.dk x (fun h => (hj.ne_d x) h.symm) (fun h => (hj.ne_bb x) h.symm)
  have main : ∀ s, s ≤ 1 → y 37 = i64n s → (∀ y' g', y' 0 = ptr d 0 → y' 6 = ptr j 0 → y' 37 = i64n (s + 1) → IsJn g' j d (J.seeSlot D s) → Kept h0 g' (fun c => c = j) → Rnd 131 (slotInv h0 d j D J0) (slotFin h0 d j D J0) k (some (.normal, mkF 131 y', g'))) →
      Rnd 131 (slotInv h0 d j D J0) (slotFin h0 d j D J0) k (t21l21_1111010 CD y g) := by
    intro s hs i37 hnext
    obtain ⟨g1, e1, o1⟩ := r54 xg (show s < D.n by omega)
    have hJ1 : IsJn g1 j d J := hJ.keep o1 (fun h => h)
    have hold1 : Kept h0 g1 (fun c => c = j) := hold.also o1 (fun _ _ h => h.elim)
    have xg1 := Old.dk o1 xg
    have hx0 : ∀ a b c : Value, extractA (.tuple #[a, b, c]) 0 = some a := fun _ _ _ => rfl
    have hx1 : ∀ a b c : Value, extractA (.tuple #[a, b, c]) 1 = some b := fun _ _ _ => rfl
    have hx2 : ∀ a b c : Value, extractA (.tuple #[a, b, c]) 2 = some c := fun _ _ _ => rfl
    have hlt : bin Try.prog .lss 3 (i64n s) (.int .i64 2) = some (.bool true) := by
      have := lss3 s 2
      rw [decide_eq_true (by omega)] at this
      exact this
    have hsee : J.seeSlot D s = Jn.seeLogs D s D.ar 0 (J.seeSuper D s) := rfl
    unfold t21l21_1111010
    simp -implicitDefEqProofs only [i37, hlt, pu_some, thenV_some, i0, e1, hx0, hx1, hx2]
    cases hok : superOk (D.blk s) with
    | false =>
      have hss : J.seeSuper D s = J := by unfold Jn.seeSuper; rw [hok]; rfl
      rw [hss] at hsee
      simp -implicitDefEqProofs only [thenV_some, r55 xg1 h2]
      exact slot_tail x hj h2 (s := s) hs i0 i6 rfl rfl rfl i37 hJ1 hold1 (fun y' g' a1 a2 a3 a4 a5 => hnext y' g' a1 a2 a3 (hsee ▸ a4) a5)
    | true =>
      have hss : J.seeSuper D s = { J.takeSuper D s with known := max J.known (superGen (D.blk s)) } := by unfold Jn.seeSuper; rw [hok]; rfl
      simp -implicitDefEqProofs only [thenV_some, i6, nilCheck_ptr, pu_some, addP_ptr, Nat.zero_add, hJ1.l2, bin_lss, bOf_bool]
      -- the choice
      by_cases hc : J.slot < 0 ∨ J.gen < superGen (D.blk s)
      · have htk : J.takeSuper D s = { J with slot := s, gen := superGen (D.blk s), area := superArea (D.blk s) } := by unfold Jn.takeSuper; rw [if_pos hc]
        rw [htk] at hss
        obtain ⟨g2, a1, a2, a3, a4⟩ := hJ1.st 2 (i64n s) { J with slot := s } (by decide) rfl rfl rfl hJ.area
        obtain ⟨g3, b1, b2, b3, b4⟩ := a2.st 4 (.int .u64 (superGen (D.blk s))) { J with slot := s, gen := superGen (D.blk s) } (by decide) rfl rfl rfl hJ.area
        obtain ⟨g4, c1, c2, c3, c4⟩ := b2.st 3 (i64n (superArea (D.blk s))) { J with slot := s, gen := superGen (D.blk s), area := superArea (D.blk s) } (by decide) rfl rfl rfl (superArea_le hok)
        obtain ⟨g5, d1, d2, d3, d4⟩ := c2.st 5 (.int .u64 ((max J.known (superGen (D.blk s)) : Nat) : Int)) { J with slot := s, gen := superGen (D.blk s), area := superArea (D.blk s), known := max J.known (superGen (D.blk s)) } (by decide) rfl rfl rfl (superArea_le hok)
        have hold5 : Kept h0 g5 (fun c => c = j) := (((hold1.trans a3).trans b3).trans c3).trans d3
        have xg5 : IsDk g5 d D := hold5.dk x (fun h => (hj.ne_d x) h.symm) (fun h => (hj.ne_bb x) h.symm)
        have hl5 : ld1 (ptr j 5) g4 = some (.int .u64 J.known, g4) := c2.l5
        have hfin : Rnd 131 (slotInv h0 d j D J0) (slotFin h0 d j D J0) k (endL (iter (codeA Try.prog CD (partOf Try.f21 [1, 1, 1, 1, 0, 1, 0, 0, 1, 1, 0, 0, 1, 1, 1, 0, 0])) rounds (mkF 131 y) g5) (fun e h => some (Ex.ret, e, h)) (b21_25 CD)) → True := fun _ => trivial
        by_cases hc1 : J.slot < 0
        · simp -implicitDefEqProofs only [hc1, decide_true, sf, guardK_false, thenV_some, if_true, nilCheck_ptr, pu_some, addP_ptr, Nat.zero_add, a1, b1, c1, hl5, mx64, d1, r55 xg5 h2]
          exact slot_tail x hj h2 (s := s) hs i0 i6 rfl rfl rfl i37 d2 hold5 (fun y' g' a1 a2 a3 a4 a5 => hnext y' g' a1 a2 a3 (hsee ▸ hss ▸ a4) a5)
        · have hc2 : J.gen < superGen (D.blk s) := hc.resolve_left hc1
          simp -implicitDefEqProofs only [hc1, decide_false, beq_self_eq_true, guardK_true, thenV_some, nilCheck_ptr, pu_some, addP_ptr, Nat.zero_add, hJ1.l4, gtr58, Bool.false_eq_true, if_false, hc2, decide_true, a1, b1, c1, hl5, mx64, d1, r55 xg5 h2]
          exact slot_tail x hj h2 (s := s) hs i0 i6 rfl rfl rfl i37 d2 hold5 (fun y' g' a1 a2 a3 a4 a5 => hnext y' g' a1 a2 a3 (hsee ▸ hss ▸ a4) a5)
      · have htk : J.takeSuper D s = J := by unfold Jn.takeSuper; rw [if_neg hc]
        rw [htk] at hss
        have hc1 : ¬ J.slot < 0 := fun h => hc (.inl h)
        have hc2 : ¬ J.gen < superGen (D.blk s) := fun h => hc (.inr h)
        obtain ⟨g5, d1, d2, d3, d4⟩ := hJ1.st 5 (.int .u64 ((max J.known (superGen (D.blk s)) : Nat) : Int)) { J with known := max J.known (superGen (D.blk s)) } (by decide) rfl rfl rfl hJ.area
        have hold5 : Kept h0 g5 (fun c => c = j) := hold1.trans d3
        have xg5 : IsDk g5 d D := hold5.dk x (fun h => (hj.ne_d x) h.symm) (fun h => (hj.ne_bb x) h.symm)
        simp -implicitDefEqProofs only [hc1, decide_false, beq_self_eq_true, guardK_true, thenV_some, nilCheck_ptr, pu_some, addP_ptr, Nat.zero_add, hJ1.l4, gtr58, Bool.false_eq_true, if_false, hc2, hJ1.l5, mx64, d1, r55 xg5 h2]
        exact slot_tail x hj h2 (s := s) hs i0 i6 rfl rfl rfl i37 d2 hold5 (fun y' g' a1 a2 a3 a4 a5 => hnext y' g' a1 a2 a3 (hsee ▸ hss ▸ a4) a5)
  rcases hcase with ⟨rfl, i37, rfl⟩ | ⟨rfl, i37, rfl⟩ | ⟨rfl, i37, rfl⟩
  · exact main 0 (by decide) i37 (fun y' g' a1 a2 a3 a4 a5 => Rnd.next 1 (by decide) ⟨_, a1, a2, a4, a5, .inr (.inl ⟨rfl, a3, rfl⟩)⟩)
  · exact main 1 (by decide) i37 (fun y' g' a1 a2 a3 a4 a5 => Rnd.next 0 (by decide) ⟨_, a1, a2, a4, a5, .inr (.inr ⟨rfl, a3, rfl⟩)⟩)
  · have hlt : bin Try.prog .lss 3 (i64n 2) (.int .i64 2) = some (.bool false) := by
      have := lss3 2 2
      rw [decide_eq_false (by omega)] at this
      exact this
    unfold t21l21_1111010
    simp -implicitDefEqProofs only [i37, hlt, pu_some, thenV_some]
    exact Rnd.out 0 ⟨rfl, i0, i6, hJ, hold⟩
end
end Go.Proofs.Ytcmfgmhadeeieaa

namespace Go.Proofs.Ytcmfgmhadeeieaa
open Go Go.Abs

def EntAt (h : Heap) (N : Nat) (cells : List Value) (i : Nat) (e : Nat × List Nat) : Prop :=
  cells[2 * i]? = some (i64n e.1) ∧ ∃ a n c, cells[2 * i + 1]? = some (.slice a n c) ∧ sliceBytes a n h = some e.2 ∧ goodS a n c = true ∧ ∀ y, a = some y → 0 < n → N ≤ y.block
/-- Entries, as they stand in memory. -/
def EntsAt (h : Heap) (N : Nat) (cells : List Value) (ents : List (Nat × List Nat)) : Prop := cells.length = 2 * ents.length ∧ ∀ i e, ents[i]? = some e → EntAt h N cells i e
theorem EntsAt.keep {h h' : Heap} {N : Nat} {cells : List Value} {ents : List (Nat × List Nat)} (E : EntsAt h N cells ents) {B : Nat → Prop} (k : Kept h h' B) (hB : ∀ b, B b → Plain h b) : EntsAt h' N cells ents := by
  refine ⟨E.1, fun i e he => ?_⟩
  obtain ⟨h1, a, n, c, h2, h3, h4, h5⟩ := E.2 i e he
  exact ⟨h1, a, n, c, h2, k.bytesP hB h3, h4, h5⟩
theorem EntsAt.nil (h : Heap) (N : Nat) : EntsAt h N [] [] := ⟨rfl, fun i e he => by simp at he⟩
theorem EntsAt.plain {h : Heap} {N : Nat} {cells : List Value} {ents : List (Nat × List Nat)} (E : EntsAt h N cells ents) : ∀ v ∈ cells, nat8 v = none := by
  intro v hv
  obtain ⟨q, hq⟩ := List.getElem?_of_mem hv
  have hl := (List.getElem?_eq_some_iff.1 hq).1
  rw [E.1] at hl
  have hi : q / 2 < ents.length := by omega
  obtain ⟨h1, a, n, c, h2, _⟩ := E.2 (q / 2) ents[q / 2] (List.getElem?_eq_getElem hi)
  rcases Nat.mod_two_eq_zero_or_one q with h0 | h0
  · rw [show 2 * (q / 2) = q by omega, hq] at h1; cases h1; rfl
  · rw [show 2 * (q / 2) + 1 = q by omega, hq] at h2; cases h2; rfl
theorem EntsAt.snoc {h : Heap} {N : Nat} {cells : List Value} {ents : List (Nat × List Nat)} (E : EntsAt h N cells ents) {at_ : Nat} {l : List Nat} {a : Option Addr} {n c : Nat} (hs : sliceBytes a n h = some l) (hg : goodS a n c = true) (ha : ∀ y, a = some y → 0 < n → N ≤ y.block) :
    EntsAt h N (cells ++ [i64n at_, .slice a n c]) (ents ++ [(at_, l)]) := by
  refine ⟨by simp [E.1]; omega, fun i e he => ?_⟩
  have hl := E.1
  by_cases hi : i < ents.length
  · rw [List.getElem?_append_left hi] at he
    obtain ⟨h1, a', n', c', h2, h3⟩ := E.2 i e he
    exact ⟨by rw [List.getElem?_append_left (by omega)]; exact h1, a', n', c', by rw [List.getElem?_append_left (by omega)]; exact h2, h3⟩
  · rw [List.getElem?_append_right (by omega)] at he
    have : i = ents.length := by
      have := (List.getElem?_eq_some_iff.1 he).1
      simp at this; omega
    subst this
    rw [Nat.sub_self] at he
    cases he
    refine ⟨by rw [List.getElem?_append_right (by omega), hl, Nat.sub_self]; rfl, a, n, c, ?_, hs, hg, ha⟩
    rw [List.getElem?_append_right (by omega), hl, Nat.add_sub_cancel_left]; rfl

/-- The entries from a position. -/
def Dk.ents (D : Dk) (J : Jn) : Nat → Nat → List (Nat × List Nat)
  | 0, _ => []
  | k + 1, at_ => if at_ < D.ar then if J.stands D at_ then (at_, D.data J.area at_ (D.parts J.area at_)) :: D.ents J k (at_ + D.parts J.area at_) else D.ents J k (at_ + 1) else []
theorem Dk.ents_end {D : Dk} {J : Jn} {at_ : Nat} (h : D.ar ≤ at_) : ∀ k, D.ents J k at_ = []
  | 0 => rfl
  | k + 1 => by unfold Dk.ents; rw [if_neg (by omega)]
theorem Jn.stands_iff {J : Jn} {D : Dk} {at_ : Nat} (hat : at_ < D.ar) : J.stands D at_ = (decide (0 ≤ J.slot) && D.stands J.area J.gen at_) := by
  unfold Jn.stands
  rw [Int.toNat_natCast, decide_eq_true (show (0 : Int) ≤ (at_ : Int) by omega), decide_eq_true (show (at_ : Int) < (D.ar : Int) by omega), Bool.and_true, Bool.and_true]
/-- A record, looked at. -/
theorem r57 {h : Heap} {d j : Nat} {D : Dk} {J : Jn} (x : IsDk h d D) (xj : IsJn h j d J) (h2 : 2 ≤ D.n) {at_ : Nat} (hat : at_ < D.ar) :
    (J.stands D at_ = false ∧ ∃ h', CD 57 [ptr j 0, i64n at_] h = some (.tuple #[.slice none 0 0, i64n 0], h') ∧ Old h h') ∨
    (J.stands D at_ = true ∧ ∃ v h', CD 57 [ptr j 0, i64n at_] h = some (.tuple #[v, i64n (D.parts J.area at_)], h') ∧ Old h h' ∧ OwnB h' h.next v (D.data J.area at_ (D.parts J.area at_))) := by
  rw [Jn.stands_iff hat]
  by_cases hs : 0 ≤ J.slot
  · rw [decide_eq_true hs, Bool.true_and]
    exact r57_run x xj h2 hs hat
  · rw [decide_eq_false hs, Bool.false_and]
    exact .inl ⟨rfl, h, r57_start x xj h2 at_ (.inl (by omega)), Kept.refl _ _⟩

section
variable {h0 : Heap} {d j : Nat} {D : Dk} {J : Jn} (x : IsDk h0 d D) (xj : IsJn h0 j d J) (h2 : 2 ≤ D.n)
def entInv (h0 : Heap) (d j : Nat) (D : Dk) (J : Jn) (k : Nat) (y : Nat → Value) (g : Heap) : Prop :=
  ∃ at_ cells done, y 0 = ptr d 0 ∧ y 6 = ptr j 0 ∧ y 15 = i64n at_ ∧ OwnC g h0.next 2 (y 14) done.length cells ∧ EntsAt g h0.next cells done ∧ Old h0 g ∧ at_ ≤ D.ar ∧ D.ar ≤ at_ + k ∧ done ++ D.ents J k at_ = D.ents J D.ar 0 ∧ done.length ≤ at_
def entFin (h0 : Heap) (j : Nat) (D : Dk) (J : Jn) (ex : Ex) (y : Nat → Value) (g : Heap) : Prop :=
  ex = .exit 4 ∧ y 6 = ptr j 0 ∧ ∃ cells, OwnC g h0.next 2 (y 14) (D.ents J D.ar 0).length cells ∧ EntsAt g h0.next cells (D.ents J D.ar 0) ∧ Old h0 g
include x xj h2
theorem ent_round : ∀ k y g, entInv h0 d j D J k y g → Rnd 131 (entInv h0 d j D J) (entFin h0 j D J) k (t21l21_111111010 CD y g) := by
  rintro k y g ⟨at_, cells, done, i0, i6, i15, own, E, hold, hle, hk, hents, hdl⟩
  have hsm := x.small
  have har : D.ar = (D.n - 2) / 2 := rfl
  have xg := Old.dk hold x
  have jg := xj.keep hold (fun h => h)
  unfold t21l21_111111010
  simp -implicitDefEqProofs only [i15, i0, thenV_some, r55 xg h2, lss3, pu_some]
  by_cases hlt : at_ < D.ar
  · obtain ⟨q, rfl⟩ : ∃ q, k = q + 1 := ⟨k - 1, by omega⟩
    have hx0 : ∀ a b : Value, extractA (.tuple #[a, b]) 0 = some a := fun _ _ => rfl
    have hx1 : ∀ a b : Value, extractA (.tuple #[a, b]) 1 = some b := fun _ _ => rfl
    have hg0 : ∀ p : Nat, bin Try.prog .gtr 3 (i64n p) (.int .i64 0) = some (.bool (decide (0 < p))) := fun p => gtr3 p 0
    have hents2 : D.ents J (q + 1) at_ = if J.stands D at_ then (at_, D.data J.area at_ (D.parts J.area at_)) :: D.ents J q (at_ + D.parts J.area at_) else D.ents J q (at_ + 1) := by
      show (if at_ < D.ar then _ else _) = _
      rw [if_pos hlt]
    rw [hents2] at hents
    rcases r57 xg jg h2 hlt with ⟨hst, g1, e1, o1⟩ | ⟨hst, v, g1, e1, o1, ob⟩
    · rw [hst] at hents
      have hmx : minmax true (i64n 0) [.int .i64 1] = some (i64n 1) := rfl
      simp -implicitDefEqProofs only [decide_eq_true hlt, i6, thenV_some, e1, hx0, hx1, pu_some, hg0, Nat.lt_irrefl, decide_false, hmx, add3 (show at_ + 1 ≤ 9223372036854775807 by omega)]
      exact Rnd.next q (by omega) ⟨at_ + 1, cells, done, i0, i6, rfl, own.keep o1 (fun _ _ h => h), E.keep o1 (fun _ h => h.elim), hold.trans o1, by omega, by omega, hents, by omega⟩
    · rw [hst, if_pos rfl] at hents
      have hpos : 1 ≤ D.parts J.area at_ ∧ at_ + D.parts J.area at_ ≤ D.ar := by
        rw [Jn.stands_iff hlt, Bool.and_eq_true] at hst
        exact Dk.stands_pos hst.2
      generalize hp : D.parts J.area at_ = p at *
      generalize hdat : D.data J.area at_ p = l at *
      obtain ⟨a, c, rfl, s1, s2, s3, s4⟩ := ob.bytes
      have hmx : minmax true (i64n p) [.int .i64 1] = some (i64n p) := by
        simp only [minmax, i64n, if_true]
        rw [if_neg (by have := hpos.1; simp; omega)]
      have hbl : bldR [(.int .i64 0), (.slice none 0 0)] [(0, 1, i64n at_), (1, 1, .slice a l.length c)] = some (.agg [i64n at_, .slice a l.length c].toArray) := rfl
      have hbs : bslR 2 (.agg #[(.int .i64 0), (.slice none 0 0)]) 1 [(0, .agg [i64n at_, .slice a l.length c].toArray)] g1 = some (.slice (some ⟨g1.next, 0, none⟩) 1 1, g1.alloc [i64n at_, .slice a l.length c]) := rfl
      have oA : Old g1 (g1.alloc [i64n at_, .slice a l.length c]) := Kept.alloc _ _ _
      have gA : (g1.alloc [i64n at_, .slice a l.length c]).get g1.next = some [i64n at_, .slice a l.length c] := by rw [Heap.get_alloc, if_pos rfl]
      have ownA := (own.keep o1 (fun _ _ h => h)).keep oA (fun _ _ h => h)
      have EA := (E.keep o1 (fun _ h => h.elim)).keep oA (fun _ h => h.elim)
      have holdA : Old h0 (g1.alloc [i64n at_, .slice a l.length c]) := (hold.trans o1).trans oA
      have sA := Old.bytes oA s1
      generalize hgA : g1.alloc [i64n at_, .slice a l.length c] = gA1 at *
      have hfA : firstA 2 1 (.slice (some ⟨g1.next, 0, none⟩) 1 1) gA1 = some [i64n at_, .slice a l.length c] := by
        simp only [firstA, gA]
        rfl
      obtain ⟨v', g4, f1, f2, f3, f4⟩ := append_own (by_ := 32) (x := .slice (some ⟨g1.next, 0, none⟩) 1 1) (m := 1) ownA (by rw [holdA.n0]; exact h0.n0_le_next) holdA.next (by decide) rfl hfA rfl rfl rfl (by omega) (by omega)
      have pl : ∀ b, baseOf (y 14) = some b ∧ gA1.get b = some cells → Plain gA1 b := fun b hb => ⟨cells, hb.2, EA.plain⟩
      have s5 := f3.bytesP pl sA
      have E5 := EA.keep f3 pl
      have hN : h0.next ≤ g.next := hold.next
      simp -implicitDefEqProofs only [decide_eq_true hlt, i6, thenV_some, e1, hx0, hx1, pu_some, hg0, decide_eq_true (show 0 < p by omega), hbl, hbs, f1, hmx, add3 (show at_ + p ≤ 9223372036854775807 by omega)]
      refine Rnd.next q (by omega) ⟨at_ + p, cells ++ [i64n at_, .slice a l.length c], done ++ [(at_, l)], i0, i6, rfl, ?_, E5.snoc s5 s2 (fun y hy _ => Nat.le_trans hN (s3 y hy)), ?_, by omega, by omega, ?_, ?_⟩
      · rw [List.length_append]; exact f2
      · exact holdA.also f3 (fun c hc hb => by have := ownA.base hb.1; omega)
      · rw [List.append_assoc]; exact hents
      · rw [List.length_append]
        show done.length + 1 ≤ _
        omega
  · simp -implicitDefEqProofs only [decide_eq_false hlt]
    rw [D.ents_end (by omega) k, List.append_nil] at hents
    refine Rnd.out 4 ⟨rfl, i6, cells, ?_, ?_, hold⟩
    · rw [← hents]; exact own
    · rw [← hents]; exact E
end

/-- The disk after an Open. -/
def Dk.opened (D : Dk) : Dk := { D with turn := IntKind.wrap .i64 (D.turn + 1) }
theorem X53 : XX 53 = s53 := rfl
theorem is21 : IsFn Try.prog 21 Try.f21 := ⟨by kernel_rfl, by kernel_rfl, by kernel_rfl, by kernel_rfl⟩
/-- The journal that Open returns. -/
def Dk.jn (D : Dk) : Jn := D.opened.openJ D.opened.turn
def Dk.entries (D : Dk) : List (Nat × List Nat) := D.opened.ents D.jn D.ar 0

theorem r21 {h : Heap} {d : Nat} {D : Dk} (x : IsDk h d D) (h2 : 2 ≤ D.n) (hd : D.down = false) :
    ∃ j v cells N h', CD 21 [ptr d 0] h = some (.tuple #[ptr j 0, v, .int .i64 0], h') ∧ IsDk h' d D.opened ∧ IsJn h' j d D.jn ∧ OwnC h' N 2 v D.entries.length cells ∧ EntsAt h' N cells D.entries ∧ Kept h h' (fun c => c = d) ∧ h.next ≤ j ∧ j < N ∧ N ≤ h'.next := by
  have hf : D.fault 0 = 0 := by unfold Dk.fault; rw [hd, if_neg (by simp), if_neg (by omega)]
  have e53 : CD 53 [ptr d 0, .int .i64 0] h = some (.int .i64 0, h) := CD_known (by rw [X53, s53_at 0 x, hf])
  have hst := x.s5 (IntKind.wrap .i64 (D.turn + 1))
  have x1 : IsDk (h.set d D.opened.hdr) d D.opened := x.setHdr ⟨rfl, rfl, rfl⟩ x.after x.keep
  have hst : stN 1 (ptr d 5) (.int .i64 (IntKind.wrap .i64 (D.turn + 1))) h = some (undef, h.set d D.opened.hdr) := hst
  have k1 : Kept h (h.set d D.opened.hdr) (fun c => c = d) := Kept.set x.dn x.hdr (.inr rfl)
  have hn1 : (h.set d D.opened.hdr).next = h.next := rfl
  have hdlt := x.lt
  generalize hh1 : h.set d D.opened.hdr = h1 at *
  have hl5 : ld1 (ptr d 5) h1 = some (.int .i64 D.opened.turn, h1) := x1.l5
  have hbl : bldR [(.pointer none), (.int .i64 0), (.int .i64 0), (.int .i64 0), (.int .u64 0), (.int .u64 0), (.bool false), (.int .i64 0)] [(0, 1, ptr d 0), (1, 1, .int .i64 D.opened.turn), (2, 1, (.int .i64 (-1)))] = some (.agg ((D.opened.jn0 D.opened.turn).cells d).toArray) := rfl
  have hbox := box_at h1 ((D.opened.jn0 D.opened.turn).cells d) rfl
  have oA : Old h1 (h1.alloc ((D.opened.jn0 D.opened.turn).cells d)) := Kept.alloc _ _ _
  have xA := Old.dk oA x1
  have jA : IsJn (h1.alloc ((D.opened.jn0 D.opened.turn).cells d)) h1.next d (D.opened.jn0 D.opened.turn) := ⟨by rw [Heap.get_alloc, if_pos rfl], h1.n0_le_next, by show (0 : Nat) ≤ 1; omega⟩
  have nA : (h1.alloc ((D.opened.jn0 D.opened.turn).cells d)).next = h1.next + 1 := Heap.next_alloc ..
  have kA : Kept h (h1.alloc ((D.opened.jn0 D.opened.turn).cells d)) (fun c => c = d) := k1.also oA (fun _ _ h => h.elim)
  have h2' : 2 ≤ D.opened.n := h2
  have hr : (131 : Nat) < rounds := by have : rounds = 18446744073709551616 := rfl; omega
  generalize hhA : h1.alloc ((D.opened.jn0 D.opened.turn).cells d) = hA at *
  have key : ∀ o : Out, t21 CD (ptr d 0) h = o → ∃ v cells N h', o = some (.tuple #[ptr h1.next 0, v, .int .i64 0], h') ∧ IsDk h' d D.opened ∧ IsJn h' h1.next d D.jn ∧ OwnC h' N 2 v D.entries.length cells ∧ EntsAt h' N cells D.entries ∧ Kept h h' (fun c => c = d) ∧ h1.next < N ∧ N ≤ h'.next := by
    intro o ho
    subst ho
    unfold t21
    simp -implicitDefEqProofs only [thenV_some, e53, pu_some, bin28n0, bne_self_eq_false, nilCheck_ptr, addP_ptr, Nat.zero_add, x.l5, bin_add, hst, hl5, hbl, hbox]
    refine endL_fin (Q := fun (o : Out) => ∃ v cells N h', o = some (.tuple #[ptr h1.next 0, v, .int .i64 0], h') ∧ IsDk h' d D.opened ∧ IsJn h' h1.next d D.jn ∧ OwnC h' N 2 v D.entries.length cells ∧ EntsAt h' N cells D.entries ∧ Kept h h' (fun c => c = d) ∧ h1.next < N ∧ N ≤ h'.next)
      (loop_fin (t21l21_1111010_eq CD) (slot_round xA jA h2') 2 (by omega) ⟨D.opened.jn0 D.opened.turn, rfl, rfl, jA, Kept.refl _ _, .inl ⟨rfl, rfl, rfl⟩⟩) ?_
    rintro ex y g ⟨rfl, f0, f6, fJ, fk⟩
    have xg : IsDk g d D.opened := fk.dk xA (fun h => (jA.ne_d xA) h.symm) (fun h => (jA.ne_bb xA) h.symm)
    have kg : Kept h g (fun c => c = d) := kA.also fk (fun c hc he => by omega)
    have hgn : h1.next < g.next := by have := fk.next; omega
    simp -implicitDefEqProofs only [endL_exit, b21_9, if_true, t21k21_7_eq]
    unfold t21k21_7
    simp -implicitDefEqProofs only [thenV_some]
    refine endL_fin (Q := fun (o : Out) => ∃ v cells N h', o = some (.tuple #[ptr h1.next 0, v, .int .i64 0], h') ∧ IsDk h' d D.opened ∧ IsJn h' h1.next d D.jn ∧ OwnC h' N 2 v D.entries.length cells ∧ EntsAt h' N cells D.entries ∧ Kept h h' (fun c => c = d) ∧ h1.next < N ∧ N ≤ h'.next)
      (loop_fin (t21l21_111111010_eq CD) (ent_round xg fJ h2') D.opened.ar (by have : rounds = 18446744073709551616 := rfl; have := xg.small; unfold Dk.ar; omega) ⟨0, [], [], f0, f6, rfl, OwnC.nil _ _ _, EntsAt.nil _ _, Kept.refl _ _, Nat.zero_le _, by omega, rfl, Nat.le_refl _⟩) ?_
    rintro ex z g2 ⟨rfl, q6, cells, q1, q2, q3⟩
    refine ⟨z 14, cells, g.next, g2, ?_, Old.dk q3 xg, fJ.keep q3 (fun h => h), q1, q2, kg.also q3 (fun _ _ h => h.elim), hgn, q3.next⟩
    simp -implicitDefEqProofs only [endL_exit, b21_13, if_true, t21k21_11_eq]
    unfold t21k21_11
    simp -implicitDefEqProofs only [thenV_some, q6]
  obtain ⟨v, cells, N, h', e, a1, a2, a3, a4, a5, a6, a7⟩ := key _ rfl
  exact ⟨h1.next, v, cells, N, h', CD_body is21 rfl ((t21_eq _ _ _).trans e), a1, a2, a3, a4, a5, by omega, a6, a7⟩
end Go.Proofs.Ytcmfgmhadeeieaa

namespace Go.Proofs.Ytcmfgmhadeeieaa
open Go Go.Abs

/-- A list of records that lies apart from some blocks. -/
def RecsG (h : Heap) (F : Nat → Prop) (v : Value) (vals : List (List Nat)) : Prop :=
  ∃ a c, v = .slice a vals.length c ∧ ∀ i r, vals[i]? = some r → ∃ b off s k ai ni ci, a = some ⟨b, off, s⟩ ∧ h.get b = some k ∧ ¬ F b ∧ k[off + i]? = some (.slice ai ni ci) ∧ sliceBytes ai ni h = some r ∧ goodS ai ni ci = true ∧ ∀ y, ai = some y → 0 < ni → ¬ F y.block
theorem RecsG.keep {h h' : Heap} {F B : Nat → Prop} {v : Value} {vals : List (List Nat)} (R : RecsG h F v vals) (k : Kept h h' B) (hB : ∀ c, B c → F c ∨ h.next ≤ c) : RecsG h' F v vals := by
  obtain ⟨a, c, rfl, hR⟩ := R
  refine ⟨a, c, rfl, fun i r hi => ?_⟩
  obtain ⟨b, off, s, kk, ai, ni, ci, h1, h2, h3, h4, h5, h6, h7⟩ := hR i r hi
  refine ⟨b, off, s, kk, ai, ni, ci, h1, k.getE h2 (fun hb => (hB b hb).elim h3 (fun h8 => by have := h.lt_of_get h2; omega)), h3, h4, k.bytes h5 (fun y hy hn hb => ?_), h6, h7⟩
  rcases hB _ hb with h8 | h8
  · exact h7 y hy hn h8
  · subst hy
    obtain ⟨b', o', s', e, hlt⟩ := sliceBytes_lt h5 hn
    cases e
    have : h.next ≤ b' := h8
    omega
theorem RecsG.at {h : Heap} {F : Nat → Prop} {v : Value} {vals : List (List Nat)} (R : RecsG h F v vals) {i : Nat} {r : List Nat} (hi : vals[i]? = some r) :
    ∃ p a n c, idxS 1 v (i64n i) = some p ∧ ld1 p h = some (.slice a n c, h) ∧ sliceBytes a n h = some r ∧ goodS a n c = true ∧ (∀ y, a = some y → 0 < n → ¬ F y.block) ∧ lenL v = some (i64n vals.length) := by
  obtain ⟨a, c, rfl, hR⟩ := R
  obtain ⟨b, off, s, kk, ai, ni, ci, rfl, h2, h3, h4, h5, h6, h7⟩ := hR i r hi
  have hl := (List.getElem?_eq_some_iff.1 hi).1
  refine ⟨ptr b (off + i * 1), ai, ni, ci, ?_, ?_, h5, h6, h7, rfl⟩
  · unfold idxS
    simp only [i64n]
    rw [if_pos (by omega), Int.toNat_natCast]
  · rw [Nat.mul_one]; exact ld1_at h2 h4
theorem RecsG.len {h : Heap} {F : Nat → Prop} {v : Value} {vals : List (List Nat)} (R : RecsG h F v vals) : lenL v = some (i64n vals.length) := by
  obtain ⟨a, c, rfl, hR⟩ := R
  rfl

def recsTot (vals : List (List Nat)) : Nat := (vals.map fun r => costN r.length).sum
theorem recsTot_take {vals : List (List Nat)} {i : Nat} {r : List Nat} (hi : vals[i]? = some r) : recsTot (vals.take (i + 1)) = recsTot (vals.take i) + costN r.length := by
  unfold recsTot
  rw [List.take_add_one, hi]
  simp
theorem recsTot_le (vals : List (List Nat)) (i : Nat) : recsTot (vals.take i) ≤ recsTot vals := by
  have h := congrArg recsTot (List.take_append_drop i vals)
  unfold recsTot at *
  rw [List.map_append, List.sum_append] at h
  omega

section
variable {h0 : Heap} {d j : Nat} {D : Dk} {J : Jn} {F : Nat → Prop} {v : Value} {vals : List (List Nat)} (x : IsDk h0 d D) (xj : IsJn h0 j d J) (h2 : 2 ≤ D.n) (R : RecsG h0 F v vals) (hlen : vals.length ≤ 100000)
def needInv (h0 : Heap) (j : Nat) (D : Dk) (v : Value) (vals : List (List Nat)) (k : Nat) (y : Nat → Value) (g : Heap) : Prop :=
  g = h0 ∧ ∃ i, i + k = vals.length ∧ y 0 = ptr j 0 ∧ y 1 = v ∧ y 26 = v ∧ y 27 = i64n vals.length ∧ y 28 = i64n i ∧ y 7 = i64n (min (recsTot (vals.take i)) 4096) ∧ y 8 = .bool (decide (D.ar < recsTot (vals.take i))) ∧ ∀ r ∈ vals.take i, r.length ≤ 20000
def needFin (h0 : Heap) (j : Nat) (D : Dk) (v : Value) (vals : List (List Nat)) (ex : Ex) (y : Nat → Value) (g : Heap) : Prop :=
  g = h0 ∧ ((ex = .ret ∧ y 4 = .slice none 0 0 ∧ y 5 = .int .i64 3 ∧ ∃ r ∈ vals, 20000 < r.length) ∨ (ex = .exit 0 ∧ y 0 = ptr j 0 ∧ y 1 = v ∧ y 8 = .bool (decide (D.ar < recsTot vals)) ∧ ∀ r ∈ vals, r.length ≤ 20000))
include x xj h2 R hlen
theorem need_round : ∀ k y g, needInv h0 j D v vals k y g → Rnd 151 (needInv h0 j D v vals) (needFin h0 j D v vals) k (t23l23_111010 CD y g) := by
  rintro k y g ⟨rfl, i, hik, i0, i1, i26, i27, i28, i7, i8, hall⟩
  have hsm := x.small
  have har : D.ar = (D.n - 2) / 2 := rfl
  unfold t23l23_111010
  simp -implicitDefEqProofs only [i28, i27, lss3, pu_some, thenV_some]
  by_cases hz : k = 0
  · subst hz
    have hi : i = vals.length := by omega
    subst hi
    rw [List.take_length] at i8 hall
    simp -implicitDefEqProofs only [Nat.lt_irrefl, decide_false]
    exact Rnd.out 0 ⟨rfl, .inr ⟨rfl, i0, i1, i8, hall⟩⟩
  · obtain ⟨q, rfl⟩ : ∃ q, k = q + 1 := ⟨k - 1, by omega⟩
    have hlt : i < vals.length := by omega
    have hi : vals[i]? = some vals[i] := List.getElem?_eq_getElem hlt
    generalize vals[i] = r at hi
    obtain ⟨p, a, n, c, e1, e2, e3, e4, e5, e6⟩ := R.at hi
    have hrl := (sliceBytes_spec e3).1
    have hg : ∀ z : Nat, bin Try.prog .gtr 3 (i64n z) (.int .i64 20000) = some (.bool (decide (20000 < z))) := fun z => gtr3k z 20000
    simp -implicitDefEqProofs only [decide_eq_true hlt, i26, e1, e2, pu_some, thenV_some, lenL_slice]
    rw [show (Value.int .i64 (n : Int)) = i64n n from rfl]
    simp -implicitDefEqProofs only [hg, pu_some, thenV_some]
    by_cases hlong : 20000 < n
    · simp -implicitDefEqProofs only [decide_eq_true hlong]
      exact Rnd.ret ⟨rfl, .inl ⟨rfl, rfl, rfl, r, List.mem_of_getElem? hi, by omega⟩⟩
    · have hcl := costN_le (n := n) (by omega)
      have htk := recsTot_take hi
      rw [hrl] at htk
      have hmn : minmax false (i64n (min (recsTot (vals.take i)) 4096 + costN n)) [.int .i64 4096] = some (i64n (min (recsTot (vals.take (i + 1))) 4096)) := by
        simp only [minmax, i64n, if_true, Bool.false_eq_true, if_false]
        by_cases hc : (4096 : Int) < ((min (recsTot (vals.take i)) 4096 + costN n : Nat) : Int)
        · rw [if_pos (by simpa using hc), Nat.min_eq_right (by omega)]; rfl
        · rw [if_neg (by simpa using hc)]
          exact congrArg (fun z : Nat => some (Value.int .i64 (z : Int))) (by omega)
      simp -implicitDefEqProofs only [decide_eq_false hlong, i7, r15 n g (by omega), thenV_some, add3 (show min (recsTot (vals.take i)) 4096 + costN n ≤ 9223372036854775807 by omega), pu_some, hmn, i8, bOf_bool]
      have hall2 : ∀ r' ∈ vals.take (i + 1), r'.length ≤ 20000 := by
        intro r' hr'
        rw [List.take_add_one, hi] at hr'
        rcases List.mem_append.1 hr' with h | h
        · exact hall r' h
        · have : r' = r := by simpa using h
          rw [this]; omega
      by_cases hf : D.ar < recsTot (vals.take i)
      · simp -implicitDefEqProofs only [decide_eq_true hf, sf, guardK_false, thenV_some, if_true, add31 (show i + 1 ≤ 9223372036854775807 by omega), pu_some]
        refine Rnd.next q (by omega) ⟨rfl, i + 1, by omega, i0, i1, i26, i27, rfl, rfl, ?_, hall2⟩
        have : D.ar < recsTot (vals.take (i + 1)) := by omega
        rw [decide_eq_true this]; rfl
      · have hgf : decide (D.ar < min (recsTot (vals.take (i + 1))) 4096) = decide (D.ar < recsTot (vals.take (i + 1))) := decide_eq_decide.2 (by omega)
        simp -implicitDefEqProofs only [decide_eq_false hf, beq_self_eq_true, guardK_true, thenV_some, i0, nilCheck_ptr, pu_some, addP_ptr, Nat.zero_add, xj.l0, r55 x h2, gtr3, hgf, Bool.false_eq_true, if_false, add31 (show i + 1 ≤ 9223372036854775807 by omega)]
        exact Rnd.next q (by omega) ⟨rfl, i + 1, by omega, i0, i1, i26, i27, rfl, rfl, rfl, hall2⟩
end

/-- The records of a Rewrite are written. -/
def Dk.rwAll (area gen : Nat) : List (List Nat) → Nat → Dk → List Nat → Int × Dk × Nat × List Nat
  | [], at_, D, ps => (0, D, at_, ps)
  | r :: rs, at_, D, ps => if (D.wrRec area gen at_ r).1 = 0 then Dk.rwAll area gen rs (at_ + costN r.length) (D.wrRec area gen at_ r).2 (ps ++ [at_]) else ((D.wrRec area gen at_ r).1, (D.wrRec area gen at_ r).2, at_, ps)

def rwF (j d : Nat) (D : Dk) (c : Nat) : Prop := c = j ∨ c = d ∨ c = D.bb
section
variable {h0 : Heap} {d j : Nat} {D : Dk} {J : Jn} {v : Value} {vals : List (List Nat)} {area gen : Nat} {slot : Int} (x : IsDk h0 d D) (xj : IsJn h0 j d J) (h2 : 2 ≤ D.n) (R : RecsG h0 (rwF j d D) v vals) (hlen : vals.length ≤ 100000)
  (ha : area ≤ 1) (hg : gen < 18446744073709551616) (htot : recsTot vals ≤ D.ar) (hall : ∀ r ∈ vals, r.length ≤ 20000)
def rwInv (h0 : Heap) (N d j : Nat) (D : Dk) (v : Value) (vals : List (List Nat)) (area gen : Nat) (slot : Int) (k : Nat) (y : Nat → Value) (g : Heap) : Prop :=
  ∃ i E ps, i + k = vals.length ∧ y 0 = ptr j 0 ∧ y 81 = v ∧ y 82 = i64n vals.length ∧ y 83 = i64n i ∧ y 11 = i64n area ∧ y 12 = .int .i64 slot ∧ y 13 = .int .u64 gen ∧ y 14 = i64n (recsTot (vals.take i)) ∧ ps.length = i ∧ OwnC g N 1 (y 15) i (ps.map i64n) ∧ IsDk g d E ∧ E.bb = D.bb ∧ E.n = D.n ∧
    DkOnly d D.bb h0 g ∧ Dk.rwAll area gen (vals.drop i) (recsTot (vals.take i)) E ps = Dk.rwAll area gen vals 0 D []
def rwFin (h0 : Heap) (N d j : Nat) (D : Dk) (vals : List (List Nat)) (area gen : Nat) (slot : Int) (ex : Ex) (y : Nat → Value) (g : Heap) : Prop :=
  IsDk g d (Dk.rwAll area gen vals 0 D []).2.1 ∧ (Dk.rwAll area gen vals 0 D []).2.1.bb = D.bb ∧ (Dk.rwAll area gen vals 0 D []).2.1.n = D.n ∧ DkOnly d D.bb h0 g ∧
    ((ex = .ret ∧ y 4 = .slice none 0 0 ∧ y 5 = .int .i64 (Dk.rwAll area gen vals 0 D []).1 ∧ (Dk.rwAll area gen vals 0 D []).1 ≠ 0) ∨
     (ex = .exit 2 ∧ y 0 = ptr j 0 ∧ y 11 = i64n area ∧ y 12 = .int .i64 slot ∧ y 13 = .int .u64 gen ∧ (Dk.rwAll area gen vals 0 D []).1 = 0 ∧ (Dk.rwAll area gen vals 0 D []).2.2.1 = recsTot vals ∧ y 14 = i64n (recsTot vals) ∧ (Dk.rwAll area gen vals 0 D []).2.2.2.length = vals.length ∧
      OwnC g N 1 (y 15) vals.length ((Dk.rwAll area gen vals 0 D []).2.2.2.map i64n)))
include x xj h2 R hlen ha hg htot hall
theorem rw_round : ∀ k y g, rwInv h0 h0.next d j D v vals area gen slot k y g → Rnd 151 (rwInv h0 h0.next d j D v vals area gen slot) (rwFin h0 h0.next d j D vals area gen slot) k (t23l23_11111111010 CD y g) := by
  rintro k y g ⟨i, E, ps, hik, i0, i81, i82, i83, i11, i12, i13, i14, hps, own, xg, hEb, hEn, hk, hrw⟩
  have hsm := x.small
  have hdl := x.lt
  have hbl := x.blt
  have har : D.ar = (D.n - 2) / 2 := rfl
  have jg : IsJn g j d J := xj.keep hk (fun h => h.elim (xj.ne_d x) (xj.ne_bb x))
  have Rg : RecsG g (rwF j d D) v vals := R.keep hk (fun c hc => .inl (.inr hc))
  unfold t23l23_11111111010
  simp -implicitDefEqProofs only [i83, i82, lss3, pu_some, thenV_some]
  by_cases hz : k = 0
  · subst hz
    have hi : i = vals.length := by omega
    subst hi
    rw [List.drop_length, List.take_length] at hrw
    rw [List.take_length] at i14
    have hrw : (0, E, recsTot vals, ps) = Dk.rwAll area gen vals 0 D [] := hrw
    simp -implicitDefEqProofs only [Nat.lt_irrefl, decide_false]
    refine Rnd.out 2 ?_
    unfold rwFin
    rw [← hrw]
    exact ⟨xg, hEb, hEn, hk, .inr ⟨rfl, i0, i11, i12, i13, rfl, rfl, i14, hps, own⟩⟩
  · obtain ⟨q, rfl⟩ : ∃ q, k = q + 1 := ⟨k - 1, by omega⟩
    have hlt : i < vals.length := by omega
    have hi : vals[i]? = some vals[i] := List.getElem?_eq_getElem hlt
    have hdrop : vals.drop i = vals[i] :: vals.drop (i + 1) := (List.getElem_cons_drop hlt).symm
    have hr20 := hall vals[i] (List.getElem_mem hlt)
    rw [hdrop] at hrw
    generalize hrr : vals[i] = r at hi hrw hr20
    obtain ⟨p, a, n, c, e1, e2, e3, e4, e5, e6⟩ := Rg.at hi
    have hrl := (sliceBytes_spec e3).1
    have htk := recsTot_take hi
    have htl := recsTot_le vals (i + 1)
    have hcl := costN_le (n := r.length) (by omega)
    obtain ⟨g1, f1, x1, b1, n1, k1⟩ := r59 xg jg (by omega) ha hg (at_ := recsTot (vals.take i)) (by omega) e3 e4 (by omega) (fun y hy hn hb => e5 y hy hn (.inr (.inr (hb.trans hEb))))
    have hrw2 : (if (E.wrRec area gen (recsTot (vals.take i)) r).1 = 0 then Dk.rwAll area gen (vals.drop (i + 1)) (recsTot (vals.take i) + costN r.length) (E.wrRec area gen (recsTot (vals.take i)) r).2 (ps ++ [recsTot (vals.take i)]) else ((E.wrRec area gen (recsTot (vals.take i)) r).1, (E.wrRec area gen (recsTot (vals.take i)) r).2, recsTot (vals.take i), ps)) = Dk.rwAll area gen vals 0 D [] := hrw
    rw [hEb] at b1 k1
    have kk1 : DkOnly d D.bb h0 g1 := hk.trans k1
    generalize hA : recsTot (vals.take i) = A at *
    simp -implicitDefEqProofs only [decide_eq_true hlt, i81, e1, e2, pu_some, thenV_some, i0, i11, i13, i14, f1, bin28n0]
    by_cases hz2 : (E.wrRec area gen A r).1 = 0
    · rw [if_pos hz2] at hrw2
      have hne : ((E.wrRec area gen A r).1 != 0) = false := by rw [hz2]; rfl
      have own1 : OwnC g1 h0.next 1 (y 15) i (ps.map i64n) := own.keep k1 (fun b hb hc => by
        have := own.base hb
        rcases hc with hc | hc <;> omega)
      have oA : Old g1 (g1.alloc [i64n A]) := Kept.alloc _ _ _
      have gA : (g1.alloc [i64n A]).get g1.next = some [i64n A] := by rw [Heap.get_alloc, if_pos rfl]
      have hbs : bslR 1 (.int .i64 0) 1 [(0, i64n A)] g1 = some (.slice (some ⟨g1.next, 0, none⟩) 1 1, g1.alloc [i64n A]) := rfl
      have own2 := own1.keep oA (fun _ _ h => h)
      have x2 := Old.dk oA x1
      have kk2 : DkOnly d D.bb h0 (g1.alloc [i64n A]) := kk1.also oA (fun _ _ h => h.elim)
      generalize hgA : g1.alloc [i64n A] = g2 at *
      have hfA : firstA 1 1 (.slice (some ⟨g1.next, 0, none⟩) 1 1) g2 = some [i64n A] := by
        simp only [firstA, gA]
        rfl
      obtain ⟨v', g3, q1, q2, q3, q4⟩ := append_own (by_ := 8) (x := .slice (some ⟨g1.next, 0, none⟩) 1 1) (m := 1) own2 (by rw [kk2.n0]; exact h0.n0_le_next) kk2.next (by decide) rfl hfA rfl rfl rfl (by omega) (by omega)
      have x3 : IsDk g3 d (E.wrRec area gen A r).2 := q3.dk x2 (fun h => by have := own2.base h.1; omega) (fun h => by have := own2.base h.1; rw [b1] at this; omega)
      have kk3 : DkOnly d D.bb h0 g3 := ⟨q3.n0.trans kk2.n0, Nat.le_trans kk2.next q3.next, fun e he hc =>
        (q3.get e (Nat.lt_of_lt_of_le he kk2.next) (fun h => by have := own2.base h.1; omega)).trans (kk2.get e he hc)⟩
      rw [hrl] at htk hcl hrw2
      have hpl : (ps ++ [A]).length = i + 1 := by simp [hps]
      have hmap : (ps ++ [A]).map i64n = ps.map i64n ++ [i64n A] := by simp
      simp -implicitDefEqProofs only [hne, thenV_some, hbs, q1, lenL_slice, pu_some]
      rw [show (Value.int .i64 (n : Int)) = i64n n from rfl]
      simp -implicitDefEqProofs only [r15 n g3 (by omega), thenV_some, add3 (show A + costN n ≤ 9223372036854775807 by omega), add31 (show i + 1 ≤ 9223372036854775807 by omega), pu_some]
      refine Rnd.next q (by omega) ⟨i + 1, _, ps ++ [A], by omega, i0, i81, i82, rfl, i11, i12, i13, ?_, hpl, by rw [hmap]; exact q2, x3, b1, n1.trans hEn, kk3, ?_⟩
      · show i64n (A + costN n) = _
        rw [htk]
      · rw [htk]; exact hrw2
    · rw [if_neg hz2] at hrw2
      have hne : ((E.wrRec area gen A r).1 != 0) = true := by rw [bne_iff_ne]; exact hz2
      simp -implicitDefEqProofs only [hne, thenV_some]
      refine Rnd.ret ?_
      unfold rwFin
      rw [← hrw2]
      exact ⟨x1, b1, n1.trans hEn, kk1, .inl ⟨rfl, rfl, rfl, hz2⟩⟩
end
end Go.Proofs.Ytcmfgmhadeeieaa

namespace Go.Proofs.Ytcmfgmhadeeieaa
open Go Go.Abs

def superBody (gen area : Nat) : List Nat := beB 4 1398034252 ++ beB 8 gen ++ beB 1 area
def superBlk (gen area : Nat) : List Nat := sealB (superBody gen area)
def Jn.newArea (J : Jn) : Nat := if 0 ≤ J.slot then 1 - J.area else 0
def Jn.newSlot (J : Jn) : Int := if 0 ≤ J.slot then 1 - J.slot else 0
/-- Rewrite: the error, the disk, the journal, the positions. -/
def Jn.rewrite (J : Jn) (D : Dk) (vals : List (List Nat)) : Int × Dk × Jn × List Nat :=
  if J.live D = false then (9, D, J, []) else
  if (vals.any fun r => decide (20000 < r.length)) = true then (3, D, J, []) else
  if D.ar < recsTot vals ∨ J.known = 18446744073709551615 then (8, D, J, []) else
  if (Dk.rwAll J.newArea (J.known + 1) vals 0 D []).1 = 0 then
    if ((Dk.rwAll J.newArea (J.known + 1) vals 0 D []).2.1.write J.newSlot (superBlk (J.known + 1) J.newArea)).1 = 0 then
      (0, ((Dk.rwAll J.newArea (J.known + 1) vals 0 D []).2.1.write J.newSlot (superBlk (J.known + 1) J.newArea)).2,
        { turn := J.turn, slot := J.newSlot, area := J.newArea, gen := J.known + 1, known := J.known + 1, ready := true, fin := recsTot vals }, (Dk.rwAll J.newArea (J.known + 1) vals 0 D []).2.2.2)
    else (((Dk.rwAll J.newArea (J.known + 1) vals 0 D []).2.1.write J.newSlot (superBlk (J.known + 1) J.newArea)).1, ((Dk.rwAll J.newArea (J.known + 1) vals 0 D []).2.1.write J.newSlot (superBlk (J.known + 1) J.newArea)).2, J, [])
  else ((Dk.rwAll J.newArea (J.known + 1) vals 0 D []).1, (Dk.rwAll J.newArea (J.known + 1) vals 0 D []).2.1, J, [])
theorem Jn.newArea_le (J : Jn) : J.newArea ≤ 1 := by unfold Jn.newArea; split <;> omega

/-- What a Rewrite leaves. -/
def RwPost (h : Heap) (d j : Nat) (D : Dk) (J : Jn) (vals : List (List Nat)) (o : Out) : Prop :=
  ∃ v h', o = some (.tuple #[v, .int .i64 (J.rewrite D vals).1], h') ∧ IsDk h' d (J.rewrite D vals).2.1 ∧ (J.rewrite D vals).2.1.bb = D.bb ∧ (J.rewrite D vals).2.1.n = D.n ∧ IsJn h' j d (J.rewrite D vals).2.2.1 ∧ JdOnly j d D.bb h h' ∧
    OwnC h' h.next 1 v (J.rewrite D vals).2.2.2.length ((J.rewrite D vals).2.2.2.map i64n)
theorem is23 : IsFn Try.prog 23 Try.f23 := ⟨by kernel_rfl, by kernel_rfl, by kernel_rfl, by kernel_rfl⟩
theorem results23 : Try.f23.results.toList = [.tmp 4, .tmp 5] := by kernel_rfl
theorem res23 (y : Nat → Value) (g : Heap) : resultsA Try.prog Try.f23.results.toList (mkF 151 y) g = some (.tuple #[y 4, y 5], g) := by
  have h4 : (mkF 151 y).getD 4 undef = y 4 := rfl
  have h5 : (mkF 151 y).getD 5 undef = y 5 := rfl
  rw [results23]
  simp only [resultsA, List.mapM_cons, List.mapM_nil, resultA, h4, h5]
  rfl

theorem OwnC.keepL {h h' : Heap} {N size : Nat} {v : Value} {len : Nat} {cells : List Value} (o : OwnC h N size v len cells) {B : Nat → Prop} (k : Kept h h' B) (hB : ∀ b, baseOf v = some b → b < h.next → ¬ B b) : OwnC h' N size v len cells := by
  obtain ⟨h1, h2, h3, h4⟩ := o
  refine ⟨h1, h2, h3, ?_⟩
  rcases h4 with h4 | ⟨b, s, rfl, h5, h6 | ⟨h6, h7⟩⟩
  · exact .inl h4
  · exact .inr ⟨b, s, rfl, h5, .inl h6⟩
  · exact .inr ⟨b, s, rfl, h5, .inr ⟨h6, k.getE h7 (hB b rfl (h.lt_of_get h7))⟩⟩
section
variable {h : Heap} {d j : Nat} {D : Dk} {J : Jn} {v : Value} {vals : List (List Nat)} (x : IsDk h d D) (xj : IsJn h j d J) (h2 : 2 ≤ D.n) (ok : JnOk J D) (R : RecsG h (rwF j d D) v vals) (hlen : vals.length ≤ 100000)
include x xj h2 ok R hlen
omit h2 ok R hlen in
/-- The last block, and the journal's new numbers. -/
theorem rw_end (hl : J.live D = true) (h20 : ∀ r ∈ vals, r.length ≤ 20000) (htot : recsTot vals ≤ D.ar) (hkn : J.known < 18446744073709551615) {y : Nat → Value} {g : Heap} (i0 : y 0 = ptr j 0) (i11 : y 11 = i64n J.newArea) (i12 : y 12 = .int .i64 J.newSlot) (i13 : y 13 = .int .u64 ((J.known + 1 : Nat) : Int)) (i14 : y 14 = i64n (recsTot vals))
    (hz : (Dk.rwAll J.newArea (J.known + 1) vals 0 D []).1 = 0) (xg : IsDk g d (Dk.rwAll J.newArea (J.known + 1) vals 0 D []).2.1) (hbb : (Dk.rwAll J.newArea (J.known + 1) vals 0 D []).2.1.bb = D.bb) (hn : (Dk.rwAll J.newArea (J.known + 1) vals 0 D []).2.1.n = D.n)
    (hk : DkOnly d D.bb h g) (own : OwnC g h.next 1 (y 15) vals.length ((Dk.rwAll J.newArea (J.known + 1) vals 0 D []).2.2.2.map i64n)) (hpl : (Dk.rwAll J.newArea (J.known + 1) vals 0 D []).2.2.2.length = vals.length) : RwPost h d j D J vals (t23k23_16 CD y g) := by
  have hany : (vals.any fun r => decide (20000 < r.length)) = false := by
    rw [List.any_eq_false]
    intro r hr
    have := h20 r hr
    simp; omega
  have hful : ¬ (D.ar < recsTot vals ∨ J.known = 18446744073709551615) := by omega
  have hrw : J.rewrite D vals = if ((Dk.rwAll J.newArea (J.known + 1) vals 0 D []).2.1.write J.newSlot (superBlk (J.known + 1) J.newArea)).1 = 0 then
      (0, ((Dk.rwAll J.newArea (J.known + 1) vals 0 D []).2.1.write J.newSlot (superBlk (J.known + 1) J.newArea)).2,
        { turn := J.turn, slot := J.newSlot, area := J.newArea, gen := J.known + 1, known := J.known + 1, ready := true, fin := recsTot vals }, (Dk.rwAll J.newArea (J.known + 1) vals 0 D []).2.2.2)
    else (((Dk.rwAll J.newArea (J.known + 1) vals 0 D []).2.1.write J.newSlot (superBlk (J.known + 1) J.newArea)).1, ((Dk.rwAll J.newArea (J.known + 1) vals 0 D []).2.1.write J.newSlot (superBlk (J.known + 1) J.newArea)).2, J, []) := by
    unfold Jn.rewrite
    rw [hl, hany, if_neg (by decide), if_neg (by decide), if_neg hful, if_pos hz]
  have hsm := x.small
  have hdl := x.lt
  have hbl := x.blt
  have hjl := xj.lt
  have hNg := hk.next
  have jg : IsJn g j d J := xj.keep hk (fun h => h.elim (xj.ne_d x) (xj.ne_bb x))
  have harea := J.newArea_le
  generalize hE : (Dk.rwAll J.newArea (J.known + 1) vals 0 D []).2.1 = E at *
  generalize hps : (Dk.rwAll J.newArea (J.known + 1) vals 0 D []).2.2.2 = ps at *
  obtain ⟨g1, e1, W1, k1⟩ := r60 g (lim := 124) (by decide)
  have e1 : CD 60 [.int .i64 124] g = _ := e1
  obtain ⟨g2, e2, W2, k2⟩ := r61 W1 (v := 1398034252) (by simp) (by decide)
  have e2 : CD 61 [ptr g.next 0, .int .u32 1398034252] g1 = _ := e2
  obtain ⟨g3, e3, W3, k3⟩ := r62 W2 (v := J.known + 1) (by simp [beB_length]) (by omega)
  obtain ⟨g4, e4, W4, k4⟩ := r63 W3 (v := J.newArea) (by simp [beB_length]) (by omega)
  have hbody : [] ++ beB 4 1398034252 ++ beB 8 (J.known + 1) ++ beB 1 J.newArea = superBody (J.known + 1) J.newArea := by
    unfold superBody; rw [List.nil_append]
  rw [hbody] at W4
  have k14 : Abv g.next g g4 := ((k1.trans k2).trans k3).trans k4
  have j4 : IsJn g4 j d J := jg.keep k14 (by omega)
  have x4 : IsDk g4 d E := k14.dk xg (by omega) (by omega)
  obtain ⟨B, g5, e5, s5, k5, hB⟩ := r64 W4 (by simp [superBody, beB_length])
  have j5 : IsJn g5 j d J := j4.keep k5 (fun h => h)
  have x5 := Old.dk k5 x4
  obtain ⟨e6, x6, b6, n6, k6⟩ := r19 x5 J.newSlot (c := 128) s5 rfl
  have hsb : sealB (superBody (J.known + 1) J.newArea) = superBlk (J.known + 1) J.newArea := rfl
  rw [hsb] at e6 x6 b6 n6 k6
  rw [hbb] at b6 k6
  have hbase : ∀ b, baseOf (y 15) = some b → h.next ≤ b := fun b hb => own.base hb
  have own4 : OwnC g4 h.next 1 (y 15) vals.length (ps.map i64n) := own.keepL k14 (fun b hb hlt hc => by omega)
  have own6 := (own4.keep k5 (fun _ _ h => h)).keep k6 (fun b hb hc => by
    have := hbase b hb
    rcases hc with hc | hc <;> omega)
  have kk6 : DkOnly d D.bb h (putDk g5 d (E.write J.newSlot (superBlk (J.known + 1) J.newArea)).2) := ((hk.also k14 (fun c hc h => by omega)).also k5 (fun _ _ h => h.elim)).trans k6
  have j6 : IsJn (putDk g5 d (E.write J.newSlot (superBlk (J.known + 1) J.newArea)).2) j d J := j5.keep k6 (fun h => h.elim (xj.ne_d x) (xj.ne_bb x))
  generalize hg6 : putDk g5 d (E.write J.newSlot (superBlk (J.known + 1) J.newArea)).2 = g6 at *
  generalize hWW : E.write J.newSlot (superBlk (J.known + 1) J.newArea) = WW at *
  have cv8 : cvI .u8 (i64n J.newArea) g3 = some (.int .u8 (J.newArea : Int), g3) := by
    unfold i64n
    rw [cvI_int, wrap_u8 (by omega) (by omega)]
  have ck := chk_at (rfl : some (ptr d 0, g5) = some (ptr d 0, g5)) (show veq (ptr d 0) (ptr d 0) = true by simp [ptr, veq])
  unfold t23k23_16
  simp -implicitDefEqProofs only [thenV_some, e1, e2, i13, e3, i11, cv8, e4, i0, nilCheck_ptr, pu_some, addP_ptr, Nat.zero_add, j4.l0, i12, e5, e6, j5.l0, ck, Bool.and_true, bin28n0]
  unfold RwPost
  by_cases hz2 : WW.1 = 0
  · rw [if_pos hz2] at hrw
    rw [hrw]
    have hne : (WW.1 != 0) = false := by rw [hz2]; rfl
    obtain ⟨q1, a1, b1, c1, d1⟩ := j6.st 2 (.int .i64 J.newSlot) { J with slot := J.newSlot } (by decide) rfl rfl rfl xj.area
    obtain ⟨q2, a2, b2, c2, d2⟩ := b1.st 3 (i64n J.newArea) { J with slot := J.newSlot, area := J.newArea } (by decide) rfl rfl rfl harea
    obtain ⟨q3, a3, b3, c3, d3⟩ := b2.st 4 (.int .u64 ((J.known + 1 : Nat) : Int)) { J with slot := J.newSlot, area := J.newArea, gen := J.known + 1 } (by decide) rfl rfl rfl harea
    obtain ⟨q4, a4, b4, c4, d4⟩ := b3.st 5 (.int .u64 ((J.known + 1 : Nat) : Int)) { J with slot := J.newSlot, area := J.newArea, gen := J.known + 1, known := J.known + 1 } (by decide) rfl rfl rfl harea
    obtain ⟨q5, a5, b5, c5, d5⟩ := b4.st 6 (.bool true) { J with slot := J.newSlot, area := J.newArea, gen := J.known + 1, known := J.known + 1, ready := true } (by decide) rfl rfl rfl harea
    obtain ⟨q6, a6, b6', c6, d6⟩ := b5.st 7 (i64n (recsTot vals)) { J with slot := J.newSlot, area := J.newArea, gen := J.known + 1, known := J.known + 1, ready := true, fin := recsTot vals } (by decide) rfl rfl rfl harea
    have kj : Kept g6 q6 (fun c => c = j) := ((((c1.trans c2).trans c3).trans c4).trans c5).trans c6
    simp -implicitDefEqProofs only [hne, thenV_some, i0, i12, i11, i13, i14, nilCheck_ptr, pu_some, addP_ptr, Nat.zero_add, a1, a2, a3, a4, a5, a6]
    refine ⟨_, _, rfl, kj.dk x6 (fun h => (j6.ne_d x6) h.symm) (fun h => (j6.ne_bb x6) h.symm), b6, n6.trans hn, b6', (DkOnly.jd kk6).trans (kj.mono (fun c _ hc => .inl hc)), ?_⟩
    show OwnC q6 h.next 1 (y 15) ps.length (ps.map i64n)
    rw [hpl]
    exact own6.keep kj (fun b hb hc => by have := hbase b hb; omega)
  · rw [if_neg hz2] at hrw
    rw [hrw]
    have hne : (WW.1 != 0) = true := by rw [bne_iff_ne]; exact hz2
    simp -implicitDefEqProofs only [hne, thenV_some]
    exact ⟨_, _, rfl, x6, b6, n6.trans hn, j6, DkOnly.jd kk6, OwnC.nil _ _ _⟩

/-- Rewrite. -/
theorem r23 : RwPost h d j D J vals (CD 23 [ptr j 0, v] h) := by
  have key : RwPost h d j D J vals (t23 CD (ptr j 0) v h) := by
    have hdl := x.lt
    have hbl := x.blt
    have hjl := xj.lt
    unfold t23
    simp -implicitDefEqProofs only [thenV_some, r58 x xj, pu_some, bin28n0]
    cases hl : J.live D with
    | false =>
      have hrw : J.rewrite D vals = (9, D, J, []) := by unfold Jn.rewrite; rw [if_pos hl]
      unfold RwPost
      rw [hrw]
      simp -implicitDefEqProofs only [Bool.false_eq_true, if_false, show ((9 : Int) != 0) = true from rfl, thenV_some]
      exact ⟨_, h, rfl, x, trivial, trivial, xj, Kept.refl _ _, OwnC.nil _ _ _⟩
    | true =>
      simp -implicitDefEqProofs only [if_true, bne_self_eq_false, thenV_some, R.len, pu_some]
      refine endL_fin (Q := fun (o : Out) => RwPost h d j D J vals o)
        (loop_fin (t23l23_111010_eq CD) (need_round x xj h2 R hlen) vals.length (by have : rounds = 18446744073709551616 := rfl; omega)
          ⟨rfl, 0, Nat.zero_add _, rfl, rfl, rfl, rfl, rfl, rfl, by show Value.bool false = _; rw [List.take_zero, decide_eq_false (by show ¬ D.ar < 0; omega)], by simp⟩) ?_
      rintro ex y g ⟨rfl, ⟨rfl, y4, y5, r, hr, hlong⟩ | ⟨rfl, i0, i1, i8, h20⟩⟩
      · have hany : (vals.any fun r => decide (20000 < r.length)) = true := by
          rw [List.any_eq_true]
          exact ⟨r, hr, by simpa using hlong⟩
        have hrw : J.rewrite D vals = (3, D, J, []) := by unfold Jn.rewrite; rw [hl, if_neg (by decide), if_pos hany]
        unfold RwPost
        rw [hrw]
        refine ⟨_, g, ?_, x, rfl, rfl, xj, Kept.refl _ _, OwnC.nil _ _ _⟩
        show resultsA Try.prog Try.f23.results.toList (mkF 151 y) g = _
        rw [res23, y4, y5]
      · have hany : (vals.any fun r => decide (20000 < r.length)) = false := by
          rw [List.any_eq_false]
          intro r hr
          have := h20 r hr
          simp; omega
        simp -implicitDefEqProofs only [endL_exit, b23_8, if_true, t23k23_6_eq]
        unfold t23k23_6
        simp -implicitDefEqProofs only [i8, thenV_some, bOf_bool]
        have full : D.ar < recsTot vals ∨ J.known = 18446744073709551615 → RwPost g d j D J vals (some (.tuple #[.slice none 0 0, .int .i64 8], g)) := by
          intro hf
          have hrw : J.rewrite D vals = (8, D, J, []) := by unfold Jn.rewrite; rw [hl, hany, if_neg (by decide), if_neg (by decide), if_pos hf]
          unfold RwPost
          rw [hrw]
          exact ⟨_, g, rfl, x, rfl, rfl, xj, Kept.refl _ _, OwnC.nil _ _ _⟩
        by_cases hf : D.ar < recsTot vals
        · simp -implicitDefEqProofs only [decide_eq_true hf, sf, guardK_false, thenV_some, if_true]
          exact full (.inl hf)
        · have hkeq : bin Try.prog .eql 58 (.int .u64 (J.known : Int)) (.int .u64 18446744073709551615) = some (.bool (J.known == 18446744073709551615)) := by
            rw [bin_eql]
            exact congrArg (fun q => some (Value.bool q)) (int_beq J.known 18446744073709551615)
          simp -implicitDefEqProofs only [decide_eq_false hf, beq_self_eq_true, guardK_true, thenV_some, i0, nilCheck_ptr, pu_some, addP_ptr, Nat.zero_add, xj.l5, hkeq, Bool.false_eq_true, if_false]
          by_cases hkm : J.known = 18446744073709551615
          · have : (J.known == 18446744073709551615) = true := by rw [hkm]; rfl
            simp -implicitDefEqProofs only [this]
            exact full (.inr hkm)
          · have hkf : (J.known == 18446744073709551615) = false := beq_eq_false_iff_ne.2 hkm
            have hkb := ok.known
            have hkn : J.known < 18446744073709551615 := by omega
            have hinc : bin Try.prog .add 58 (.int .u64 (J.known : Int)) (.int .u64 1) = some (.int .u64 ((J.known + 1 : Nat) : Int)) := by
              rw [bin_add, wrap_u64 (by omega) (by omega), Int.natCast_add]; rfl
            have oA : Old g (g.alloc []) := Kept.alloc _ _ _
            have xA := Old.dk oA x
            have jA := xj.keep oA (fun h => h)
            have RA : RecsG (g.alloc []) (rwF j d D) v vals := R.keep oA (fun _ h => h.elim)
            have nA : (g.alloc []).next = g.next + 1 := Heap.next_alloc ..
            have hbsl : bslR 1 (.int .i64 0) 0 [] g = some (.slice (some ⟨g.next, 0, none⟩) 0 0, g.alloc []) := rfl
            have run : ∀ z : Nat → Value, z 0 = ptr j 0 → z 81 = v → z 82 = i64n vals.length → z 83 = i64n 0 → z 11 = i64n J.newArea → z 12 = .int .i64 J.newSlot → z 13 = .int .u64 ((J.known + 1 : Nat) : Int) → z 14 = i64n 0 → z 15 = .slice (some ⟨g.next, 0, none⟩) 0 0 →
                RwPost g d j D J vals (endL (iter (codeA Try.prog CD (partOf Try.f23 [1, 1, 1, 1, 1, 1, 1, 1, 0, 1, 0, 0])) rounds (mkF 151 z) (g.alloc [])) (resultsA Try.prog Try.f23.results.toList) (b23_18 CD)) := by
              intro z z0 z81 z82 z83 z11 z12 z13 z14 z15
              refine endL_fin (Q := fun (o : Out) => RwPost g d j D J vals o)
                (loop_fin (t23l23_11111111010_eq CD) (rw_round x xj h2 R hlen J.newArea_le (by omega) (by omega) h20) vals.length (by have : rounds = 18446744073709551616 := rfl; omega)
                  ⟨0, D, [], Nat.zero_add _, z0, z81, z82, z83, z11, z12, z13, by rw [z14]; rfl, rfl, by rw [z15]; exact OwnC.empty _ (Nat.le_refl _), xA, rfl, rfl, Kept.alloc _ _ _, by rw [List.drop_zero]; rfl⟩) ?_
              rintro ex w q ⟨p1, p2, p3, p4, ⟨rfl, p5, p6, p7⟩ | ⟨rfl, p5, p6, p7, p8, p9, p10, p11, p12, p13⟩⟩
              · have hrw : J.rewrite D vals = ((Dk.rwAll J.newArea (J.known + 1) vals 0 D []).1, (Dk.rwAll J.newArea (J.known + 1) vals 0 D []).2.1, J, []) := by
                  unfold Jn.rewrite
                  rw [hl, hany, if_neg (by decide), if_neg (by decide), if_neg (by omega), if_neg p7]
                unfold RwPost
                rw [hrw]
                refine ⟨_, q, ?_, p1, p2, p3, xj.keep p4 (fun h => h.elim (xj.ne_d x) (xj.ne_bb x)), DkOnly.jd p4, OwnC.nil _ _ _⟩
                show resultsA Try.prog Try.f23.results.toList (mkF 151 w) q = _
                rw [res23, p5, p6]
              · simp -implicitDefEqProofs only [endL_exit, b23_18, if_true, t23k23_16_eq]
                exact rw_end x xj hl h20 (by omega) hkn p5 p6 p7 p8 p11 p9 p1 p2 p3 p4 p13 p12
            simp -implicitDefEqProofs only [hkf, thenV_some, i0, nilCheck_ptr, pu_some, addP_ptr, Nat.zero_add, xj.l5, hinc, xj.l2, bin_geq]
            by_cases hsl : 0 ≤ J.slot
            · have hna : J.newArea = 1 - J.area := by unfold Jn.newArea; rw [if_pos hsl]
              have hns : J.newSlot = 1 - J.slot := by unfold Jn.newSlot; rw [if_pos hsl]
              have s1 : bin Try.prog .sub 3 (.int .i64 1) (i64n J.area) = some (i64n J.newArea) := by rw [hna]; exact sub3 (a := 1) xj.area (by omega)
              have s2 : bin Try.prog .sub 3 (.int .i64 1) (.int .i64 J.slot) = some (.int .i64 J.newSlot) := by
                have := ok.slot
                rw [bin_sub, wrap_i64 (by omega) (by omega), hns]
              have hd : decide (J.slot ≥ 0) = true := decide_eq_true hsl
              simp -implicitDefEqProofs only [hd, thenV_some, i0, nilCheck_ptr, pu_some, addP_ptr, Nat.zero_add, xj.l3, xj.l2, s1, s2, hbsl, i1, R.len]
              exact run _ i0 rfl rfl rfl rfl rfl rfl rfl rfl
            · have hna : J.newArea = 0 := by unfold Jn.newArea; rw [if_neg hsl]
              have hns : J.newSlot = 0 := by unfold Jn.newSlot; rw [if_neg hsl]
              have hd : decide (J.slot ≥ 0) = false := decide_eq_false hsl
              simp -implicitDefEqProofs only [hd, thenV_some, hbsl, i1, R.len, pu_some]
              exact run _ i0 rfl rfl rfl (by rw [hna]; rfl) (by rw [hns]; rfl) rfl rfl rfl
  unfold RwPost at key ⊢
  obtain ⟨pv, h', e, f⟩ := key
  exact ⟨pv, h', CD_body is23 rfl ((t23_eq _ _ _ _).trans e), f⟩
end
end Go.Proofs.Ytcmfgmhadeeieaa

namespace Go.Proofs.Ytcmfgmhadeeieaa
open Go Go.Abs

theorem be_cons (x : Nat) : ∀ l : List Nat, be (x :: l) = x * 256 ^ l.length + be l := by
  have key : ∀ (l : List Nat) (a : Nat), l.foldl (fun v x => v * 256 + x) a = a * 256 ^ l.length + be l := by
    intro l
    induction l with
    | nil => intro a; simp [be]
    | cons y l ih =>
      intro a
      have e1 : be (y :: l) = l.foldl (fun v x => v * 256 + x) (0 * 256 + y) := rfl
      rw [List.foldl_cons, ih, e1, ih, List.length_cons, Nat.pow_succ, Nat.add_mul, Nat.zero_mul, Nat.zero_add, Nat.mul_assoc, Nat.mul_comm 256, Nat.add_assoc]
  intro l
  have e1 : be (x :: l) = l.foldl (fun v x => v * 256 + x) (0 * 256 + x) := rfl
  rw [e1, key, Nat.zero_mul, Nat.zero_add]
theorem be_beB : ∀ n v, be (beB n v) = v % 256 ^ n
  | 0, v => by simp [beB, be, Nat.mod_one]
  | n + 1, v => by
    rw [beB, be_cons, beB_length, be_beB n v, Nat.mod_pow_succ, Nat.mul_comm, Nat.add_comm]
theorem be_beB_lt {n v : Nat} (h : v < 256 ^ n) : be (beB n v) = v := by rw [be_beB, Nat.mod_eq_of_lt h]
theorem field {A F X : List Nat} {n m : Nat} (hA : A.length = n) (hF : F.length = m) : ((A ++ (F ++ X)).drop n).take m = F := by
  rw [List.drop_left' hA, List.take_left' hF]

theorem right_seal {l : List Nat} (hb : ∀ x ∈ l, x < 256) : right (sealB l) = true := by
  have hb2 : ∀ x ∈ l ++ List.replicate (124 - l.length) 0, x < 256 := by
    intro x hx
    rcases List.mem_append.1 hx with hx | hx
    · exact hb x hx
    · rw [List.eq_of_mem_replicate hx]; decide
  have hc := crcN_lt hb2
  unfold right sealB
  rw [List.take_left' (beB_length 4 _), List.drop_left' (beB_length 4 _), be_beB_lt (by omega)]
  exact beq_self_eq_true _

section
variable {gen at_ part parts : Nat} {data : List Nat} (hg : gen < 18446744073709551616) (hat : at_ < 4294967296) (hp : part < 65536) (hps : parts < 65536) (hd : data.length ≤ 106) (hb : ∀ x ∈ data, x < 256)
theorem logBody_byte (hb : ∀ x ∈ data, x < 256) : ∀ x ∈ logBody gen at_ part parts data, x < 256 := by
  intro x hx
  simp only [logBody, List.mem_append] at hx
  rcases hx with ((((hx | hx) | hx) | hx) | hx) | hx
  · exact beB_byte _ _ x hx
  · exact beB_byte _ _ x hx
  · exact beB_byte _ _ x hx
  · exact beB_byte _ _ x hx
  · exact beB_byte _ _ x hx
  · exact hb x hx
/-- The parts of a log block. -/
theorem logBlk_parts (gen at_ part parts : Nat) (data : List Nat) : ∃ C Z : List Nat, C.length = 4 ∧ logBlk gen at_ part parts data = C ++ (beB 8 gen ++ (beB 4 at_ ++ (beB 2 part ++ (beB 2 parts ++ (beB 2 data.length ++ (data ++ Z)))))) := by
  refine ⟨beB 4 (crcN (logBody gen at_ part parts data ++ List.replicate (124 - (logBody gen at_ part parts data).length) 0)), List.replicate (124 - (logBody gen at_ part parts data).length) 0, beB_length 4 _, ?_⟩
  simp only [logBlk, sealB, logBody, List.append_assoc]
theorem logBlk_length (hd : data.length ≤ 106) : (logBlk gen at_ part parts data).length = 128 := sealB_length (by rw [logBody_length]; omega)
theorem right_log (hb : ∀ x ∈ data, x < 256) : right (logBlk gen at_ part parts data) = true := right_seal (logBody_byte hb)
include hg in
theorem logGen_log : logGen (logBlk gen at_ part parts data) = gen := by
  obtain ⟨C, Z, hC, e⟩ := logBlk_parts gen at_ part parts data
  unfold logGen
  rw [e, field hC (beB_length 8 _), be_beB_lt (by omega)]
include hat in
theorem logPlace_log : logPlace (logBlk gen at_ part parts data) = at_ := by
  obtain ⟨C, Z, hC, e⟩ := logBlk_parts gen at_ part parts data
  unfold logPlace
  rw [e, ← List.append_assoc, field (by rw [List.length_append, hC, beB_length]) (beB_length 4 _), be_beB_lt (by omega)]
include hp in
theorem logPart_log : logPart (logBlk gen at_ part parts data) = part := by
  obtain ⟨C, Z, hC, e⟩ := logBlk_parts gen at_ part parts data
  unfold logPart
  rw [e, ← List.append_assoc, ← List.append_assoc, field (by simp only [List.length_append, hC, beB_length]) (beB_length 2 _), be_beB_lt (by omega)]
include hps in
theorem logParts_log : logParts (logBlk gen at_ part parts data) = parts := by
  obtain ⟨C, Z, hC, e⟩ := logBlk_parts gen at_ part parts data
  unfold logParts
  rw [e, ← List.append_assoc, ← List.append_assoc, ← List.append_assoc, field (by simp only [List.length_append, hC, beB_length]) (beB_length 2 _), be_beB_lt (by omega)]
include hd in
theorem logSize_log : logSize (logBlk gen at_ part parts data) = data.length := by
  obtain ⟨C, Z, hC, e⟩ := logBlk_parts gen at_ part parts data
  unfold logSize
  rw [e, ← List.append_assoc, ← List.append_assoc, ← List.append_assoc, ← List.append_assoc, field (by simp only [List.length_append, hC, beB_length]) (beB_length 2 _), be_beB_lt (by omega)]
include hd in
theorem logData_log : logData (logBlk gen at_ part parts data) = data := by
  have hs := logSize_log (gen := gen) (at_ := at_) (part := part) (parts := parts) hd
  obtain ⟨C, Z, hC, e⟩ := logBlk_parts gen at_ part parts data
  unfold logData
  rw [hs, if_pos hd, e, ← List.append_assoc, ← List.append_assoc, ← List.append_assoc, ← List.append_assoc, ← List.append_assoc, field (by simp only [List.length_append, hC, beB_length]) rfl]
include hat hp hps hd hb in
theorem logOk_log (at2 : Nat) (h1 : 1 ≤ parts) (h2 : part < parts) : logOk at2 (logBlk gen at_ part parts data) = (at_ == at2) := by
  unfold logOk
  rw [right_log hb, logPlace_log hat, logParts_log hps, logPart_log hp, logSize_log hd, decide_eq_true h1, decide_eq_true h2, decide_eq_true hd]
  simp
end

theorem superBody_byte (gen area : Nat) : ∀ x ∈ superBody gen area, x < 256 := by
  intro x hx
  simp only [superBody, List.mem_append] at hx
  rcases hx with (hx | hx) | hx
  · exact beB_byte _ _ x hx
  · exact beB_byte _ _ x hx
  · exact beB_byte _ _ x hx
theorem superBlk_length (gen area : Nat) : (superBlk gen area).length = 128 := sealB_length (by simp [superBody, beB_length])
theorem superBlk_parts (gen area : Nat) : ∃ C Z : List Nat, C.length = 4 ∧ superBlk gen area = C ++ (beB 4 1398034252 ++ (beB 8 gen ++ (beB 1 area ++ Z))) := by
  refine ⟨beB 4 (crcN (superBody gen area ++ List.replicate (124 - (superBody gen area).length) 0)), List.replicate (124 - (superBody gen area).length) 0, beB_length 4 _, ?_⟩
  simp only [superBlk, sealB, superBody, List.append_assoc]
theorem superGen_super {gen area : Nat} (hg : gen < 18446744073709551616) : superGen (superBlk gen area) = gen := by
  obtain ⟨C, Z, hC, e⟩ := superBlk_parts gen area
  unfold superGen
  rw [e, ← List.append_assoc, field (by simp only [List.length_append, hC, beB_length]) (beB_length 8 _), be_beB_lt (by omega)]
theorem superArea_super {gen area : Nat} (ha : area ≤ 1) : superArea (superBlk gen area) = area := by
  obtain ⟨C, Z, hC, e⟩ := superBlk_parts gen area
  unfold superArea
  rw [e, ← List.append_assoc, ← List.append_assoc, field (by simp only [List.length_append, hC, beB_length]) (beB_length 1 _), be_beB_lt (by omega)]
theorem superOk_super {gen area : Nat} (ha : area ≤ 1) : superOk (superBlk gen area) = true := by
  have h1 := superArea_super (gen := gen) ha
  obtain ⟨C, Z, hC, e⟩ := superBlk_parts gen area
  unfold superOk
  rw [show right (superBlk gen area) = true from right_seal (superBody_byte gen area), h1, decide_eq_true ha, e, field hC (beB_length 4 _), be_beB_lt (by decide)]
  rfl
theorem right_zero : right (List.replicate 128 0) = false := by kernel_rfl
theorem superOk_zero : superOk (List.replicate 128 0) = false := by unfold superOk; rw [right_zero]; rfl
theorem logOk_zero (at_ : Nat) : logOk at_ (List.replicate 128 0) = false := by unfold logOk; rw [right_zero]; rfl

/-- The chunks of a record are the record. -/
theorem chunks (r : List Nat) : (List.range (costN r.length)).flatMap (chunk r) = r := by
  have key : ∀ k, (List.range k).flatMap (chunk r) = r.take (106 * k) := by
    intro k
    induction k with
    | zero => simp
    | succ k ih =>
      rw [List.range_succ, List.flatMap_append, ih]
      simp only [List.flatMap_cons, List.flatMap_nil, List.append_nil, chunk]
      rw [Nat.mul_succ, List.take_add]
  rw [key, List.take_of_length_le (costN_room _)]

/-- A record is placed. -/
def Dk.placed (D : Dk) (area gen at_ : Nat) (r : List Nat) : Prop := ∀ i, i < costN r.length → D.jb area (at_ + i) = logBlk gen (at_ + i) i (costN r.length) (chunk r i)
theorem chunk_byte {r : List Nat} (hb : ∀ x ∈ r, x < 256) (i : Nat) : ∀ x ∈ chunk r i, x < 256 := fun x hx => hb x (List.mem_of_mem_drop (List.mem_of_mem_take hx))
theorem Dk.placed_stands {D : Dk} {area gen at_ : Nat} {r : List Nat} (p : D.placed area gen at_ r) (hg : gen < 18446744073709551616) (hr : r.length ≤ 20000) (hb : ∀ x ∈ r, x < 256) (hfit : at_ + costN r.length ≤ D.ar) (har : D.ar ≤ 4096) :
    D.stands area gen at_ = true ∧ D.parts area at_ = costN r.length ∧ D.data area at_ (costN r.length) = r := by
  have hc := costN_le (n := r.length) (by omega)
  have hp := costN_pos r.length
  have h0 := p 0 (by omega)
  have hparts : D.parts area at_ = costN r.length := by
    unfold Dk.parts
    rw [Nat.add_zero] at h0
    rw [h0, logParts_log (by omega)]
  refine ⟨?_, hparts, ?_⟩
  · unfold Dk.stands
    rw [hparts, decide_eq_true hfit, decide_eq_true hp, Bool.true_and, Bool.true_and, List.all_eq_true]
    intro i hi
    have hi := List.mem_range.1 hi
    unfold Dk.part
    have hcl := chunk_length r i
    rw [p i hi, logOk_log (by omega) (by omega) (by omega) hcl (chunk_byte hb i) _ hp hi, logGen_log hg, logPart_log (by omega), logParts_log (by omega)]
    simp
  · unfold Dk.data
    have : (List.range (costN r.length)).flatMap (fun i => logData (D.jb area (at_ + i))) = (List.range (costN r.length)).flatMap (chunk r) := by
      have hcong : ∀ (l : List Nat) (f g : Nat → List Nat), (∀ i ∈ l, f i = g i) → l.flatMap f = l.flatMap g := by
        intro l f g
        induction l with
        | nil => intro _; rfl
        | cons a l ih =>
          intro h
          rw [List.flatMap_cons, List.flatMap_cons, h a List.mem_cons_self, ih (fun i hi => h i (List.mem_cons_of_mem _ hi))]
      refine hcong _ _ _ (fun i hi => ?_)
      rw [p i (List.mem_range.1 hi), logData_log (chunk_length r i)]
    rw [this, chunks]

/-- Two disks but for what stands on them. -/
structure Alike (D E : Dk) : Prop where
  bb : E.bb = D.bb
  n : E.n = D.n
  down : E.down = D.down
  armed : E.armed = D.armed
  turn : E.turn = D.turn
  len : E.img.length = D.img.length
theorem Alike.refl (D : Dk) : Alike D D := ⟨rfl, rfl, rfl, rfl, rfl, rfl⟩
theorem Alike.trans {A B C : Dk} (a : Alike A B) (b : Alike B C) : Alike A C := ⟨b.bb.trans a.bb, b.n.trans a.n, b.down.trans a.down, b.armed.trans a.armed, b.turn.trans a.turn, b.len.trans a.len⟩
theorem Alike.ar {D E : Dk} (a : Alike D E) : E.ar = D.ar := by unfold Dk.ar; rw [a.n]

/-- A block written with power. -/
theorem write_up {D : Dk} (hlen : D.img.length = 128 * D.n) (hd : D.down = false) (ha : D.armed = false) {i : Nat} (hi : i < D.n) {l : List Nat} (hl : l.length = 128) :
    D.write (i : Int) l = (0, D.lay (i : Int) l) ∧ Alike D (D.lay (i : Int) l) ∧ ∀ k, k < D.n → (D.lay (i : Int) l).blk k = if k = i then l else D.blk k := by
  refine ⟨?_, ⟨rfl, rfl, rfl, rfl, rfl, ?_⟩, ?_⟩
  · have hf : D.fault (i : Int) = 0 := by
      unfold Dk.fault
      rw [hd, if_neg (by simp), if_neg (by omega)]
    unfold Dk.write
    rw [if_pos hf, if_pos hl, ha, if_neg (by simp)]
  · unfold Dk.lay
    exact spliceN_length (by rw [Int.toNat_natCast]; omega)
  · intro k hk
    unfold Dk.lay Dk.blk
    simp only [Int.toNat_natCast]
    apply List.ext_getElem?
    intro q
    by_cases hq : q < 128
    · rw [List.getElem?_take, if_pos hq, List.getElem?_drop, getElem?_spliceN (by omega)]
      by_cases hki : k = i
      · subst hki
        rw [if_pos rfl, if_pos (by omega), Nat.add_sub_cancel_left]
      · rw [if_neg hki, if_neg (by omega), List.getElem?_take, if_pos hq, List.getElem?_drop]
    · rw [List.getElem?_take, if_neg hq]
      split
      · rw [List.getElem?_eq_none (by omega)]
      · rw [List.getElem?_take, if_neg hq]
end Go.Proofs.Ytcmfgmhadeeieaa

namespace Go.Proofs.Ytcmfgmhadeeieaa
open Go Go.Abs

/-- A disk with power, nothing armed. -/
structure Up (D : Dk) : Prop where
  len : D.img.length = 128 * D.n
  down : D.down = false
  armed : D.armed = false
theorem Up.alike {D E : Dk} (u : Up D) (a : Alike D E) : Up E := ⟨by rw [a.len, a.n, u.len], a.down.trans u.down, a.armed.trans u.armed⟩

theorem Dk.area_in (D : Dk) {area : Nat} (ha : area ≤ 1) (h1 : 1 ≤ D.ar) : 2 + area * D.ar + D.ar ≤ D.n := by
  have har : D.ar = (D.n - 2) / 2 := rfl
  have hm : area * D.ar ≤ D.ar := by
    have := Nat.mul_le_mul_right D.ar ha
    omega
  omega

theorem wr_up (area gen at_ parts : Nat) (r : List Nat) : ∀ (k i : Nat) (D : Dk), Up D → 2 + area * D.ar + at_ + i + k ≤ D.n →
    ∃ E, Dk.wr area gen at_ parts r k i D = (0, E) ∧ Alike D E ∧ ∀ b, b < D.n → E.blk b = if 2 + area * D.ar + at_ + i ≤ b ∧ b < 2 + area * D.ar + at_ + i + k then logBlk gen (b - (2 + area * D.ar)) (b - (2 + area * D.ar + at_)) parts (chunk r (b - (2 + area * D.ar + at_))) else D.blk b
  | 0, i, D, _, _ => ⟨D, rfl, .refl D, fun b _ => by rw [if_neg (by omega)]⟩
  | k + 1, i, D, u, h => by
    obtain ⟨w1, w2, w3⟩ := write_up u.len u.down u.armed (i := 2 + area * D.ar + at_ + i) (by omega) (l := logBlk gen (at_ + i) i parts (chunk r i)) (logBlk_length (chunk_length r i))
    obtain ⟨E, e1, e2, e3⟩ := wr_up area gen at_ parts r k (i + 1) _ (u.alike w2) (by rw [w2.ar, w2.n]; omega)
    refine ⟨E, ?_, w2.trans e2, ?_⟩
    · rw [Dk.wr, w1, if_pos rfl]
      exact e1
    · intro b hb
      rw [e3 b (by rw [w2.n]; exact hb), w2.ar, w3 b hb]
      generalize area * D.ar = q
      by_cases hbi : b = 2 + q + at_ + i
      · subst hbi
        rw [if_neg (by omega), if_pos rfl, if_pos (by omega), show 2 + q + at_ + i - (2 + q) = at_ + i by omega, show 2 + q + at_ + i - (2 + q + at_) = i by omega]
      · rw [if_neg hbi]
        by_cases hin : 2 + q + at_ + i ≤ b ∧ b < 2 + q + at_ + i + (k + 1)
        · rw [if_pos hin, if_pos (by omega)]
        · rw [if_neg hin, if_neg (by omega)]

theorem wrRec_up {D : Dk} (u : Up D) {area gen at_ : Nat} {r : List Nat} (ha : area ≤ 1) (hfit : at_ + costN r.length ≤ D.ar) :
    ∃ E, D.wrRec area gen at_ r = (0, E) ∧ Alike D E ∧ E.placed area gen at_ r ∧ ∀ b, b < D.n → (b < 2 + area * D.ar + at_ ∨ 2 + area * D.ar + at_ + costN r.length ≤ b) → E.blk b = D.blk b := by
  have hp := costN_pos r.length
  have hin := D.area_in ha (by omega)
  obtain ⟨E, e1, e2, e3⟩ := wr_up area gen at_ (costN r.length) r (costN r.length) 0 D u (by omega)
  refine ⟨E, e1, e2, ?_, ?_⟩
  · intro i hi
    unfold Dk.jb
    rw [e2.ar, e3 _ (by omega)]
    generalize area * D.ar = q at *
    rw [if_pos (by omega), show 2 + q + (at_ + i) - (2 + q) = at_ + i by omega, show 2 + q + (at_ + i) - (2 + q + at_) = i by omega]
  · intro b hb ho
    rw [e3 b hb, if_neg (by omega)]

/-- Records, one behind another. -/
def layR : List (List Nat) → Nat → List (Nat × List Nat)
  | [], _ => []
  | r :: rs, at_ => (at_, r) :: layR rs (at_ + costN r.length)
theorem recsTot_cons (r : List Nat) (rs : List (List Nat)) : recsTot (r :: rs) = costN r.length + recsTot rs := by simp [recsTot]
theorem recsTot_nil : recsTot [] = 0 := rfl
theorem recsTot_append (a b : List (List Nat)) : recsTot (a ++ b) = recsTot a + recsTot b := by simp [recsTot]
theorem layR_append : ∀ (a b : List (List Nat)) (at_ : Nat), layR (a ++ b) at_ = layR a at_ ++ layR b (at_ + recsTot a)
  | [], b, at_ => rfl
  | r :: rs, b, at_ => by
    rw [List.cons_append, layR, layR_append rs b, layR, recsTot_cons, Nat.add_assoc]; rfl
theorem layR_snd : ∀ (a : List (List Nat)) (at_ : Nat), (layR a at_).map (·.2) = a
  | [], _ => rfl
  | r :: rs, at_ => by rw [layR, List.map_cons, layR_snd rs]
theorem layR_length (a : List (List Nat)) (at_ : Nat) : (layR a at_).length = a.length := by
  rw [← List.length_map (f := (·.2)), layR_snd]
theorem lay_bound : ∀ (a : List (List Nat)) (at_ : Nat) (e : Nat × List Nat), e ∈ layR a at_ → at_ ≤ e.1 ∧ e.1 + costN e.2.length ≤ at_ + recsTot a ∧ e.2 ∈ a
  | [], _, e, h => by simp [layR] at h
  | r :: rs, at_, e, h => by
    rw [layR, List.mem_cons] at h
    rw [recsTot_cons]
    rcases h with rfl | h
    · exact ⟨Nat.le_refl _, by show at_ + costN r.length ≤ _; omega, List.mem_cons_self⟩
    · have := lay_bound rs _ e h
      exact ⟨by omega, by omega, List.mem_cons_of_mem _ this.2.2⟩

/-- What is placed stays placed where its blocks stay. -/
theorem Dk.placed.keep {D E : Dk} {area gen at_ : Nat} {r : List Nat} (p : D.placed area gen at_ r) (har : E.ar = D.ar) (h : ∀ i, i < costN r.length → E.blk (2 + area * D.ar + (at_ + i)) = D.blk (2 + area * D.ar + (at_ + i))) : E.placed area gen at_ r := by
  intro i hi
  have := p i hi
  unfold Dk.jb at this ⊢
  rw [har, h i hi, this]

theorem rwAll_up {area gen : Nat} (ha : area ≤ 1) : ∀ (vals : List (List Nat)) (at_ : Nat) (D : Dk) (ps : List Nat), Up D → at_ + recsTot vals ≤ D.ar →
    ∃ E, Dk.rwAll area gen vals at_ D ps = (0, E, at_ + recsTot vals, ps ++ (layR vals at_).map (·.1)) ∧ Alike D E ∧ (∀ e ∈ layR vals at_, E.placed area gen e.1 e.2) ∧
      ∀ b, b < D.n → (b < 2 + area * D.ar + at_ ∨ 2 + area * D.ar + at_ + recsTot vals ≤ b) → E.blk b = D.blk b
  | [], at_, D, ps, _, _ => ⟨D, by simp [Dk.rwAll, layR, recsTot_nil], .refl D, by simp [layR], fun _ _ _ => rfl⟩
  | r :: rs, at_, D, ps, u, hfit => by
    rw [recsTot_cons] at hfit
    obtain ⟨E, e1, e2, e3, e4⟩ := wrRec_up u (gen := gen) (at_ := at_) (r := r) ha (by omega)
    obtain ⟨F, f1, f2, f3, f4⟩ := rwAll_up (gen := gen) ha rs (at_ + costN r.length) E (ps ++ [at_]) (u.alike e2) (by rw [e2.ar]; omega)
    have hp := costN_pos r.length
    have hin := D.area_in ha (by omega)
    rw [e2.ar, e2.n] at f4
    refine ⟨F, ?_, e2.trans f2, ?_, ?_⟩
    · rw [Dk.rwAll, e1, if_pos rfl, f1, recsTot_cons, layR, List.map_cons, List.append_assoc, Nat.add_assoc]; rfl
    · intro e he
      rw [layR, List.mem_cons] at he
      rcases he with rfl | he
      · refine e3.keep f2.ar (fun i hi => ?_)
        have hi : i < costN r.length := hi
        rw [e2.ar]
        exact f4 _ (by omega) (.inl (by omega))
      · exact f3 e he
    · intro b hb ho
      rw [recsTot_cons] at ho
      rw [f4 b hb (by omega), e4 b hb (by omega)]

/-- A block that is no block of a generation. -/
def Dk.noB (D : Dk) (area gen at_ : Nat) : Prop := logOk at_ (D.jb area at_) = false ∨ logGen (D.jb area at_) ≠ gen ∨ logPart (D.jb area at_) ≠ 0
theorem Dk.noB.stands {D : Dk} {area gen at_ : Nat} (h : D.noB area gen at_) : D.stands area gen at_ = false := by
  refine Dk.not_stands' (i := 0) (by omega) ?_
  unfold Dk.part
  rw [Nat.add_zero]
  rcases h with h | h | h
  · rw [h]; rfl
  · rw [beq_eq_false_iff_ne.2 h]; simp
  · rw [beq_eq_false_iff_ne.2 h]; simp

theorem ents_skip {D : Dk} {J : Jn} : ∀ (m at_ k : Nat), (∀ i, i < m → at_ + i < D.ar → D.stands J.area J.gen (at_ + i) = false) → D.ar ≤ at_ + k → ∃ k', D.ar ≤ at_ + m + k' ∧ D.ents J k at_ = D.ents J k' (at_ + m)
  | 0, at_, k, _, hk => ⟨k, hk, rfl⟩
  | m + 1, at_, k, h, hk => by
    by_cases hat : at_ < D.ar
    · obtain ⟨k0, rfl⟩ : ∃ k0, k = k0 + 1 := ⟨k - 1, by omega⟩
      have hs : J.stands D at_ = false := by
        rw [Jn.stands_iff hat]
        have := h 0 (by omega) hat
        rw [Nat.add_zero] at this
        rw [this, Bool.and_false]
      obtain ⟨k', h1, h2⟩ := ents_skip (D := D) (J := J) m (at_ + 1) k0 (fun i hi hai => by have := h (i + 1) (by omega) (by omega); rw [show at_ + 1 + i = at_ + (i + 1) by omega]; exact this) (by omega)
      refine ⟨k', by omega, ?_⟩
      rw [Dk.ents, if_pos hat, hs, if_neg (by decide), h2, show at_ + 1 + m = at_ + (m + 1) by omega]
    · exact ⟨0, by omega, by rw [Dk.ents_end (by omega), Dk.ents_end (by omega)]⟩

/-- The entries of records that are laid, but for those that are bad. -/
theorem ents_lay {D : Dk} {J : Jn} (hs : 0 ≤ J.slot) (hg : J.gen < 18446744073709551616) (har : D.ar ≤ 4096) (bad : Nat × List Nat → Bool) : ∀ (recs : List (List Nat)) (at_ k : Nat), (∀ r ∈ recs, r.length ≤ 20000 ∧ ∀ x ∈ r, x < 256) → at_ + recsTot recs ≤ D.ar → D.ar ≤ at_ + k →
    (∀ e ∈ layR recs at_, bad e = false → D.placed J.area J.gen e.1 e.2) → (∀ e ∈ layR recs at_, bad e = true → ∀ i, i < costN e.2.length → D.stands J.area J.gen (e.1 + i) = false) → (∀ p, at_ + recsTot recs ≤ p → p < D.ar → D.stands J.area J.gen p = false) →
    D.ents J k at_ = (layR recs at_).filter fun e => !bad e
  | [], at_, k, hr, hf, hk, h1, h2, h3 => by
    obtain ⟨k', _, e2⟩ := ents_skip (J := J) (D.ar - at_) at_ k (fun i hi _ => h3 _ (by rw [recsTot_nil]; omega) (by omega)) hk
    rw [e2, Dk.ents_end (by omega)]; rfl
  | r :: rs, at_, k, hr, hf, hk, h1, h2, h3 => by
    rw [recsTot_cons] at hf h3
    have hp := costN_pos r.length
    obtain ⟨hr1, hr2⟩ := hr r List.mem_cons_self
    have ih : ∀ k', D.ar ≤ at_ + costN r.length + k' → D.ents J k' (at_ + costN r.length) = (layR rs (at_ + costN r.length)).filter fun e => !bad e := fun k' hk' =>
      ents_lay hs hg har bad rs _ k' (fun r' h' => hr r' (List.mem_cons_of_mem _ h')) (by omega) hk' (fun e he => h1 e (by rw [layR]; exact List.mem_cons_of_mem _ he)) (fun e he => h2 e (by rw [layR]; exact List.mem_cons_of_mem _ he)) (fun p hp1 hp2 => h3 p (by omega) hp2)
    have hm : (at_, r) ∈ layR (r :: rs) at_ := by rw [layR]; exact List.mem_cons_self
    cases hb : bad (at_, r) with
    | true =>
      obtain ⟨k', e1, e2⟩ := ents_skip (J := J) (costN r.length) at_ k (fun i hi _ => h2 _ hm hb i hi) hk
      rw [e2, ih k' e1, layR, List.filter_cons, hb]; rfl
    | false =>
      obtain ⟨k0, rfl⟩ : ∃ k0, k = k0 + 1 := ⟨k - 1, by omega⟩
      obtain ⟨s1, s2, s3⟩ := Dk.placed_stands (h1 _ hm hb) hg hr1 hr2 (by show at_ + costN r.length ≤ _; omega) har
      have hst : J.stands D at_ = true := by rw [Jn.stands_iff (by omega), show D.stands J.area J.gen at_ = true from s1, decide_eq_true hs]; rfl
      have s2 : D.parts J.area at_ = costN r.length := s2
      have s3 : D.data J.area at_ (costN r.length) = r := s3
      rw [Dk.ents, if_pos (by omega), hst, if_pos rfl, s2, s3, ih k0 (by omega), layR, List.filter_cons, hb]; rfl
end Go.Proofs.Ytcmfgmhadeeieaa

namespace Go.Proofs.Ytcmfgmhadeeieaa
open Go Go.Abs

/-- A journal but for the highest generation that it knows. -/
def Jn.un (J : Jn) : Jn := { J with known := 0 }
theorem Jn.seeLog_un (D : Dk) (s at_ : Nat) (J : Jn) : (J.seeLog D s at_).un = J.un := by unfold Jn.seeLog; split <;> rfl
theorem Jn.seeLogs_un (D : Dk) (s : Nat) : ∀ k at_ J, (Jn.seeLogs D s k at_ J).un = J.un
  | 0, _, _ => rfl
  | k + 1, at_, J => by rw [Jn.seeLogs, Jn.seeLogs_un D s k, Jn.seeLog_un]
theorem Jn.takeSuper_un (D : Dk) (s : Nat) (J : Jn) : (J.takeSuper D s).un = J.un.takeSuper D s := by
  have h1 : J.un.slot = J.slot := rfl
  have h2 : J.un.gen = J.gen := rfl
  unfold Jn.takeSuper
  rw [h1, h2]
  split <;> rfl
theorem Jn.seeSlot_un (D : Dk) (s : Nat) (J : Jn) : (J.seeSlot D s).un = if superOk (D.blk s) = true then J.un.takeSuper D s else J.un := by
  unfold Jn.seeSlot
  rw [Jn.seeLogs_un]
  unfold Jn.seeSuper
  split
  · exact Jn.takeSuper_un D s J
  · rfl
theorem Dk.openJ_un (D : Dk) (t : Int) : (D.openJ t).un = if superOk (D.blk 1) = true then (if superOk (D.blk 0) = true then (D.jn0 t).takeSuper D 0 else D.jn0 t).takeSuper D 1 else if superOk (D.blk 0) = true then (D.jn0 t).takeSuper D 0 else D.jn0 t := by
  unfold Dk.openJ
  rw [Jn.seeSlot_un, Jn.seeSlot_un]; rfl

theorem Dk.jn0_take (D : Dk) (t : Int) (s : Nat) : (D.jn0 t).takeSuper D s = { turn := t, slot := s, area := superArea (D.blk s), gen := superGen (D.blk s), known := 0, ready := false, fin := 0 } := by
  unfold Jn.takeSuper
  rw [if_pos (.inl (show (-1 : Int) < 0 by decide))]
  rfl
/-- The superblock that counts. -/
structure Sup (D : Dk) (slot area gen : Nat) : Prop where
  s : slot ≤ 1
  ok : superOk (D.blk slot) = true
  g : superGen (D.blk slot) = gen
  a : superArea (D.blk slot) = area
  other : superOk (D.blk (1 - slot)) = true → superGen (D.blk (1 - slot)) < gen
theorem Sup.openJ {D : Dk} {slot area gen : Nat} (p : Sup D slot area gen) (t : Int) : (D.openJ t).un = { turn := t, slot := slot, area := area, gen := gen, known := 0, ready := false, fin := 0 } := by
  obtain ⟨s, ok, g, a, other⟩ := p
  rw [Dk.openJ_un]
  obtain rfl | rfl : slot = 0 ∨ slot = 1 := by omega
  · have other : superOk (D.blk 1) = true → superGen (D.blk 1) < gen := other
    rw [if_pos ok, Dk.jn0_take, g, a]
    split
    · rename_i h1
      have := other h1
      unfold Jn.takeSuper
      rw [if_neg]
      show ¬ (((0 : Nat) : Int) < 0 ∨ gen < superGen (D.blk 1))
      omega
    · rfl
  · have other : superOk (D.blk 0) = true → superGen (D.blk 0) < gen := other
    rw [if_pos ok]
    split
    · rename_i h0
      have := other h0
      rw [Dk.jn0_take]
      unfold Jn.takeSuper
      rw [if_pos (.inr (by show superGen (D.blk 0) < superGen (D.blk 1); omega)), g, a]
    · rw [Dk.jn0_take, g, a]
theorem Dk.openJ_none {D : Dk} (h0 : superOk (D.blk 0) = false) (h1 : superOk (D.blk 1) = false) (t : Int) : (D.openJ t).un = D.jn0 t := by
  rw [Dk.openJ_un, h0, h1]; rfl

/-- No generation on the disk is higher. -/
structure Knows (D : Dk) (B : Nat) : Prop where
  logs : ∀ s, s ≤ 1 → ∀ p, p < D.ar → logOk p (D.jb s p) = true → logGen (D.jb s p) ≤ B
  sups : ∀ s, s ≤ 1 → superOk (D.blk s) = true → superGen (D.blk s) ≤ B
theorem Jn.seeLogs_known (D : Dk) (s : Nat) : ∀ k at_ J, J.known ≤ (Jn.seeLogs D s k at_ J).known ∧ (∀ p, at_ ≤ p → p < at_ + k → logOk p (D.jb s p) = true → logGen (D.jb s p) ≤ (Jn.seeLogs D s k at_ J).known) ∧
    ∀ B, J.known ≤ B → (∀ p, at_ ≤ p → p < at_ + k → logOk p (D.jb s p) = true → logGen (D.jb s p) ≤ B) → (Jn.seeLogs D s k at_ J).known ≤ B
  | 0, at_, J => ⟨Nat.le_refl _, fun p h1 h2 => by omega, fun _ h _ => h⟩
  | k + 1, at_, J => by
    obtain ⟨i1, i2, i3⟩ := Jn.seeLogs_known D s k (at_ + 1) (J.seeLog D s at_)
    have hj : (J.seeLog D s at_).known = if logOk at_ (D.jb s at_) = true then max J.known (logGen (D.jb s at_)) else J.known := by
      unfold Jn.seeLog
      split <;> rfl
    refine ⟨?_, ?_, ?_⟩
    · show J.known ≤ (Jn.seeLogs D s k (at_ + 1) (J.seeLog D s at_)).known
      refine Nat.le_trans ?_ i1
      rw [hj]
      split <;> omega
    · intro p h1 h2 h3
      show _ ≤ (Jn.seeLogs D s k (at_ + 1) (J.seeLog D s at_)).known
      by_cases hp : p = at_
      · subst hp
        refine Nat.le_trans ?_ i1
        rw [hj, if_pos h3]
        omega
      · exact i2 p (by omega) (by omega) h3
    · intro B h1 h2
      refine i3 B ?_ (fun p h3 h4 => h2 p (by omega) (by omega))
      rw [hj]
      split
      · rename_i h
        have := h2 at_ (by omega) (by omega) h
        omega
      · exact h1
theorem Jn.seeSlot_known (D : Dk) (s : Nat) (J : Jn) : J.known ≤ (J.seeSlot D s).known ∧ (∀ p, p < D.ar → logOk p (D.jb s p) = true → logGen (D.jb s p) ≤ (J.seeSlot D s).known) ∧ (superOk (D.blk s) = true → superGen (D.blk s) ≤ (J.seeSlot D s).known) ∧
    ∀ B, J.known ≤ B → (∀ p, p < D.ar → logOk p (D.jb s p) = true → logGen (D.jb s p) ≤ B) → (superOk (D.blk s) = true → superGen (D.blk s) ≤ B) → (J.seeSlot D s).known ≤ B := by
  obtain ⟨i1, i2, i3⟩ := Jn.seeLogs_known D s D.ar 0 (J.seeSuper D s)
  have hj : (J.seeSuper D s).known = if superOk (D.blk s) = true then max J.known (superGen (D.blk s)) else J.known := by
    unfold Jn.seeSuper
    split <;> rfl
  refine ⟨?_, fun p h1 h2 => i2 p (by omega) (by omega) h2, ?_, ?_⟩
  · refine Nat.le_trans ?_ i1
    rw [hj]
    split <;> omega
  · intro h
    refine Nat.le_trans ?_ i1
    rw [hj, if_pos h]
    omega
  · intro B h1 h2 h3
    refine i3 B ?_ (fun p _ h5 => h2 p (by omega))
    rw [hj]
    split
    · rename_i h
      have := h3 h
      omega
    · exact h1
theorem Knows.openJ {D : Dk} {B : Nat} (k : Knows D B) (t : Int) : (D.openJ t).known ≤ B := by
  obtain ⟨a1, a2, a3, a4⟩ := Jn.seeSlot_known D 0 (D.jn0 t)
  obtain ⟨b1, b2, b3, b4⟩ := Jn.seeSlot_known D 1 ((D.jn0 t).seeSlot D 0)
  exact b4 B (a4 B (Nat.zero_le B) (k.logs 0 (by omega)) (k.sups 0 (by omega))) (k.logs 1 (by omega)) (k.sups 1 (by omega))
theorem Knows.mono {D : Dk} {B C : Nat} (k : Knows D B) (h : B ≤ C) : Knows D C := ⟨fun s h1 p h2 h3 => Nat.le_trans (k.logs s h1 p h2 h3) h, fun s h1 h2 => Nat.le_trans (k.sups s h1 h2) h⟩

/-- A disk on which nothing was ever written. -/
def Fresh (D : Dk) : Prop := ∀ b, b < D.n → D.blk b = List.replicate 128 0
theorem Fresh.knows {D : Dk} (f : Fresh D) (h4 : 4 ≤ D.n) : Knows D 0 := by
  refine ⟨fun s hs p hp h => ?_, fun s hs h => ?_⟩
  · have hin := D.area_in hs (by omega)
    unfold Dk.jb at h
    rw [f _ (by omega), logOk_zero] at h
    cases h
  · rw [f _ (by omega), superOk_zero] at h
    cases h
theorem Fresh.openJ {D : Dk} (f : Fresh D) (h4 : 4 ≤ D.n) (t : Int) : D.openJ t = D.jn0 t := by
  have h1 : (D.openJ t).un = D.jn0 t := Dk.openJ_none (by rw [f _ (by omega), superOk_zero]) (by rw [f _ (by omega), superOk_zero]) t
  have h2 : (D.openJ t).known = 0 := by
    have := (f.knows h4).openJ t
    omega
  have h3 : D.openJ t = { (D.openJ t).un with known := (D.openJ t).known } := rfl
  rw [h3, h1, h2]; rfl
theorem Fresh.ents {D : Dk} (J : Jn) (f : Fresh D) (_h4 : 4 ≤ D.n) (ha : J.area ≤ 1) : D.ents J D.ar 0 = [] := by
  obtain ⟨k', _, e2⟩ := ents_skip (D := D) (J := J) D.ar 0 D.ar (fun i hi _ => Dk.noB.stands (.inl (by
    have hin := D.area_in ha (by omega)
    unfold Dk.jb
    rw [f _ (by omega), logOk_zero]))) (by omega)
  rw [e2, Dk.ents_end (by omega)]

/-- The records that a disk bears. -/
structure Has (D : Dk) (area gen : Nat) (recs : List (List Nat)) : Prop where
  a : area ≤ 1
  g : gen < 18446744073709551616
  ok : ∀ r ∈ recs, r.length ≤ 20000 ∧ ∀ x ∈ r, x < 256
  fit : recsTot recs ≤ D.ar
  placed : ∀ e ∈ layR recs 0, D.placed area gen e.1 e.2
  rest : ∀ p, recsTot recs ≤ p → p < D.ar → D.noB area gen p
theorem Has.ents {D : Dk} {J : Jn} {recs : List (List Nat)} (H : Has D J.area J.gen recs) (hs : 0 ≤ J.slot) (har : D.ar ≤ 4096) : D.ents J D.ar 0 = layR recs 0 := by
  rw [ents_lay hs H.g har (fun _ => false) recs 0 D.ar H.ok (by have := H.fit; omega) (by omega) (fun e he _ => H.placed e he) (fun _ _ h => by cases h) (fun p h1 h2 => (H.rest p (by omega) h2).stands)]
  simp
theorem Has.at {D : Dk} {J : Jn} {recs : List (List Nat)} (H : Has D J.area J.gen recs) (hs : 0 ≤ J.slot) (har : D.ar ≤ 4096) {e : Nat × List Nat} (he : e ∈ layR recs 0) :
    e.1 < D.ar ∧ J.stands D e.1 = true ∧ D.parts J.area e.1 = costN e.2.length ∧ D.data J.area e.1 (costN e.2.length) = e.2 := by
  obtain ⟨b1, b2, b3⟩ := lay_bound _ _ _ he
  have hfit := H.fit
  have hp := costN_pos e.2.length
  obtain ⟨k1, k2⟩ := H.ok _ b3
  obtain ⟨s1, s2, s3⟩ := Dk.placed_stands (H.placed e he) H.g k1 k2 (by omega) har
  exact ⟨by omega, by rw [Jn.stands_iff (by omega), s1, decide_eq_true hs]; rfl, s2, s3⟩
/-- What a disk bears, it bears where the blocks of the area stay. -/
theorem Has.keep {D E : Dk} {area gen : Nat} {recs : List (List Nat)} (H : Has D area gen recs) (har : E.ar = D.ar) (h : ∀ p, p < D.ar → E.blk (2 + area * D.ar + p) = D.blk (2 + area * D.ar + p)) : Has E area gen recs := by
  refine ⟨H.a, H.g, H.ok, har ▸ H.fit, fun e he => ?_, fun p h1 h2 => ?_⟩
  · have hb := lay_bound _ _ _ he
    have := H.fit
    exact (H.placed e he).keep har (fun i hi => h _ (by omega))
  · have hr := H.rest p h1 (har ▸ h2)
    unfold Dk.noB Dk.jb at hr ⊢
    rw [har, h p (har ▸ h2)]
    exact hr

/-- An Append with power. -/
theorem Has.append {D : Dk} {J : Jn} {recs : List (List Nat)} (H : Has D J.area J.gen recs) (u : Up D) (hl : J.live D = true) (hr : J.ready = true) (hfin : J.fin = recsTot recs) {r : List Nat} (h20 : r.length ≤ 20000) (hb : ∀ x ∈ r, x < 256) (hfit : recsTot recs + costN r.length ≤ D.ar) :
    ∃ E, J.append D r = (0, E, { J with fin := J.fin + costN r.length }) ∧ Alike D E ∧ Has E J.area J.gen (recs ++ [r]) ∧ ∀ b, b < 2 → E.blk b = D.blk b := by
  obtain ⟨E, e1, e2, e3, e4⟩ := wrRec_up u (gen := J.gen) (at_ := J.fin) (r := r) H.a (by omega)
  have hp := costN_pos r.length
  have hin := D.area_in H.a (by omega)
  have htot : recsTot (recs ++ [r]) = recsTot recs + costN r.length := by rw [recsTot_append, recsTot_cons, recsTot_nil]; omega
  have hfree : J.free D = D.ar - J.fin := by unfold Jn.free; rw [hl, hr]; rfl
  refine ⟨E, ?_, e2, ⟨H.a, H.g, ?_, by rw [htot, e2.ar]; exact hfit, ?_, ?_⟩, fun b hb => e4 b (by omega) (by omega)⟩
  · unfold Jn.append
    rw [if_neg (by rw [hl]; decide), if_neg (by rw [hr]; decide), if_neg (by omega), if_neg (by omega), e1, if_pos rfl]
  · intro q hq
    rcases List.mem_append.1 hq with hq | hq
    · exact H.ok q hq
    · rw [List.mem_singleton] at hq
      subst hq
      exact ⟨h20, hb⟩
  · intro e he
    rw [layR_append, Nat.zero_add] at he
    rcases List.mem_append.1 he with he | he
    · have hbd := lay_bound _ _ _ he
      exact (H.placed e he).keep e2.ar (fun i hi => e4 _ (by omega) (by omega))
    · rw [layR, layR, List.mem_singleton] at he
      subst he
      rw [← hfin]
      exact e3
  · intro p h1 h2
    rw [htot] at h1
    rw [e2.ar] at h2
    have hrs := H.rest p (by omega) h2
    unfold Dk.noB Dk.jb at hrs ⊢
    rw [e2.ar, e4 _ (by omega) (by omega)]
    exact hrs

/-- A Rewrite with power. -/
theorem rewrite_up {J : Jn} {D : Dk} {vals : List (List Nat)} (u : Up D) (h4 : 4 ≤ D.n) (hl : J.live D = true) (hv : ∀ r ∈ vals, r.length ≤ 20000 ∧ ∀ x ∈ r, x < 256) (hfit : recsTot vals ≤ D.ar) (hk : J.known < 18446744073709551615) (ok : JnOk J D) (kn : Knows D J.known) :
    ∃ E s, J.newSlot = ((s : Nat) : Int) ∧ J.rewrite D vals = (0, E, { turn := J.turn, slot := J.newSlot, area := J.newArea, gen := J.known + 1, known := J.known + 1, ready := true, fin := recsTot vals }, (layR vals 0).map (·.1)) ∧ Alike D E ∧
      Has E J.newArea (J.known + 1) vals ∧ Sup E s J.newArea (J.known + 1) ∧ Knows E (J.known + 1) ∧ (∀ b, b < D.n → b ≠ s → (b < 2 + J.newArea * D.ar ∨ 2 + J.newArea * D.ar + recsTot vals ≤ b) → E.blk b = D.blk b) := by
  have hna := J.newArea_le
  have har : D.ar = (D.n - 2) / 2 := rfl
  have hin := D.area_in hna (by omega)
  obtain ⟨E, e1, e2, e3, e4⟩ := rwAll_up (gen := J.known + 1) hna vals 0 D [] u (by omega)
  obtain ⟨s, hs, hs1⟩ : ∃ s : Nat, J.newSlot = (s : Int) ∧ s ≤ 1 := by
    unfold Jn.newSlot
    rcases ok.slot with h | h | h <;> rw [h]
    · exact ⟨0, rfl, by omega⟩
    · exact ⟨1, rfl, by omega⟩
    · exact ⟨0, rfl, by omega⟩
  have u2 := u.alike e2
  obtain ⟨w1, w2, w3⟩ := write_up u2.len u2.down u2.armed (i := s) (by rw [e2.n]; omega) (superBlk_length (J.known + 1) J.newArea)
  have a2 := e2.trans w2
  rw [e2.n] at w3
  have fr : ∀ b, b < D.n → b ≠ s → (b < 2 + J.newArea * D.ar ∨ 2 + J.newArea * D.ar + recsTot vals ≤ b) → (E.lay (s : Int) (superBlk (J.known + 1) J.newArea)).blk b = D.blk b := by
    intro b h1 h2 h3
    rw [w3 b h1, if_neg h2, e4 b h1 (by omega)]
  have hss : (E.lay (s : Int) (superBlk (J.known + 1) J.newArea)).blk s = superBlk (J.known + 1) J.newArea := by rw [w3 s (by omega), if_pos rfl]
  have hpl : ∀ e ∈ layR vals 0, (E.lay (s : Int) (superBlk (J.known + 1) J.newArea)).placed J.newArea (J.known + 1) e.1 e.2 := by
    intro e he
    have hb := lay_bound _ _ _ he
    exact (e3 e he).keep w2.ar (fun i hi => by rw [e2.ar, w3 _ (by omega), if_neg (by omega)])
  generalize E.lay (s : Int) (superBlk (J.known + 1) J.newArea) = F at *
  refine ⟨F, s, hs, ?_, a2, ?_, ?_, ?_, fr⟩
  · unfold Jn.rewrite
    have hany : (vals.any fun r => decide (20000 < r.length)) = false := by
      rw [List.any_eq_false]
      intro r hr
      have := (hv r hr).1
      simp; omega
    rw [hl, hany, if_neg (by decide), if_neg (by decide), if_neg (by omega), e1, if_pos rfl, hs, w1, if_pos rfl]
    rfl
  · refine ⟨hna, by omega, hv, by rw [a2.ar]; exact hfit, hpl, ?_⟩
    intro p h1 h2
    rw [a2.ar] at h2
    unfold Dk.noB Dk.jb
    rw [a2.ar, fr _ (by omega) (by omega) (by omega)]
    cases hlo : logOk p (D.blk (2 + J.newArea * D.ar + p)) with
    | false => exact .inl rfl
    | true =>
      have := kn.logs J.newArea hna p h2 hlo
      unfold Dk.jb at this
      exact .inr (.inl (by omega))
  · refine ⟨hs1, by rw [hss, superOk_super hna], by rw [hss, superGen_super (by omega)], by rw [hss, superArea_super hna], ?_⟩
    rw [fr (1 - s) (by omega) (by omega) (by omega)]
    intro h
    have := kn.sups (1 - s) (by omega) h
    omega
  · refine ⟨?_, ?_⟩
    · intro t ht p hp h
      rw [a2.ar] at hp
      by_cases hin2 : t = J.newArea ∧ p < recsTot vals
      · obtain ⟨rfl, hp2⟩ := hin2
        have key : ∀ (rs : List (List Nat)) (at_ : Nat), at_ ≤ p → p < at_ + recsTot rs → ∃ e ∈ layR rs at_, e.1 ≤ p ∧ p < e.1 + costN e.2.length := by
          intro rs
          induction rs with
          | nil => intro at_ h1 h2; rw [recsTot_nil] at h2; omega
          | cons r rs ih =>
            intro at_ h1 h2
            rw [recsTot_cons] at h2
            by_cases hlt : p < at_ + costN r.length
            · exact ⟨(at_, r), by rw [layR]; exact List.mem_cons_self, h1, hlt⟩
            · obtain ⟨e, he, h3⟩ := ih (at_ + costN r.length) (by omega) (by omega)
              exact ⟨e, by rw [layR]; exact List.mem_cons_of_mem _ he, h3⟩
        obtain ⟨e, he, h1, h2⟩ := key vals 0 (by omega) (by omega)
        have := hpl e he (p - e.1) (by omega)
        rw [show e.1 + (p - e.1) = p by omega] at this
        rw [this, logGen_log (by omega)]
        omega
      · have hta : t * D.ar + D.ar ≤ 2 * D.ar := by
          have := Nat.mul_le_mul_right D.ar ht
          omega
        have hout : F.blk (2 + t * D.ar + p) = D.blk (2 + t * D.ar + p) := by
          refine fr _ (by omega) (by omega) ?_
          by_cases hta : t = J.newArea
          · subst hta
            exact .inr (by omega)
          · obtain ⟨h1, h2⟩ | ⟨h1, h2⟩ : (t = 0 ∧ J.newArea = 1) ∨ (t = 1 ∧ J.newArea = 0) := by omega
            · rw [h1, h2]; omega
            · rw [h1, h2]; omega
        unfold Dk.jb at h ⊢
        rw [a2.ar, hout] at h ⊢
        have := kn.logs t ht p hp h
        unfold Dk.jb at this
        omega
    · intro t ht h
      by_cases hts : t = s
      · subst hts
        rw [hss, superGen_super (by omega)]
        exact Nat.le_refl _
      · rw [fr t (by omega) hts (by omega)] at h ⊢
        have := kn.sups t ht h
        omega

/-- Open after a Rewrite. -/
theorem Sup.jn {D : Dk} {slot area gen : Nat} (p : Sup D slot area gen) : D.jn.slot = slot ∧ D.jn.area = area ∧ D.jn.gen = gen ∧ D.jn.ready = false ∧ D.jn.fin = 0 ∧ D.jn.turn = D.opened.turn := by
  have p' : Sup D.opened slot area gen := ⟨p.s, p.ok, p.g, p.a, p.other⟩
  have h := p'.openJ D.opened.turn
  have h : D.jn.un = _ := h
  exact ⟨congrArg Jn.slot h, congrArg Jn.area h, congrArg Jn.gen h, congrArg Jn.ready h, congrArg Jn.fin h, congrArg Jn.turn h⟩
theorem Fresh.jn {D : Dk} (f : Fresh D) (h4 : 4 ≤ D.n) : D.jn = D.opened.jn0 D.opened.turn := by
  have f' : Fresh D.opened := f
  exact f'.openJ h4 _
theorem Fresh.entries {D : Dk} (f : Fresh D) (h4 : 4 ≤ D.n) : D.entries = [] := by
  have f' : Fresh D.opened := f
  unfold Dk.entries
  rw [f.jn h4]
  exact f'.ents _ h4 (Nat.zero_le 1)
theorem Has.entries {D : Dk} {slot area gen : Nat} {recs : List (List Nat)} (p : Sup D slot area gen) (H : Has D area gen recs) (har : D.ar ≤ 4096) : D.entries = layR recs 0 := by
  obtain ⟨q1, q2, q3, _⟩ := p.jn
  have H' : Has D.opened D.jn.area D.jn.gen recs := by rw [q2, q3]; exact ⟨H.a, H.g, H.ok, H.fit, H.placed, H.rest⟩
  exact H'.ents (by omega) har
theorem Jn.live_opened {D : Dk} {J : Jn} (hd : D.down = false) (ht : J.turn = D.opened.turn) : J.live D.opened = true := by
  unfold Jn.live
  rw [ht, show D.opened.down = D.down from rfl, hd]
  simp
end Go.Proofs.Ytcmfgmhadeeieaa

namespace Go.Proofs.Ytcmfgmhadeeieaa
open Go Go.Abs

theorem X14 : XX 14 = s14 := rfl
theorem X18 : XX 18 = s18 := rfl
theorem X25 : XX 25 = s25 := rfl
theorem r14 (h : Heap) : CD 14 [] h = some (.bool true, h) := CD_known (by rw [X14]; rfl)
theorem r18 (h : Heap) {n : Nat} (h4 : 4 ≤ n) (hn : n ≤ 4096) : CD 18 [i64n n] h = some (.tuple #[ptr (h.next + 1) 0, .int .i64 0], newDk h n) ∧ IsDk (newDk h n) (h.next + 1) (Dk.new h n) ∧ Old h (newDk h n) := by
  refine ⟨CD_known ?_, new_is h (by omega), new_kept h n _⟩
  rw [X18, s18_at (by omega), Int.toNat_natCast]
theorem new_up (h : Heap) (n : Nat) : Up (Dk.new h n) := ⟨by simp [Dk.new], rfl, rfl⟩
theorem new_fresh (h : Heap) (n : Nat) : Fresh (Dk.new h n) := by
  intro b hb
  have hb : b < n := hb
  show ((List.replicate (128 * n) 0).drop (b * 128)).take 128 = _
  rw [List.drop_replicate, List.take_replicate, Nat.min_eq_left (by omega)]
theorem r25 {h : Heap} {d : Nat} {D : Dk} (x : IsDk h d D) : ∃ a c h', CD 25 [ptr d 0] h = some (.slice a (128 * D.n) c, h') ∧ sliceBytes a (128 * D.n) h' = some D.img ∧ goodS a (128 * D.n) c = true ∧ (∀ y, a = some y → h.next ≤ y.block) ∧ Old h h' := by
  refine ⟨some ⟨h.next, 0, none⟩, 128 * D.n, _, CD_known (by rw [X25, s25_at x]; rfl), ?_, ?_, ?_, Kept.alloc _ _ _⟩
  · rw [sliceBytes_at (l := D.img) (by rw [Heap.get_alloc, if_pos rfl]) (by rw [x.len]; omega) x.byte, List.drop_zero, List.take_of_length_le (by rw [x.len]; omega)]
  · unfold goodS
    simp
  · intro y hy
    cases hy
    exact Nat.le_refl _
theorem RecsG.nil (h : Heap) (F : Nat → Prop) : RecsG h F (.slice none 0 0) [] := ⟨none, 0, rfl, fun i r hi => by simp at hi⟩
theorem xt20 (a b : Value) : extractA (.tuple #[a, b]) 0 = some a := rfl
theorem xt21 (a b : Value) : extractA (.tuple #[a, b]) 1 = some b := rfl
theorem xt30 (a b c : Value) : extractA (.tuple #[a, b, c]) 0 = some a := rfl
theorem xt31 (a b c : Value) : extractA (.tuple #[a, b, c]) 1 = some b := rfl
theorem xt32 (a b c : Value) : extractA (.tuple #[a, b, c]) 2 = some c := rfl
theorem JnOk.new (D : Dk) (t : Int) : JnOk (D.jn0 t) D := ⟨.inl rfl, by show (0 : Nat) ≤ 1; omega, by show (0 : Nat) < _; omega, by show (0 : Nat) < _; omega, fun h => by cases h⟩
theorem cv8 {b n c : Nat} {g : Heap} (h0 : g.n0 ≤ b) (h : (g.get b).isSome = true) : convA Try.prog 32 32 (.slice (some ⟨b, 0, none⟩) n c) g = some (.slice (some ⟨b, 0, none⟩) n c, g) := by
  unfold convA
  simp only [Try.underlying32, Try.underlying5]
  rw [if_pos (by rw [decide_eq_true h0, h]; rfl)]
end Go.Proofs.Ytcmfgmhadeeieaa

namespace Go.Proofs.Ytcmfgmhadeeieaa
open Go Go.Abs

/-- A list of which each member has a cell with bytes. -/
def RecsS (h : Heap) (v : Value) (vals : List (List Nat)) (sz o : Nat) : Prop :=
  ∃ a c, v = .slice a vals.length c ∧ ∀ i r, vals[i]? = some r → ∃ b f s k ai ni ci, a = some ⟨b, f, s⟩ ∧ h.get b = some k ∧ k[f + i * sz + o]? = some (.slice ai ni ci) ∧ sliceBytes ai ni h = some r
theorem RecsS.old {h h' : Heap} {v : Value} {vals : List (List Nat)} {sz o : Nat} (R : RecsS h v vals sz o) (k : Old h h') : RecsS h' v vals sz o := by
  obtain ⟨a, c, rfl, hR⟩ := R
  refine ⟨a, c, rfl, fun i r hi => ?_⟩
  obtain ⟨b, f, s, kk, ai, ni, ci, h1, h2, h3, h4⟩ := hR i r hi
  exact ⟨b, f, s, kk, ai, ni, ci, h1, Old.get k h2, h3, Old.bytes k h4⟩
theorem RecsS.at {h : Heap} {v : Value} {vals : List (List Nat)} {sz o : Nat} (R : RecsS h v vals sz o) {i : Nat} {r : List Nat} (hi : vals[i]? = some r) :
    ∃ b p ai ni ci, idxS sz v (i64n i) = some (ptr b p) ∧ (∀ h', Old h h' → ld1 (ptr b (p + o)) h' = some (.slice ai ni ci, h')) ∧ sliceBytes ai ni h = some r := by
  obtain ⟨a, c, rfl, hR⟩ := R
  obtain ⟨b, f, s, kk, ai, ni, ci, rfl, h2, h3, h4⟩ := hR i r hi
  have hl := (List.getElem?_eq_some_iff.1 hi).1
  refine ⟨b, f + i * sz, ai, ni, ci, ?_, fun h' k => ld1_at (Old.get k h2) h3 rfl, h4⟩
  unfold idxS
  simp only [i64n]
  rw [if_pos (by omega), Int.toNat_natCast]
theorem RecsS.len {h : Heap} {v : Value} {vals : List (List Nat)} {sz o : Nat} (R : RecsS h v vals sz o) : lenL v = some (i64n vals.length) := by
  obtain ⟨a, c, rfl, hR⟩ := R
  rfl
theorem RecsV.S {h : Heap} {v : Value} {vals : List (List Nat)} (R : RecsV h v vals) : RecsS h v vals 1 0 := by
  obtain ⟨a, n, c, rfl, rfl, _, hR⟩ := R
  refine ⟨a, c, rfl, fun i r hi => ?_⟩
  have hl := (List.getElem?_eq_some_iff.1 hi).1
  obtain ⟨b, off, s, k, rv, h1, h2, h3, h4, ai, ni, ci, rfl, h6, _⟩ := hR i hl
  rw [List.getD_eq_getElem?_getD, hi] at h6
  exact ⟨b, off, s, k, ai, ni, ci, h1, h2, by rw [Nat.mul_one]; exact h3, h6⟩

/-- A record, as it stands among the cells of a list. -/
def RecAt (h : Heap) (N : Nat) (cells : List Value) (i : Nat) (r : List Nat) : Prop :=
  ∃ a n c, cells[i]? = some (.slice a n c) ∧ sliceBytes a n h = some r ∧ goodS a n c = true ∧ ∀ y, a = some y → 0 < n → N ≤ y.block
def RecsAt (h : Heap) (N : Nat) (cells : List Value) (vals : List (List Nat)) : Prop := cells.length = vals.length ∧ ∀ i r, vals[i]? = some r → RecAt h N cells i r
theorem RecsAt.keep {h h' : Heap} {N : Nat} {cells : List Value} {vals : List (List Nat)} (E : RecsAt h N cells vals) {B : Nat → Prop} (k : Kept h h' B) (hB : ∀ b, B b → Plain h b) : RecsAt h' N cells vals := by
  refine ⟨E.1, fun i e he => ?_⟩
  obtain ⟨a, n, c, h2, h3, h4, h5⟩ := E.2 i e he
  exact ⟨a, n, c, h2, k.bytesP hB h3, h4, h5⟩
theorem RecsAt.nil (h : Heap) (N : Nat) : RecsAt h N [] [] := ⟨rfl, fun i e he => by simp at he⟩
theorem RecsAt.plain {h : Heap} {N : Nat} {cells : List Value} {vals : List (List Nat)} (E : RecsAt h N cells vals) : ∀ v ∈ cells, nat8 v = none := by
  intro v hv
  obtain ⟨q, hq⟩ := List.getElem?_of_mem hv
  have hl := (List.getElem?_eq_some_iff.1 hq).1
  rw [E.1] at hl
  obtain ⟨a, n, c, h2, _⟩ := E.2 q vals[q] (List.getElem?_eq_getElem hl)
  rw [hq] at h2; cases h2; rfl
theorem RecsAt.append {h : Heap} {N : Nat} {cells cells' : List Value} {vals vals' : List (List Nat)} (E : RecsAt h N cells vals) (E' : RecsAt h N cells' vals') : RecsAt h N (cells ++ cells') (vals ++ vals') := by
  refine ⟨by simp [E.1, E'.1], fun i e he => ?_⟩
  have hl := E.1
  by_cases hi : i < vals.length
  · rw [List.getElem?_append_left hi] at he
    obtain ⟨a, n, c, h2, h3⟩ := E.2 i e he
    exact ⟨a, n, c, by rw [List.getElem?_append_left (by omega)]; exact h2, h3⟩
  · rw [List.getElem?_append_right (by omega)] at he
    obtain ⟨a, n, c, h2, h3⟩ := E'.2 _ e he
    exact ⟨a, n, c, by rw [List.getElem?_append_right (by omega), hl]; exact h2, h3⟩
theorem RecsAt.one {h : Heap} {N : Nat} {l : List Nat} {a : Option Addr} {n c : Nat} (hs : sliceBytes a n h = some l) (hg : goodS a n c = true) (ha : ∀ y, a = some y → 0 < n → N ≤ y.block) : RecsAt h N [.slice a n c] [l] := by
  refine ⟨rfl, fun i e he => ?_⟩
  match i with
  | 0 => cases he; exact ⟨a, n, c, rfl, hs, hg, ha⟩
  | i + 1 => simp at he
theorem RecsAt.low {h : Heap} {N M : Nat} {cells : List Value} {vals : List (List Nat)} (E : RecsAt h N cells vals) (hM : M ≤ N) : RecsAt h M cells vals := by
  refine ⟨E.1, fun i e he => ?_⟩
  obtain ⟨a, n, c, h2, h3, h4, h5⟩ := E.2 i e he
  exact ⟨a, n, c, h2, h3, h4, fun y hy hn => Nat.le_trans hM (h5 y hy hn)⟩

/-- A list of records of one's own, as a list that is read. -/
theorem RecsAt.S {h : Heap} {N N' : Nat} {v : Value} {cells : List Value} {vals : List (List Nat)} (E : RecsAt h N' cells vals) (o : OwnC h N 1 v vals.length cells) : RecsS h v vals 1 0 := by
  obtain ⟨_, _, _, ⟨rfl, h4⟩ | ⟨b, s, rfl, h5, ⟨rfl, h4⟩ | ⟨rfl, h6⟩⟩⟩ := o
  · exact ⟨none, 0, by rw [h4], fun i r hi => by have := (List.getElem?_eq_some_iff.1 hi).1; omega⟩
  · exact ⟨_, _, rfl, fun i r hi => by have := (List.getElem?_eq_some_iff.1 hi).1; omega⟩
  · refine ⟨_, _, rfl, fun i r hi => ?_⟩
    obtain ⟨a, n, c, h2, h3, _⟩ := E.2 i r hi
    exact ⟨b, 0, _, cells, a, n, c, rfl, h6, by rw [Nat.zero_add, Nat.mul_one]; exact h2, h3⟩
theorem RecsAt.G {h : Heap} {N N' : Nat} {v : Value} {cells : List Value} {vals : List (List Nat)} (E : RecsAt h N' cells vals) (o : OwnC h N 1 v vals.length cells) {F : Nat → Prop} (hF : ∀ b, N ≤ b → ¬ F b) (hF' : ∀ b, N' ≤ b → ¬ F b) : RecsG h F v vals := by
  obtain ⟨_, _, _, ⟨rfl, h4⟩ | ⟨b, s, rfl, h5, ⟨rfl, h4⟩ | ⟨rfl, h6⟩⟩⟩ := o
  · exact ⟨none, 0, by rw [h4], fun i r hi => by have := (List.getElem?_eq_some_iff.1 hi).1; omega⟩
  · exact ⟨_, _, rfl, fun i r hi => by have := (List.getElem?_eq_some_iff.1 hi).1; omega⟩
  · refine ⟨_, _, rfl, fun i r hi => ?_⟩
    obtain ⟨a, n, c, h2, h3, h4, h5'⟩ := E.2 i r hi
    exact ⟨b, 0, _, cells, a, n, c, rfl, h6, hF b h5, by rw [Nat.zero_add]; exact h2, h3, h4, fun y hy hn => hF' _ (h5' y hy hn)⟩
/-- Entries, as a list that is read. -/
theorem EntsAt.S {h : Heap} {N N' : Nat} {v : Value} {cells : List Value} {ents : List (Nat × List Nat)} (E : EntsAt h N' cells ents) (o : OwnC h N 2 v ents.length cells) : RecsS h v (ents.map (·.2)) 2 1 := by
  obtain ⟨_, _, _, ⟨rfl, h4⟩ | ⟨b, s, rfl, h5, ⟨rfl, h4⟩ | ⟨rfl, h6⟩⟩⟩ := o
  · exact ⟨none, 0, by rw [List.length_map, h4], fun i r hi => by have := (List.getElem?_eq_some_iff.1 hi).1; rw [List.length_map] at this; omega⟩
  · exact ⟨_, _, by rw [List.length_map], fun i r hi => by have := (List.getElem?_eq_some_iff.1 hi).1; rw [List.length_map] at this; omega⟩
  · refine ⟨_, _, by rw [List.length_map], fun i r hi => ?_⟩
    rw [List.getElem?_map, Option.map_eq_some_iff] at hi
    obtain ⟨e, he, rfl⟩ := hi
    obtain ⟨_, a, n, c, h2, h3, _⟩ := E.2 i e he
    exact ⟨b, 0, _, cells, a, n, c, rfl, h6, by rw [Nat.zero_add, Nat.mul_comm]; exact h2, h3⟩

/-- A record is copied and put to the end of a list. -/
theorem copy_step {h0 g : Heap} {w : Value} {cells : List Value} {done : List (List Nat)} {r : List Nat} {a : Option Addr} {n c : Nat} (own : OwnC g h0.next 1 w done.length cells) (E : RecsAt g h0.next cells done) (hold : Old h0 g)
    (hs : sliceBytes a n g = some r) (hr : r.length ≤ 100000) (hd : done.length ≤ 1000000) :
    ∃ v1 g1 g2 b2 v3 g3 cells', appendA 1 1 (.slice (some ⟨g.next, 0, none⟩) 0 0) (.slice a n c) (g.alloc []) = some (v1, g1) ∧ bslR 1 (.slice none 0 0) 1 [(0, v1)] g1 = some (.slice (some ⟨b2, 0, none⟩) 1 1, g2) ∧
      appendA 1 24 w (.slice (some ⟨b2, 0, none⟩) 1 1) g2 = some (v3, g3) ∧ OwnC g3 h0.next 1 v3 (done ++ [r]).length cells' ∧ RecsAt g3 h0.next cells' (done ++ [r]) ∧ Old h0 g3 := by
  have hn := (sliceBytes_spec hs).1
  have hN : h0.next ≤ g.next := hold.next
  have oA : Old g (g.alloc []) := Kept.alloc _ _ _
  have nA : (g.alloc []).next = g.next + 1 := Heap.next_alloc ..
  have oA0 : Old h0 (g.alloc []) := hold.trans oA
  have own0 : OwnB (g.alloc []) g.next (.slice (some ⟨g.next, 0, none⟩) 0 0) [] := ⟨OwnC.empty _ (Nat.le_refl _), by simp⟩
  obtain ⟨v1, g1, e1, b1, k1, _⟩ := append_ownB own0 (by rw [oA.n0]; exact g.n0_le_next) (by omega) (Old.bytes oA hs) (c := c) (by simp only [List.length_nil]; omega)
  rw [List.nil_append] at b1
  have k1' : Old g g1 := oA.also k1 (fun c hc hb => by
    have : baseOf (.slice (some ⟨g.next, 0, none⟩) 0 0) = some g.next := rfl
    rw [this] at hb
    cases hb
    omega)
  obtain ⟨a1, c1, rfl, s1, t1, u1, _⟩ := b1.bytes
  have hlit : bslR 1 (.slice none 0 0) 1 [(0, .slice a1 r.length c1)] g1 = some (.slice (some ⟨g1.next, 0, none⟩) 1 1, g1.alloc [.slice a1 r.length c1]) := rfl
  have oB : Old g1 (g1.alloc [.slice a1 r.length c1]) := Kept.alloc _ _ _
  have oB0 : Old h0 (g1.alloc [.slice a1 r.length c1]) := (hold.trans k1').trans oB
  have gB : (g1.alloc [.slice a1 r.length c1]).get g1.next = some [.slice a1 r.length c1] := by rw [Heap.get_alloc, if_pos rfl]
  have ownB := (own.keep k1' (fun _ _ h => h)).keep oB (fun _ _ h => h)
  have EB := (E.keep k1' (fun _ h => h.elim)).keep oB (fun _ h => h.elim)
  have sB := Old.bytes oB s1
  generalize g1.alloc [.slice a1 r.length c1] = gB1 at *
  have hfB : firstA 1 1 (.slice (some ⟨g1.next, 0, none⟩) 1 1) gB1 = some [.slice a1 r.length c1] := by
    simp only [firstA, gB]
    rfl
  obtain ⟨v3, g3, f1, f2, f3, f4⟩ := append_own (by_ := 24) (x := .slice (some ⟨g1.next, 0, none⟩) 1 1) (m := 1) ownB (by rw [oB0.n0]; exact h0.n0_le_next) oB0.next (by decide) rfl hfB rfl rfl rfl (by omega) (by omega)
  have pl : ∀ b, baseOf w = some b ∧ gB1.get b = some cells → Plain gB1 b := fun b hb => ⟨cells, hb.2, EB.plain⟩
  refine ⟨_, g1, gB1, g1.next, v3, g3, cells ++ [.slice a1 r.length c1], e1, hlit, f1, by rw [List.length_append]; exact f2, ?_, ?_⟩
  · exact (EB.keep f3 pl).append (RecsAt.one (f3.bytesP pl sB) t1 (fun y hy _ => Nat.le_trans hN (u1 y hy)))
  · exact oB0.also f3 (fun c hc hb => by have := ownB.base hb.1; omega)

theorem is24 : IsFn Try.prog 24 Try.f24 := ⟨by kernel_rfl, by kernel_rfl, by kernel_rfl, by kernel_rfl⟩
theorem is29 : IsFn Try.prog 29 Try.f29 := ⟨by kernel_rfl, by kernel_rfl, by kernel_rfl, by kernel_rfl⟩
theorem is30 : IsFn Try.prog 30 Try.f30 := ⟨by kernel_rfl, by kernel_rfl, by kernel_rfl, by kernel_rfl⟩
def ownInv (h0 : Heap) (v : Value) (vals : List (List Nat)) (k : Nat) (y : Nat → Value) (g : Heap) : Prop :=
  ∃ i cells, i + k = vals.length ∧ y 0 = v ∧ y 4 = i64n i ∧ OwnC g h0.next 1 (y 3) i cells ∧ RecsAt g h0.next cells (vals.take i) ∧ Old h0 g
def ownFin (h0 : Heap) (vals : List (List Nat)) (ex : Ex) (y : Nat → Value) (g : Heap) : Prop :=
  ex = .exit 0 ∧ ∃ cells, OwnC g h0.next 1 (y 3) vals.length cells ∧ RecsAt g h0.next cells vals ∧ Old h0 g
theorem take_snoc {vals : List (List Nat)} {i : Nat} (h : i < vals.length) : vals.take (i + 1) = vals.take i ++ [vals[i]] := by
  rw [List.take_add_one, List.getElem?_eq_getElem h]; rfl
section
variable {h0 : Heap} {v : Value} {vals : List (List Nat)}
theorem own_round (R : RecsS h0 v vals 1 0) (hlen : vals.length ≤ 100000) (h21 : ∀ r ∈ vals, r.length ≤ 100000) : ∀ k y g, ownInv h0 v vals k y g → Rnd 22 (ownInv h0 v vals) (ownFin h0 vals) k (t24l24_11010 CD y g) := by
  rintro k y g ⟨i, cells, hik, y0, y4, own, E, hold⟩
  have hll := R.len
  unfold t24l24_11010
  simp -implicitDefEqProofs only [y4, y0, thenV_some, hll, pu_some, lss3]
  by_cases hlt : i < vals.length
  · obtain ⟨q, rfl⟩ : ∃ q, k = q + 1 := ⟨k - 1, by omega⟩
    have hbs : bslR 1 (.int .u8 0) 0 [] g = some (.slice (some ⟨g.next, 0, none⟩) 0 0, g.alloc []) := rfl
    obtain ⟨b, p, ai, ni, ci, hix, hld, hs⟩ := (R.old hold).at (List.getElem?_eq_getElem hlt)
    have hld := hld _ (Kept.alloc g [] _)
    rw [Nat.add_zero] at hld
    have hti : (vals.take i).length = i := by rw [List.length_take]; omega
    obtain ⟨v1, g1, g2, b2, v3, g3, cells', e1, e2, e3, o3, E3, hold3⟩ := copy_step (h0 := h0) (w := y 3) (done := vals.take i) (c := ci) (by rw [hti]; exact own) E hold hs (h21 _ (List.getElem_mem hlt)) (by omega)
    simp -implicitDefEqProofs only [decide_eq_true hlt, hbs, thenV_some, hix, hld, e1, e2, e3, pu_some, add31 (show i + 1 ≤ 9223372036854775807 by omega)]
    refine Rnd.next q (by omega) ⟨i + 1, cells', by omega, y0, rfl, ?_, ?_, hold3⟩
    · rw [List.length_append, hti] at o3
      exact o3
    · rw [take_snoc hlt]; exact E3
  · have hi : i = vals.length := by omega
    subst hi
    rw [List.take_length] at E
    simp -implicitDefEqProofs only [decide_eq_false hlt]
    exact Rnd.out 0 ⟨rfl, cells, own, E, hold⟩
theorem r24 (R : RecsS h0 v vals 1 0) (hlen : vals.length ≤ 100000) (h21 : ∀ r ∈ vals, r.length ≤ 100000) : ∃ v' cells h', CD 24 [v] h0 = some (v', h') ∧ OwnC h' h0.next 1 v' vals.length cells ∧ RecsAt h' h0.next cells vals ∧ Old h0 h' := by
  have key : ∃ v' cells h', t24 CD v h0 = some (v', h') ∧ OwnC h' h0.next 1 v' vals.length cells ∧ RecsAt h' h0.next cells vals ∧ Old h0 h' := by
    unfold t24
    have hbs : bslR 1 (.slice none 0 0) 0 [] h0 = some (.slice (some ⟨h0.next, 0, none⟩) 0 0, h0.alloc []) := rfl
    simp -implicitDefEqProofs only [hbs, thenV_some]
    refine endL_fin (Q := fun o : Out => ∃ v' cells h', o = some (v', h') ∧ OwnC h' h0.next 1 v' vals.length cells ∧ RecsAt h' h0.next cells vals ∧ Old h0 h')
      (loop_fin (t24l24_11010_eq CD) (own_round R hlen h21) vals.length (by have : rounds = 18446744073709551616 := rfl; omega)
        ⟨0, [], Nat.zero_add _, rfl, rfl, OwnC.empty _ (Nat.le_refl _), RecsAt.nil _ _, Kept.alloc _ _ _⟩) ?_
    rintro ex z g ⟨rfl, cells, own, E, hold⟩
    simp -implicitDefEqProofs only [endL_exit, b24_4, if_true, t24k24_2_eq]
    unfold t24k24_2
    simp -implicitDefEqProofs only [thenV_some]
    exact ⟨_, cells, g, rfl, own, E, hold⟩
  obtain ⟨v', cells, h', e, f⟩ := key
  exact ⟨v', cells, h', CD_body is24 rfl ((t24_eq _ _ _).trans e), f⟩

theorem datas_round (R : RecsS h0 v vals 2 1) (hlen : vals.length ≤ 100000) (h21 : ∀ r ∈ vals, r.length ≤ 100000) : ∀ k y g, ownInv h0 v vals k y g → Rnd 23 (ownInv h0 v vals) (ownFin h0 vals) k (t30l30_11010 CD y g) := by
  rintro k y g ⟨i, cells, hik, y0, y4, own, E, hold⟩
  have hll := R.len
  unfold t30l30_11010
  simp -implicitDefEqProofs only [y4, y0, thenV_some, hll, pu_some, lss3]
  by_cases hlt : i < vals.length
  · obtain ⟨q, rfl⟩ : ∃ q, k = q + 1 := ⟨k - 1, by omega⟩
    have hbs : bslR 1 (.int .u8 0) 0 [] g = some (.slice (some ⟨g.next, 0, none⟩) 0 0, g.alloc []) := rfl
    obtain ⟨b, p, ai, ni, ci, hix, hld, hs⟩ := (R.old hold).at (List.getElem?_eq_getElem hlt)
    have hld := hld _ (Kept.alloc g [] _)
    have hti : (vals.take i).length = i := by rw [List.length_take]; omega
    obtain ⟨v1, g1, g2, b2, v3, g3, cells', e1, e2, e3, o3, E3, hold3⟩ := copy_step (h0 := h0) (w := y 3) (done := vals.take i) (c := ci) (by rw [hti]; exact own) E hold hs (h21 _ (List.getElem_mem hlt)) (by omega)
    simp -implicitDefEqProofs only [decide_eq_true hlt, hbs, thenV_some, hix, addP_ptr, hld, e1, e2, e3, pu_some, add31 (show i + 1 ≤ 9223372036854775807 by omega)]
    refine Rnd.next q (by omega) ⟨i + 1, cells', by omega, y0, rfl, ?_, ?_, hold3⟩
    · rw [List.length_append, hti] at o3
      exact o3
    · rw [take_snoc hlt]; exact E3
  · have hi : i = vals.length := by omega
    subst hi
    rw [List.take_length] at E
    simp -implicitDefEqProofs only [decide_eq_false hlt]
    exact Rnd.out 0 ⟨rfl, cells, own, E, hold⟩
theorem r30 (R : RecsS h0 v vals 2 1) (hlen : vals.length ≤ 100000) (h21 : ∀ r ∈ vals, r.length ≤ 100000) : ∃ v' cells h', CD 30 [v] h0 = some (v', h') ∧ OwnC h' h0.next 1 v' vals.length cells ∧ RecsAt h' h0.next cells vals ∧ Old h0 h' := by
  have key : ∃ v' cells h', t30 CD v h0 = some (v', h') ∧ OwnC h' h0.next 1 v' vals.length cells ∧ RecsAt h' h0.next cells vals ∧ Old h0 h' := by
    unfold t30
    have hbs : bslR 1 (.slice none 0 0) 0 [] h0 = some (.slice (some ⟨h0.next, 0, none⟩) 0 0, h0.alloc []) := rfl
    simp -implicitDefEqProofs only [hbs, thenV_some]
    refine endL_fin (Q := fun o : Out => ∃ v' cells h', o = some (v', h') ∧ OwnC h' h0.next 1 v' vals.length cells ∧ RecsAt h' h0.next cells vals ∧ Old h0 h')
      (loop_fin (t30l30_11010_eq CD) (datas_round R hlen h21) vals.length (by have : rounds = 18446744073709551616 := rfl; omega)
        ⟨0, [], Nat.zero_add _, rfl, rfl, OwnC.empty _ (Nat.le_refl _), RecsAt.nil _ _, Kept.alloc _ _ _⟩) ?_
    rintro ex z g ⟨rfl, cells, own, E, hold⟩
    simp -implicitDefEqProofs only [endL_exit, b30_4, if_true, t30k30_2_eq]
    unfold t30k30_2
    simp -implicitDefEqProofs only [thenV_some]
    exact ⟨_, cells, g, rfl, own, E, hold⟩
  obtain ⟨v', cells, h', e, f⟩ := key
  exact ⟨v', cells, h', CD_body is30 rfl ((t30_eq _ _ _).trans e), f⟩
end

theorem strOf_inj {a b : List Nat} (ha : ∀ x ∈ a, x < 256) (hb : ∀ x ∈ b, x < 256) : ((strOf a).toList == (strOf b).toList) = decide (a = b) := by
  have hl : ∀ l : List Nat, (strOf l).toList = l.map UInt8.ofNat := fun l => Go.ByteArray.toList_mk _
  have hinj : ∀ a b : List Nat, (∀ x ∈ a, x < 256) → (∀ x ∈ b, x < 256) → a.map UInt8.ofNat = b.map UInt8.ofNat → a = b := by
    intro a
    induction a with
    | nil => intro b _ _ h; simpa using h.symm
    | cons x a ih =>
      intro b ha hb h
      match b with
      | [] => simp at h
      | y :: b =>
        rw [List.map_cons, List.map_cons, List.cons.injEq] at h
        have hx := ha x List.mem_cons_self
        have hy := hb y List.mem_cons_self
        have e : x = y := by
          have := congrArg UInt8.toNat h.1
          rw [UInt8.toNat_ofNat', UInt8.toNat_ofNat'] at this
          omega
        rw [e, ih b (fun z hz => ha z (List.mem_cons_of_mem _ hz)) (fun z hz => hb z (List.mem_cons_of_mem _ hz)) h.2]
  rw [hl, hl]
  by_cases e : a = b
  · rw [decide_eq_true e, e]; exact beq_self_eq_true _
  · rw [decide_eq_false e, beq_eq_false_iff_ne]
    exact fun h => e (hinj a b ha hb h)
section
variable {h0 : Heap} {v w : Value} {la lb : List (List Nat)}
def sameInv (h0 : Heap) (v w : Value) (la lb : List (List Nat)) (k : Nat) (y : Nat → Value) (g : Heap) : Prop :=
  ∃ i, i + k = la.length ∧ y 0 = v ∧ y 1 = w ∧ y 5 = i64n i ∧ g = h0 ∧ la.take i = lb.take i
def sameFin (h0 : Heap) (la lb : List (List Nat)) (ex : Ex) (y : Nat → Value) (g : Heap) : Prop :=
  g = h0 ∧ ((ex = .ret ∧ y 4 = .bool false ∧ la ≠ lb) ∨ (ex = .exit 0 ∧ la = lb))
theorem same_round (R : RecsS h0 v la 1 0) (S : RecsS h0 w lb 1 0) (hll : la.length = lb.length) (hlen : la.length ≤ 100000) : ∀ k y g, sameInv h0 v w la lb k y g → Rnd 28 (sameInv h0 v w la lb) (sameFin h0 la lb) k (t29l29_11010 CD y g) := by
  rintro k y g ⟨i, hik, y0, y1, y5, rfl, ht⟩
  have hl := R.len
  unfold t29l29_11010
  simp -implicitDefEqProofs only [y5, y0, thenV_some, hl, pu_some, lss3]
  by_cases hlt : i < la.length
  · obtain ⟨q, rfl⟩ : ∃ q, k = q + 1 := ⟨k - 1, by omega⟩
    have hlt2 : i < lb.length := by omega
    obtain ⟨b, p, ai, ni, ci, hix, hld, hs⟩ := R.at (List.getElem?_eq_getElem hlt)
    obtain ⟨b', p', ai', ni', ci', hix', hld', hs'⟩ := S.at (List.getElem?_eq_getElem hlt2)
    have hld := hld _ (Kept.refl _ _)
    have hld' := hld' _ (Kept.refl _ _)
    rw [Nat.add_zero] at hld hld'
    have cv := cvBS_at (c := ci) hs
    have cv' := cvBS_at (c := ci') hs'
    simp -implicitDefEqProofs only [decide_eq_true hlt, hix, thenV_some, hld, cv, y1, hix', hld', cv', pu_some, bin_str_neq, strOf_inj (sliceBytes_spec hs).2.1 (sliceBytes_spec hs').2.1]
    by_cases he : la[i] = lb[i]
    · simp -implicitDefEqProofs only [decide_eq_true he, Bool.not_true, thenV_some, add31 (show i + 1 ≤ 9223372036854775807 by omega), pu_some]
      exact Rnd.next q (by omega) ⟨i + 1, by omega, y0, y1, rfl, rfl, by rw [take_snoc hlt, take_snoc hlt2, ht, he]⟩
    · simp -implicitDefEqProofs only [decide_eq_false he, Bool.not_false, thenV_some]
      exact Rnd.ret ⟨rfl, .inl ⟨rfl, rfl, fun h => he (by subst h; rfl)⟩⟩
  · have hi : i = la.length := by omega
    subst hi
    rw [List.take_length, hll, List.take_length] at ht
    simp -implicitDefEqProofs only [decide_eq_false hlt]
    exact Rnd.out 0 ⟨rfl, .inr ⟨rfl, ht⟩⟩
theorem r29 (R : RecsS h0 v la 1 0) (S : RecsS h0 w lb 1 0) (hlen : la.length ≤ 100000) : CD 29 [v, w] h0 = some (.bool (decide (la = lb)), h0) := by
  refine CD_body is29 rfl ((t29_eq _ _ _ _).trans ?_)
  unfold t29
  simp -implicitDefEqProofs only [thenV_some, R.len, S.len, pu_some, bin3n]
  by_cases hll : la.length = lb.length
  · have hb : (la.length == lb.length) = true := by rw [hll]; exact beq_self_eq_true _
    simp -implicitDefEqProofs only [hb, Bool.not_true, thenV_some]
    refine endL_fin (Q := fun o : Out => o = some (Value.bool (decide (la = lb)), h0)) (loop_fin (t29l29_11010_eq CD) (same_round R S hll hlen) la.length (by have : rounds = 18446744073709551616 := rfl; omega)
      ⟨0, Nat.zero_add _, rfl, rfl, rfl, rfl, rfl⟩) ?_
    rintro ex z g ⟨rfl, ⟨rfl, z4, hne⟩ | ⟨rfl, he⟩⟩
    · rw [endL_ret, res_one (t := 4) (by kernel_rfl) (by decide), z4, decide_eq_false hne]
    · simp -implicitDefEqProofs only [endL_exit, b29_6, if_true, t29k29_4_eq]
      unfold t29k29_4
      rw [thenV_some, decide_eq_true he]
  · have hb : (la.length == lb.length) = false := beq_eq_false_iff_ne.2 hll
    simp -implicitDefEqProofs only [hb, Bool.not_false, thenV_some]
    rw [decide_eq_false (fun h => hll (by rw [h]))]
end
end Go.Proofs.Ytcmfgmhadeeieaa

namespace Go.Proofs.Ytcmfgmhadeeieaa
open Go Go.Abs

end Go.Proofs.Ytcmfgmhadeeieaa

namespace Go.Proofs.Ytcmfgmhadeeieaa
open Go Go.Abs

theorem right_logOk {at_ : Nat} {b : List Nat} (h : right b = false) : logOk at_ b = false := by unfold logOk; rw [h]; rfl

/-- A block of a record is no more right. -/
theorem hides {D : Dk} {area gen at_ : Nat} {r : List Nat} (_hg : gen < 18446744073709551616) (hr : r.length ≤ 20000) (_hb : ∀ x ∈ r, x < 256) (_hfit : at_ + costN r.length ≤ D.ar) (_har : D.ar ≤ 4096) {i : Nat} (hi : i < costN r.length) (hbad : right (D.jb area (at_ + i)) = false)
    (hrest : ∀ j, j < costN r.length → j ≠ i → D.jb area (at_ + j) = logBlk gen (at_ + j) j (costN r.length) (chunk r j)) : ∀ j, j < costN r.length → D.stands area gen (at_ + j) = false := by
  intro j hj
  have hc := costN_le (n := r.length) (by omega)
  by_cases hji : j = i
  · subst hji
    exact Dk.noB.stands (.inl (right_logOk hbad))
  by_cases hj0 : j = 0
  · subst hj0
    rw [Nat.add_zero]
    have h0 := hrest 0 hj hji
    rw [Nat.add_zero] at h0
    have hp : D.parts area at_ = costN r.length := by
      unfold Dk.parts
      rw [h0, logParts_log (by omega)]
    refine Dk.not_stands (i := i) (by rw [hp]; exact hi) ?_
    unfold Dk.part
    rw [right_logOk hbad]; rfl
  · refine Dk.noB.stands (.inr (.inr ?_))
    rw [hrest j hj hji, logPart_log (by omega)]
    exact hj0

end Go.Proofs.Ytcmfgmhadeeieaa

namespace Go.Proofs.Ytcmfgmhadeeieaa
open Go Go.Abs

theorem BytesV.old {h h' : Heap} {v : Value} {l : List Nat} (x : BytesV h v l) (k : Old h h') : BytesV h' v l := by
  obtain ⟨a, n, c, rfl, h1, h2⟩ := x
  exact ⟨a, n, c, rfl, Old.bytes k h1, h2⟩
theorem RecsV.old {h h' : Heap} {v : Value} {vals : List (List Nat)} (x : RecsV h v vals) (k : Old h h') : RecsV h' v vals := by
  obtain ⟨a, n, c, rfl, h1, h2, h3⟩ := x
  refine ⟨a, n, c, rfl, h1, h2, fun i hi => ?_⟩
  obtain ⟨b, off, s, kk, rv, e1, e2, e3, e4, e5⟩ := h3 i hi
  exact ⟨b, off, s, kk, rv, e1, Old.get k e2, e3, e4, e5.old k⟩
theorem RecsV.byte {h : Heap} {v : Value} {vals : List (List Nat)} (x : RecsV h v vals) : ∀ r ∈ vals, ∀ y ∈ r, y < 256 := by
  intro r hr
  obtain ⟨i, hi⟩ := List.getElem?_of_mem hr
  obtain ⟨a, n, c, rfl, h1, h2, h3⟩ := x
  obtain ⟨b, off, s, kk, rv, e1, e2, e3, e4, a', n', c', _, e5, _⟩ := h3 i (by have := (List.getElem?_eq_some_iff.1 hi).1; omega)
  rw [List.getD_eq_getElem?_getD, hi] at e5
  exact (sliceBytes_spec e5).2.1

/-- A list of records as an argument. -/
def RecsI (h : Heap) (v : Value) (vals : List (List Nat)) : Prop := RecsV h v vals ∧ ∃ a n c, v = .slice a n c ∧ n ≤ c ∧ ∀ y, a = some y → 0 < n → y.spot = none
theorem RecsI.old {h h' : Heap} {v : Value} {vals : List (List Nat)} (x : RecsI h v vals) (k : Old h h') : RecsI h' v vals := ⟨x.1.old k, x.2⟩
theorem RecsI.S {h : Heap} {v : Value} {vals : List (List Nat)} (x : RecsI h v vals) : RecsS h v vals 1 0 := x.1.S
theorem RecsI.to {h : Heap} {v : Value} {vals : List (List Nat)} (x : RecsI h v vals) (h0 : 0 < vals.length) {k : Nat} (hk : k ≤ vals.length) : ∃ v', slR 1 v none (some (i64n k)) none = some v' ∧ RecsS h v' (vals.take k) 1 0 := by
  obtain ⟨hV, a, n, c, rfl, hnc, hsp⟩ := x
  obtain ⟨a', c', e, hS⟩ := hV.S
  cases e
  obtain ⟨b, f, s, kk, ai, ni, ci, rfl, _⟩ := hS 0 _ (List.getElem?_eq_getElem h0)
  have : s = none := hsp _ rfl h0
  subst this
  have hb : boundsA vals.length c none (some (i64n k)) none = some (0, k, c) := by
    unfold boundsA
    simp only [boundA, i64n]
    rw [if_pos (by omega), Int.toNat_natCast]
  refine ⟨.slice (some ⟨b, if c = 0 then f else f + 0 * 1, none⟩) (k - 0) (c - 0), ?_, ?_⟩
  · unfold slR sliceSl
    simp only [hb]
  · refine ⟨_, _, by rw [List.length_take, Nat.min_eq_left hk, Nat.sub_zero], fun i r hi => ?_⟩
    rw [List.getElem?_take] at hi
    split at hi
    · obtain ⟨b', f', s', k2, ai', ni', ci', e, r1, r2, r3⟩ := hS i r hi
      cases e
      exact ⟨b, _, none, k2, ai', ni', ci', rfl, r1, by rw [show (if c = 0 then f else f + 0 * 1) = f by split <;> omega]; exact r2, r3⟩
    · cases hi
theorem RecsI.from {h : Heap} {v : Value} {vals : List (List Nat)} (x : RecsI h v vals) (h0 : 0 < vals.length) {k : Nat} (hk : k ≤ vals.length) : ∃ v', slR 1 v (some (i64n k)) none none = some v' ∧ RecsS h v' (vals.drop k) 1 0 := by
  obtain ⟨hV, a, n, c, rfl, hnc, hsp⟩ := x
  obtain ⟨a', c', e, hS⟩ := hV.S
  cases e
  obtain ⟨b, f, s, kk, ai, ni, ci, rfl, _⟩ := hS 0 _ (List.getElem?_eq_getElem h0)
  have : s = none := hsp _ rfl h0
  subst this
  have hb : boundsA vals.length c (some (i64n k)) none none = some (k, vals.length, c) := by
    unfold boundsA
    simp only [boundA, i64n]
    rw [if_pos (by omega), Int.toNat_natCast]
  refine ⟨.slice (some ⟨b, if c = k then f else f + k * 1, none⟩) (vals.length - k) (c - k), ?_, ?_⟩
  · unfold slR sliceSl
    simp only [hb]
  · refine ⟨_, _, by rw [List.length_drop], fun i r hi => ?_⟩
    rw [List.getElem?_drop] at hi
    have hl := (List.getElem?_eq_some_iff.1 hi).1
    obtain ⟨b', f', s', k2, ai', ni', ci', e, r1, r2, r3⟩ := hS _ r hi
    cases e
    refine ⟨b, _, none, k2, ai', ni', ci', rfl, r1, ?_, r3⟩
    rw [if_neg (by omega), show f + k * 1 + i * 1 + 0 = f + (k + i) * 1 + 0 by omega]
    exact r2

theorem X17 : XX 17 = s17 := rfl
/-- A cell of a list of one's own. -/
theorem OwnC.at {h : Heap} {N size len : Nat} {v : Value} {cells : List Value} (o : OwnC h N size v len cells) {i : Nat} (hi : i < len) : ∃ b, idxS size v (i64n i) = some (ptr b (i * size)) ∧ h.get b = some cells ∧ lenL v = some (i64n len) ∧ N ≤ b := by
  obtain ⟨_, _, _, ⟨rfl, h4⟩ | ⟨b, s, rfl, h5, ⟨rfl, h4⟩ | ⟨rfl, h6⟩⟩⟩ := o
  · omega
  · omega
  · refine ⟨b, ?_, h6, rfl, h5⟩
    unfold idxS
    simp only [i64n]
    rw [if_pos (by omega), Int.toNat_natCast, Nat.zero_add]
theorem OwnC.len {h : Heap} {N size len : Nat} {v : Value} {cells : List Value} (o : OwnC h N size v len cells) : lenL v = some (i64n len) := by
  obtain ⟨_, _, _, ⟨rfl, h4⟩ | ⟨b, s, rfl, h5, _⟩⟩ := o
  · rw [h4]; rfl
  · rfl
theorem OwnC.first {h : Heap} {N len : Nat} {v : Value} {cells : List Value} (o : OwnC h N 1 v len cells) : lenA v = some len ∧ firstA 1 len v h = some cells := by
  obtain ⟨h1, h2, _, ⟨rfl, h4⟩ | ⟨b, s, rfl, h5, ⟨rfl, h4⟩ | ⟨rfl, h6⟩⟩⟩ := o
  · subst h4
    have : cells = [] := List.length_eq_zero_iff.1 (by omega)
    subst this
    exact ⟨rfl, rfl⟩
  · subst h4
    have : cells = [] := List.length_eq_zero_iff.1 (by omega)
    subst this
    exact ⟨rfl, rfl⟩
  · refine ⟨rfl, ?_⟩
    simp only [firstA, h6]
    by_cases h0 : len = 0
    · subst h0
      have : cells = [] := List.length_eq_zero_iff.1 (by omega)
      subst this
      rfl
    · rw [if_neg (by omega), List.drop_zero, List.take_of_length_le (by omega), if_pos ⟨by omega, h2⟩]
theorem layR_at : ∀ (vals : List (List Nat)) (a k : Nat), k < vals.length → (layR vals a)[k]? = some (a + recsTot (vals.take k), vals.getD k [])
  | r :: rs, a, 0, _ => by simp [layR, recsTot_nil]
  | r :: rs, a, k + 1, h => by
    rw [layR, List.getElem?_cons_succ, layR_at rs _ k (by simpa using h), List.take_succ_cons, recsTot_cons, Nat.add_assoc]
    rfl

/-- A new disk, opened: the journal of a disk on which nothing stands. -/
theorem new_open (h : Heap) {n : Nat} (h4 : 4 ≤ n) (hn : n ≤ 4096) : ∃ d D j v N g1 g2, CD 18 [i64n n] h = some (.tuple #[ptr d 0, .int .i64 0], g1) ∧ CD 21 [ptr d 0] g1 = some (.tuple #[ptr j 0, v, .int .i64 0], g2) ∧
    IsDk g2 d D ∧ IsJn g2 j d (D.jn0 D.turn) ∧ Old h g2 ∧ Up D ∧ Fresh D ∧ D.n = n ∧ D.turn = 1 ∧ (D.jn0 D.turn).live D = true ∧ JnOk (D.jn0 D.turn) D ∧ h.next ≤ d ∧ h.next ≤ j ∧ h.next ≤ D.bb ∧ D.img = List.replicate (128 * n) 0 ∧ OwnC g2 N 2 v 0 [] := by
  obtain ⟨e1, x1, o1⟩ := r18 h h4 hn
  have u1 := new_up h n
  have f1 := new_fresh h n
  obtain ⟨j, v2, cells2, N2, g2, e2, x2, j2, own2, ent2, k2, l2, l2', l2''⟩ := r21 x1 (by show 2 ≤ n; omega) u1.down
  have hj := f1.jn h4
  have hle := f1.entries h4
  rw [hj] at j2
  rw [hle] at own2 ent2
  have hc : cells2 = [] := List.length_eq_zero_iff.1 ent2.1
  subst hc
  have hn1 : (newDk h n).next = h.next + 2 := rfl
  exact ⟨h.next + 1, (Dk.new h n).opened, j, v2, N2, newDk h n, g2, e1, e2, x2, j2, o1.also k2 (fun c hc e => by subst e; omega), ⟨u1.len, rfl, rfl⟩, f1, rfl, rfl, Jn.live_opened rfl rfl, JnOk.new _ _, by omega, by omega, Nat.le_refl _, rfl, own2⟩
end Go.Proofs.Ytcmfgmhadeeieaa

namespace Go.Proofs.Ytcmfgmhadeeieaa
open Go Go.Abs

theorem chk_no (o : Out) (v : Value) : chkR false o v = true := rfl
section
variable {h g2 : Heap} {d j ob : Nat} {D : Dk} {v : Value} {vals : List (List Nat)} {kind A B : Int} {m : Nat} {p q : Value}
end
end Go.Proofs.Ytcmfgmhadeeieaa

