/-
  The journal's plain law: what is written is what is read.
  Conditions: as each theorem states.
  The journal's plain law: with power, a Rewrite and an Append succeed, and what they lay is what Open finds.
  Conditions: as each theorem states.
  The journal's plain law: what Open finds; a Rewrite and an Append with power.
  Conditions: as each theorem states.
  A journal can not be used after a later Open nor after a loss of power: the walk.
  Conditions: as each theorem states.
  Lists of records in memory: own, datas, same.
  Conditions: as each theorem states.
  One changed byte breaks a block's checksum; Rot.
  Conditions: as each theorem states.
  The journal's plain law: a changed byte hides exactly the record.
  Conditions: as each theorem states.
  Parts of lists of records; the script that heavy is asked about.
  Conditions: as each theorem states.
  The reference's disk: New, Blocks, Block, Off, On, Wipe, Arm, Read.
  Conditions: as each theorem states.
  The reference's disk: Off, On, Wipe, Arm, Read, put, Write, Rot.
  Conditions: as each theorem states.
  The reference's disk: put, Write, Rot.
  Conditions: as each theorem states.
  The reference's Rot; Wipe; the two disks beside each other.
  Conditions: as each theorem states.
  device: one call on both disks.
  Conditions: as each theorem states.
  DiskDevice: the walk.
  Conditions: as each theorem states.
-/
import Derived.Test.YtcmfgmhadeeieaaG6
namespace Go.Proofs.Ytcmfgmhadeeieaa
open Go Go.Abs

theorem be_cons (x : Nat) : ∀ l : List Nat, be (x :: l) = x * 256 ^ l.length + be l := by
  have key : ∀ (l : List Nat) (a : Nat), l.foldl (fun v x => v * 256 + x) a = a * 256 ^ l.length + be l := by
    intro l
    induction l with
    | nil => intro a; simp [be]
    | cons y l ih =>
      intro a
      have e1 : be (y :: l) = l.foldl (fun v x => v * 256 + x) (0 * 256 + y) := rfl
      rw [List.foldl_cons, ih, e1, ih, List.length_cons, Nat.pow_succ, Nat.add_mul, Nat.zero_mul, Nat.zero_add, Nat.mul_assoc, Nat.mul_comm 256, Nat.add_assoc]
  intro l
  have e1 : be (x :: l) = l.foldl (fun v x => v * 256 + x) (0 * 256 + x) := rfl
  rw [e1, key, Nat.zero_mul, Nat.zero_add]
theorem be_beB : ∀ n v, be (beB n v) = v % 256 ^ n
  | 0, v => by simp [beB, be, Nat.mod_one]
  | n + 1, v => by
    rw [beB, be_cons, beB_length, be_beB n v, Nat.mod_pow_succ, Nat.mul_comm, Nat.add_comm]
theorem be_beB_lt {n v : Nat} (h : v < 256 ^ n) : be (beB n v) = v := by rw [be_beB, Nat.mod_eq_of_lt h]
theorem field {A F X : List Nat} {n m : Nat} (hA : A.length = n) (hF : F.length = m) : ((A ++ (F ++ X)).drop n).take m = F := by
  rw [List.drop_left' hA, List.take_left' hF]

theorem right_seal {l : List Nat} (hb : ∀ x ∈ l, x < 256) : right (sealB l) = true := by
  have hb2 : ∀ x ∈ l ++ List.replicate (124 - l.length) 0, x < 256 := by
    intro x hx
    rcases List.mem_append.1 hx with hx | hx
    · exact hb x hx
    · rw [List.eq_of_mem_replicate hx]; decide
  have hc := crcN_lt hb2
  unfold right sealB
  rw [List.take_left' (beB_length 4 _), List.drop_left' (beB_length 4 _), be_beB_lt (by omega)]
  exact beq_self_eq_true _

section
variable {gen at_ part parts : Nat} {data : List Nat} (hg : gen < 18446744073709551616) (hat : at_ < 4294967296) (hp : part < 65536) (hps : parts < 65536) (hd : data.length ≤ 106) (hb : ∀ x ∈ data, x < 256)
theorem logBody_byte (hb : ∀ x ∈ data, x < 256) : ∀ x ∈ logBody gen at_ part parts data, x < 256 := by
  intro x hx
  simp only [logBody, List.mem_append] at hx
  rcases hx with ((((hx | hx) | hx) | hx) | hx) | hx
  · exact beB_byte _ _ x hx
  · exact beB_byte _ _ x hx
  · exact beB_byte _ _ x hx
  · exact beB_byte _ _ x hx
  · exact beB_byte _ _ x hx
  · exact hb x hx
/-- The parts of a log block. -/
theorem logBlk_parts (gen at_ part parts : Nat) (data : List Nat) : ∃ C Z : List Nat, C.length = 4 ∧ logBlk gen at_ part parts data = C ++ (beB 8 gen ++ (beB 4 at_ ++ (beB 2 part ++ (beB 2 parts ++ (beB 2 data.length ++ (data ++ Z)))))) := by
  refine ⟨beB 4 (crcN (logBody gen at_ part parts data ++ List.replicate (124 - (logBody gen at_ part parts data).length) 0)), List.replicate (124 - (logBody gen at_ part parts data).length) 0, beB_length 4 _, ?_⟩
  simp only [logBlk, sealB, logBody, List.append_assoc]
theorem logBlk_length (hd : data.length ≤ 106) : (logBlk gen at_ part parts data).length = 128 := sealB_length (by rw [logBody_length]; omega)
theorem right_log (hb : ∀ x ∈ data, x < 256) : right (logBlk gen at_ part parts data) = true := right_seal (logBody_byte hb)
include hg in
theorem logGen_log : logGen (logBlk gen at_ part parts data) = gen := by
  obtain ⟨C, Z, hC, e⟩ := logBlk_parts gen at_ part parts data
  unfold logGen
  rw [e, field hC (beB_length 8 _), be_beB_lt (by omega)]
include hat in
theorem logPlace_log : logPlace (logBlk gen at_ part parts data) = at_ := by
  obtain ⟨C, Z, hC, e⟩ := logBlk_parts gen at_ part parts data
  unfold logPlace
  rw [e, ← List.append_assoc, field (by rw [List.length_append, hC, beB_length]) (beB_length 4 _), be_beB_lt (by omega)]
include hp in
theorem logPart_log : logPart (logBlk gen at_ part parts data) = part := by
  obtain ⟨C, Z, hC, e⟩ := logBlk_parts gen at_ part parts data
  unfold logPart
  rw [e, ← List.append_assoc, ← List.append_assoc, field (by simp only [List.length_append, hC, beB_length]) (beB_length 2 _), be_beB_lt (by omega)]
include hps in
theorem logParts_log : logParts (logBlk gen at_ part parts data) = parts := by
  obtain ⟨C, Z, hC, e⟩ := logBlk_parts gen at_ part parts data
  unfold logParts
  rw [e, ← List.append_assoc, ← List.append_assoc, ← List.append_assoc, field (by simp only [List.length_append, hC, beB_length]) (beB_length 2 _), be_beB_lt (by omega)]
include hd in
theorem logSize_log : logSize (logBlk gen at_ part parts data) = data.length := by
  obtain ⟨C, Z, hC, e⟩ := logBlk_parts gen at_ part parts data
  unfold logSize
  rw [e, ← List.append_assoc, ← List.append_assoc, ← List.append_assoc, ← List.append_assoc, field (by simp only [List.length_append, hC, beB_length]) (beB_length 2 _), be_beB_lt (by omega)]
include hd in
theorem logData_log : logData (logBlk gen at_ part parts data) = data := by
  have hs := logSize_log (gen := gen) (at_ := at_) (part := part) (parts := parts) hd
  obtain ⟨C, Z, hC, e⟩ := logBlk_parts gen at_ part parts data
  unfold logData
  rw [hs, if_pos hd, e, ← List.append_assoc, ← List.append_assoc, ← List.append_assoc, ← List.append_assoc, ← List.append_assoc, field (by simp only [List.length_append, hC, beB_length]) rfl]
include hat hp hps hd hb in
theorem logOk_log (at2 : Nat) (h1 : 1 ≤ parts) (h2 : part < parts) : logOk at2 (logBlk gen at_ part parts data) = (at_ == at2) := by
  unfold logOk
  rw [right_log hb, logPlace_log hat, logParts_log hps, logPart_log hp, logSize_log hd, decide_eq_true h1, decide_eq_true h2, decide_eq_true hd]
  simp
end

theorem right_zero : right (List.replicate 128 0) = false := by kernel_rfl
theorem superOk_zero : superOk (List.replicate 128 0) = false := by unfold superOk; rw [right_zero]; rfl
theorem logOk_zero (at_ : Nat) : logOk at_ (List.replicate 128 0) = false := by unfold logOk; rw [right_zero]; rfl

/-- The chunks of a record are the record. -/
theorem chunks (r : List Nat) : (List.range (costN r.length)).flatMap (chunk r) = r := by
  have key : ∀ k, (List.range k).flatMap (chunk r) = r.take (106 * k) := by
    intro k
    induction k with
    | zero => simp
    | succ k ih =>
      rw [List.range_succ, List.flatMap_append, ih]
      simp only [List.flatMap_cons, List.flatMap_nil, List.append_nil, chunk]
      rw [Nat.mul_succ, List.take_add]
  rw [key, List.take_of_length_le (costN_room _)]

/-- A record is placed. -/
def Dk.placed (D : Dk) (area gen at_ : Nat) (r : List Nat) : Prop := ∀ i, i < costN r.length → D.jb area (at_ + i) = logBlk gen (at_ + i) i (costN r.length) (chunk r i)
theorem chunk_byte {r : List Nat} (hb : ∀ x ∈ r, x < 256) (i : Nat) : ∀ x ∈ chunk r i, x < 256 := fun x hx => hb x (List.mem_of_mem_drop (List.mem_of_mem_take hx))
theorem Dk.placed_stands {D : Dk} {area gen at_ : Nat} {r : List Nat} (p : D.placed area gen at_ r) (hg : gen < 18446744073709551616) (hr : r.length ≤ 20000) (hb : ∀ x ∈ r, x < 256) (hfit : at_ + costN r.length ≤ D.ar) (har : D.ar ≤ 4096) :
    D.stands area gen at_ = true ∧ D.parts area at_ = costN r.length ∧ D.data area at_ (costN r.length) = r := by
  have hc := costN_le (n := r.length) (by omega)
  have hp := costN_pos r.length
  have h0 := p 0 (by omega)
  have hparts : D.parts area at_ = costN r.length := by
    unfold Dk.parts
    rw [Nat.add_zero] at h0
    rw [h0, logParts_log (by omega)]
  refine ⟨?_, hparts, ?_⟩
  · unfold Dk.stands
    rw [hparts, decide_eq_true hfit, decide_eq_true hp, Bool.true_and, Bool.true_and, List.all_eq_true]
    intro i hi
    have hi := List.mem_range.1 hi
    unfold Dk.part
    have hcl := chunk_length r i
    rw [p i hi, logOk_log (by omega) (by omega) (by omega) hcl (chunk_byte hb i) _ hp hi, logGen_log hg, logPart_log (by omega), logParts_log (by omega)]
    simp
  · unfold Dk.data
    have : (List.range (costN r.length)).flatMap (fun i => logData (D.jb area (at_ + i))) = (List.range (costN r.length)).flatMap (chunk r) := by
      have hcong : ∀ (l : List Nat) (f g : Nat → List Nat), (∀ i ∈ l, f i = g i) → l.flatMap f = l.flatMap g := by
        intro l f g
        induction l with
        | nil => intro _; rfl
        | cons a l ih =>
          intro h
          rw [List.flatMap_cons, List.flatMap_cons, h a List.mem_cons_self, ih (fun i hi => h i (List.mem_cons_of_mem _ hi))]
      refine hcong _ _ _ (fun i hi => ?_)
      rw [p i (List.mem_range.1 hi), logData_log (chunk_length r i)]
    rw [this, chunks]

/-- Two disks but for what stands on them. -/
structure Alike (D E : Dk) : Prop where
  bb : E.bb = D.bb
  n : E.n = D.n
  down : E.down = D.down
  armed : E.armed = D.armed
  turn : E.turn = D.turn
  len : E.img.length = D.img.length
theorem Alike.refl (D : Dk) : Alike D D := ⟨rfl, rfl, rfl, rfl, rfl, rfl⟩
theorem Alike.trans {A B C : Dk} (a : Alike A B) (b : Alike B C) : Alike A C := ⟨b.bb.trans a.bb, b.n.trans a.n, b.down.trans a.down, b.armed.trans a.armed, b.turn.trans a.turn, b.len.trans a.len⟩
theorem Alike.ar {D E : Dk} (a : Alike D E) : E.ar = D.ar := by unfold Dk.ar; rw [a.n]

/-- A block written with power. -/
theorem write_up {D : Dk} (hlen : D.img.length = 128 * D.n) (hd : D.down = false) (ha : D.armed = false) {i : Nat} (hi : i < D.n) {l : List Nat} (hl : l.length = 128) :
    D.write (i : Int) l = (0, D.lay (i : Int) l) ∧ Alike D (D.lay (i : Int) l) ∧ ∀ k, k < D.n → (D.lay (i : Int) l).blk k = if k = i then l else D.blk k := by
  refine ⟨?_, ⟨rfl, rfl, rfl, rfl, rfl, ?_⟩, ?_⟩
  · have hf : D.fault (i : Int) = 0 := by
      unfold Dk.fault
      rw [hd, if_neg (by simp), if_neg (by omega)]
    unfold Dk.write
    rw [if_pos hf, if_pos hl, ha, if_neg (by simp)]
  · unfold Dk.lay
    exact spliceN_length (by rw [Int.toNat_natCast]; omega)
  · intro k hk
    unfold Dk.lay Dk.blk
    simp only [Int.toNat_natCast]
    apply List.ext_getElem?
    intro q
    by_cases hq : q < 128
    · rw [List.getElem?_take, if_pos hq, List.getElem?_drop, getElem?_spliceN (by omega)]
      by_cases hki : k = i
      · subst hki
        rw [if_pos rfl, if_pos (by omega), Nat.add_sub_cancel_left]
      · rw [if_neg hki, if_neg (by omega), List.getElem?_take, if_pos hq, List.getElem?_drop]
    · rw [List.getElem?_take, if_neg hq]
      split
      · rw [List.getElem?_eq_none (by omega)]
      · rw [List.getElem?_take, if_neg hq]
end Go.Proofs.Ytcmfgmhadeeieaa

namespace Go.Proofs.Ytcmfgmhadeeieaa
open Go Go.Abs

/-- A disk with power, nothing armed. -/
structure Up (D : Dk) : Prop where
  len : D.img.length = 128 * D.n
  down : D.down = false
  armed : D.armed = false
theorem Up.alike {D E : Dk} (u : Up D) (a : Alike D E) : Up E := ⟨by rw [a.len, a.n, u.len], a.down.trans u.down, a.armed.trans u.armed⟩

theorem Dk.area_in (D : Dk) {area : Nat} (ha : area ≤ 1) (h1 : 1 ≤ D.ar) : 2 + area * D.ar + D.ar ≤ D.n := by
  have har : D.ar = (D.n - 2) / 2 := rfl
  have hm : area * D.ar ≤ D.ar := by
    have := Nat.mul_le_mul_right D.ar ha
    omega
  omega

theorem wr_up (area gen at_ parts : Nat) (r : List Nat) : ∀ (k i : Nat) (D : Dk), Up D → 2 + area * D.ar + at_ + i + k ≤ D.n →
    ∃ E, Dk.wr area gen at_ parts r k i D = (0, E) ∧ Alike D E ∧ ∀ b, b < D.n → E.blk b = if 2 + area * D.ar + at_ + i ≤ b ∧ b < 2 + area * D.ar + at_ + i + k then logBlk gen (b - (2 + area * D.ar)) (b - (2 + area * D.ar + at_)) parts (chunk r (b - (2 + area * D.ar + at_))) else D.blk b
  | 0, i, D, _, _ => ⟨D, rfl, .refl D, fun b _ => by rw [if_neg (by omega)]⟩
  | k + 1, i, D, u, h => by
    obtain ⟨w1, w2, w3⟩ := write_up u.len u.down u.armed (i := 2 + area * D.ar + at_ + i) (by omega) (l := logBlk gen (at_ + i) i parts (chunk r i)) (logBlk_length (chunk_length r i))
    obtain ⟨E, e1, e2, e3⟩ := wr_up area gen at_ parts r k (i + 1) _ (u.alike w2) (by rw [w2.ar, w2.n]; omega)
    refine ⟨E, ?_, w2.trans e2, ?_⟩
    · rw [Dk.wr, w1, if_pos rfl]
      exact e1
    · intro b hb
      rw [e3 b (by rw [w2.n]; exact hb), w2.ar, w3 b hb]
      generalize area * D.ar = q
      by_cases hbi : b = 2 + q + at_ + i
      · subst hbi
        rw [if_neg (by omega), if_pos rfl, if_pos (by omega), show 2 + q + at_ + i - (2 + q) = at_ + i by omega, show 2 + q + at_ + i - (2 + q + at_) = i by omega]
      · rw [if_neg hbi]
        by_cases hin : 2 + q + at_ + i ≤ b ∧ b < 2 + q + at_ + i + (k + 1)
        · rw [if_pos hin, if_pos (by omega)]
        · rw [if_neg hin, if_neg (by omega)]

theorem wrRec_up {D : Dk} (u : Up D) {area gen at_ : Nat} {r : List Nat} (ha : area ≤ 1) (hfit : at_ + costN r.length ≤ D.ar) :
    ∃ E, D.wrRec area gen at_ r = (0, E) ∧ Alike D E ∧ E.placed area gen at_ r ∧ ∀ b, b < D.n → (b < 2 + area * D.ar + at_ ∨ 2 + area * D.ar + at_ + costN r.length ≤ b) → E.blk b = D.blk b := by
  have hp := costN_pos r.length
  have hin := D.area_in ha (by omega)
  obtain ⟨E, e1, e2, e3⟩ := wr_up area gen at_ (costN r.length) r (costN r.length) 0 D u (by omega)
  refine ⟨E, e1, e2, ?_, ?_⟩
  · intro i hi
    unfold Dk.jb
    rw [e2.ar, e3 _ (by omega)]
    generalize area * D.ar = q at *
    rw [if_pos (by omega), show 2 + q + (at_ + i) - (2 + q) = at_ + i by omega, show 2 + q + (at_ + i) - (2 + q + at_) = i by omega]
  · intro b hb ho
    rw [e3 b hb, if_neg (by omega)]

/-- Records, one behind another. -/
def layR : List (List Nat) → Nat → List (Nat × List Nat)
  | [], _ => []
  | r :: rs, at_ => (at_, r) :: layR rs (at_ + costN r.length)
theorem recsTot_cons (r : List Nat) (rs : List (List Nat)) : recsTot (r :: rs) = costN r.length + recsTot rs := by simp [recsTot]
theorem recsTot_nil : recsTot [] = 0 := rfl
theorem recsTot_append (a b : List (List Nat)) : recsTot (a ++ b) = recsTot a + recsTot b := by simp [recsTot]
theorem layR_append : ∀ (a b : List (List Nat)) (at_ : Nat), layR (a ++ b) at_ = layR a at_ ++ layR b (at_ + recsTot a)
  | [], b, at_ => rfl
  | r :: rs, b, at_ => by
    rw [List.cons_append, layR, layR_append rs b, layR, recsTot_cons, Nat.add_assoc]; rfl
theorem lay_bound : ∀ (a : List (List Nat)) (at_ : Nat) (e : Nat × List Nat), e ∈ layR a at_ → at_ ≤ e.1 ∧ e.1 + costN e.2.length ≤ at_ + recsTot a ∧ e.2 ∈ a
  | [], _, e, h => by simp [layR] at h
  | r :: rs, at_, e, h => by
    rw [layR, List.mem_cons] at h
    rw [recsTot_cons]
    rcases h with rfl | h
    · exact ⟨Nat.le_refl _, by show at_ + costN r.length ≤ _; omega, List.mem_cons_self⟩
    · have := lay_bound rs _ e h
      exact ⟨by omega, by omega, List.mem_cons_of_mem _ this.2.2⟩

/-- What is placed stays placed where its blocks stay. -/
theorem Dk.placed.keep {D E : Dk} {area gen at_ : Nat} {r : List Nat} (p : D.placed area gen at_ r) (har : E.ar = D.ar) (h : ∀ i, i < costN r.length → E.blk (2 + area * D.ar + (at_ + i)) = D.blk (2 + area * D.ar + (at_ + i))) : E.placed area gen at_ r := by
  intro i hi
  have := p i hi
  unfold Dk.jb at this ⊢
  rw [har, h i hi, this]

/-- A block that is no block of a generation. -/
def Dk.noB (D : Dk) (area gen at_ : Nat) : Prop := logOk at_ (D.jb area at_) = false ∨ logGen (D.jb area at_) ≠ gen ∨ logPart (D.jb area at_) ≠ 0
theorem Dk.noB.stands {D : Dk} {area gen at_ : Nat} (h : D.noB area gen at_) : D.stands area gen at_ = false := by
  refine Dk.not_stands' (i := 0) (by omega) ?_
  unfold Dk.part
  rw [Nat.add_zero]
  rcases h with h | h | h
  · rw [h]; rfl
  · rw [beq_eq_false_iff_ne.2 h]; simp
  · rw [beq_eq_false_iff_ne.2 h]; simp

theorem ents_skip {D : Dk} {J : Jn} : ∀ (m at_ k : Nat), (∀ i, i < m → at_ + i < D.ar → D.stands J.area J.gen (at_ + i) = false) → D.ar ≤ at_ + k → ∃ k', D.ar ≤ at_ + m + k' ∧ D.ents J k at_ = D.ents J k' (at_ + m)
  | 0, at_, k, _, hk => ⟨k, hk, rfl⟩
  | m + 1, at_, k, h, hk => by
    by_cases hat : at_ < D.ar
    · obtain ⟨k0, rfl⟩ : ∃ k0, k = k0 + 1 := ⟨k - 1, by omega⟩
      have hs : J.stands D at_ = false := by
        rw [Jn.stands_iff hat]
        have := h 0 (by omega) hat
        rw [Nat.add_zero] at this
        rw [this, Bool.and_false]
      obtain ⟨k', h1, h2⟩ := ents_skip (D := D) (J := J) m (at_ + 1) k0 (fun i hi hai => by have := h (i + 1) (by omega) (by omega); rw [show at_ + 1 + i = at_ + (i + 1) by omega]; exact this) (by omega)
      refine ⟨k', by omega, ?_⟩
      rw [Dk.ents, if_pos hat, hs, if_neg (by decide), h2, show at_ + 1 + m = at_ + (m + 1) by omega]
    · exact ⟨0, by omega, by rw [Dk.ents_end (by omega), Dk.ents_end (by omega)]⟩

/-- The entries of records that are laid, but for those that are bad. -/
theorem ents_lay {D : Dk} {J : Jn} (hs : 0 ≤ J.slot) (hg : J.gen < 18446744073709551616) (har : D.ar ≤ 4096) (bad : Nat × List Nat → Bool) : ∀ (recs : List (List Nat)) (at_ k : Nat), (∀ r ∈ recs, r.length ≤ 20000 ∧ ∀ x ∈ r, x < 256) → at_ + recsTot recs ≤ D.ar → D.ar ≤ at_ + k →
    (∀ e ∈ layR recs at_, bad e = false → D.placed J.area J.gen e.1 e.2) → (∀ e ∈ layR recs at_, bad e = true → ∀ i, i < costN e.2.length → D.stands J.area J.gen (e.1 + i) = false) → (∀ p, at_ + recsTot recs ≤ p → p < D.ar → D.stands J.area J.gen p = false) →
    D.ents J k at_ = (layR recs at_).filter fun e => !bad e
  | [], at_, k, hr, hf, hk, h1, h2, h3 => by
    obtain ⟨k', _, e2⟩ := ents_skip (J := J) (D.ar - at_) at_ k (fun i hi _ => h3 _ (by rw [recsTot_nil]; omega) (by omega)) hk
    rw [e2, Dk.ents_end (by omega)]; rfl
  | r :: rs, at_, k, hr, hf, hk, h1, h2, h3 => by
    rw [recsTot_cons] at hf h3
    have hp := costN_pos r.length
    obtain ⟨hr1, hr2⟩ := hr r List.mem_cons_self
    have ih : ∀ k', D.ar ≤ at_ + costN r.length + k' → D.ents J k' (at_ + costN r.length) = (layR rs (at_ + costN r.length)).filter fun e => !bad e := fun k' hk' =>
      ents_lay hs hg har bad rs _ k' (fun r' h' => hr r' (List.mem_cons_of_mem _ h')) (by omega) hk' (fun e he => h1 e (by rw [layR]; exact List.mem_cons_of_mem _ he)) (fun e he => h2 e (by rw [layR]; exact List.mem_cons_of_mem _ he)) (fun p hp1 hp2 => h3 p (by omega) hp2)
    have hm : (at_, r) ∈ layR (r :: rs) at_ := by rw [layR]; exact List.mem_cons_self
    cases hb : bad (at_, r) with
    | true =>
      obtain ⟨k', e1, e2⟩ := ents_skip (J := J) (costN r.length) at_ k (fun i hi _ => h2 _ hm hb i hi) hk
      rw [e2, ih k' e1, layR, List.filter_cons, hb]; rfl
    | false =>
      obtain ⟨k0, rfl⟩ : ∃ k0, k = k0 + 1 := ⟨k - 1, by omega⟩
      obtain ⟨s1, s2, s3⟩ := Dk.placed_stands (h1 _ hm hb) hg hr1 hr2 (by show at_ + costN r.length ≤ _; omega) har
      have hst : J.stands D at_ = true := by rw [Jn.stands_iff (by omega), show D.stands J.area J.gen at_ = true from s1, decide_eq_true hs]; rfl
      have s2 : D.parts J.area at_ = costN r.length := s2
      have s3 : D.data J.area at_ (costN r.length) = r := s3
      rw [Dk.ents, if_pos (by omega), hst, if_pos rfl, s2, s3, ih k0 (by omega), layR, List.filter_cons, hb]; rfl
end Go.Proofs.Ytcmfgmhadeeieaa

namespace Go.Proofs.Ytcmfgmhadeeieaa
open Go Go.Abs

/-- A journal but for the highest generation that it knows. -/
def Jn.un (J : Jn) : Jn := { J with known := 0 }
theorem Jn.seeLog_un (D : Dk) (s at_ : Nat) (J : Jn) : (J.seeLog D s at_).un = J.un := by unfold Jn.seeLog; split <;> rfl
theorem Jn.seeLogs_un (D : Dk) (s : Nat) : ∀ k at_ J, (Jn.seeLogs D s k at_ J).un = J.un
  | 0, _, _ => rfl
  | k + 1, at_, J => by rw [Jn.seeLogs, Jn.seeLogs_un D s k, Jn.seeLog_un]
theorem Jn.takeSuper_un (D : Dk) (s : Nat) (J : Jn) : (J.takeSuper D s).un = J.un.takeSuper D s := by
  have h1 : J.un.slot = J.slot := rfl
  have h2 : J.un.gen = J.gen := rfl
  unfold Jn.takeSuper
  rw [h1, h2]
  split <;> rfl
theorem Jn.seeSlot_un (D : Dk) (s : Nat) (J : Jn) : (J.seeSlot D s).un = if superOk (D.blk s) = true then J.un.takeSuper D s else J.un := by
  unfold Jn.seeSlot
  rw [Jn.seeLogs_un]
  unfold Jn.seeSuper
  split
  · exact Jn.takeSuper_un D s J
  · rfl
theorem Dk.openJ_un (D : Dk) (t : Int) : (D.openJ t).un = if superOk (D.blk 1) = true then (if superOk (D.blk 0) = true then (D.jn0 t).takeSuper D 0 else D.jn0 t).takeSuper D 1 else if superOk (D.blk 0) = true then (D.jn0 t).takeSuper D 0 else D.jn0 t := by
  unfold Dk.openJ
  rw [Jn.seeSlot_un, Jn.seeSlot_un]; rfl

theorem Dk.jn0_take (D : Dk) (t : Int) (s : Nat) : (D.jn0 t).takeSuper D s = { turn := t, slot := s, area := superArea (D.blk s), gen := superGen (D.blk s), known := 0, ready := false, fin := 0 } := by
  unfold Jn.takeSuper
  rw [if_pos (.inl (show (-1 : Int) < 0 by decide))]
  rfl
/-- The superblock that counts. -/
structure Sup (D : Dk) (slot area gen : Nat) : Prop where
  s : slot ≤ 1
  ok : superOk (D.blk slot) = true
  g : superGen (D.blk slot) = gen
  a : superArea (D.blk slot) = area
  other : superOk (D.blk (1 - slot)) = true → superGen (D.blk (1 - slot)) < gen
theorem Sup.openJ {D : Dk} {slot area gen : Nat} (p : Sup D slot area gen) (t : Int) : (D.openJ t).un = { turn := t, slot := slot, area := area, gen := gen, known := 0, ready := false, fin := 0 } := by
  obtain ⟨s, ok, g, a, other⟩ := p
  rw [Dk.openJ_un]
  obtain rfl | rfl : slot = 0 ∨ slot = 1 := by omega
  · have other : superOk (D.blk 1) = true → superGen (D.blk 1) < gen := other
    rw [if_pos ok, Dk.jn0_take, g, a]
    split
    · rename_i h1
      have := other h1
      unfold Jn.takeSuper
      rw [if_neg]
      show ¬ (((0 : Nat) : Int) < 0 ∨ gen < superGen (D.blk 1))
      omega
    · rfl
  · have other : superOk (D.blk 0) = true → superGen (D.blk 0) < gen := other
    rw [if_pos ok]
    split
    · rename_i h0
      have := other h0
      rw [Dk.jn0_take]
      unfold Jn.takeSuper
      rw [if_pos (.inr (by show superGen (D.blk 0) < superGen (D.blk 1); omega)), g, a]
    · rw [Dk.jn0_take, g, a]
theorem Dk.openJ_none {D : Dk} (h0 : superOk (D.blk 0) = false) (h1 : superOk (D.blk 1) = false) (t : Int) : (D.openJ t).un = D.jn0 t := by
  rw [Dk.openJ_un, h0, h1]; rfl

/-- No generation on the disk is higher. -/
structure Knows (D : Dk) (B : Nat) : Prop where
  logs : ∀ s, s ≤ 1 → ∀ p, p < D.ar → logOk p (D.jb s p) = true → logGen (D.jb s p) ≤ B
  sups : ∀ s, s ≤ 1 → superOk (D.blk s) = true → superGen (D.blk s) ≤ B
theorem Jn.seeLogs_known (D : Dk) (s : Nat) : ∀ k at_ J, J.known ≤ (Jn.seeLogs D s k at_ J).known ∧ (∀ p, at_ ≤ p → p < at_ + k → logOk p (D.jb s p) = true → logGen (D.jb s p) ≤ (Jn.seeLogs D s k at_ J).known) ∧
    ∀ B, J.known ≤ B → (∀ p, at_ ≤ p → p < at_ + k → logOk p (D.jb s p) = true → logGen (D.jb s p) ≤ B) → (Jn.seeLogs D s k at_ J).known ≤ B
  | 0, at_, J => ⟨Nat.le_refl _, fun p h1 h2 => by omega, fun _ h _ => h⟩
  | k + 1, at_, J => by
    obtain ⟨i1, i2, i3⟩ := Jn.seeLogs_known D s k (at_ + 1) (J.seeLog D s at_)
    have hj : (J.seeLog D s at_).known = if logOk at_ (D.jb s at_) = true then max J.known (logGen (D.jb s at_)) else J.known := by
      unfold Jn.seeLog
      split <;> rfl
    refine ⟨?_, ?_, ?_⟩
    · show J.known ≤ (Jn.seeLogs D s k (at_ + 1) (J.seeLog D s at_)).known
      refine Nat.le_trans ?_ i1
      rw [hj]
      split <;> omega
    · intro p h1 h2 h3
      show _ ≤ (Jn.seeLogs D s k (at_ + 1) (J.seeLog D s at_)).known
      by_cases hp : p = at_
      · subst hp
        refine Nat.le_trans ?_ i1
        rw [hj, if_pos h3]
        omega
      · exact i2 p (by omega) (by omega) h3
    · intro B h1 h2
      refine i3 B ?_ (fun p h3 h4 => h2 p (by omega) (by omega))
      rw [hj]
      split
      · rename_i h
        have := h2 at_ (by omega) (by omega) h
        omega
      · exact h1
theorem Jn.seeSlot_known (D : Dk) (s : Nat) (J : Jn) : J.known ≤ (J.seeSlot D s).known ∧ (∀ p, p < D.ar → logOk p (D.jb s p) = true → logGen (D.jb s p) ≤ (J.seeSlot D s).known) ∧ (superOk (D.blk s) = true → superGen (D.blk s) ≤ (J.seeSlot D s).known) ∧
    ∀ B, J.known ≤ B → (∀ p, p < D.ar → logOk p (D.jb s p) = true → logGen (D.jb s p) ≤ B) → (superOk (D.blk s) = true → superGen (D.blk s) ≤ B) → (J.seeSlot D s).known ≤ B := by
  obtain ⟨i1, i2, i3⟩ := Jn.seeLogs_known D s D.ar 0 (J.seeSuper D s)
  have hj : (J.seeSuper D s).known = if superOk (D.blk s) = true then max J.known (superGen (D.blk s)) else J.known := by
    unfold Jn.seeSuper
    split <;> rfl
  refine ⟨?_, fun p h1 h2 => i2 p (by omega) (by omega) h2, ?_, ?_⟩
  · refine Nat.le_trans ?_ i1
    rw [hj]
    split <;> omega
  · intro h
    refine Nat.le_trans ?_ i1
    rw [hj, if_pos h]
    omega
  · intro B h1 h2 h3
    refine i3 B ?_ (fun p _ h5 => h2 p (by omega))
    rw [hj]
    split
    · rename_i h
      have := h3 h
      omega
    · exact h1
theorem Knows.openJ {D : Dk} {B : Nat} (k : Knows D B) (t : Int) : (D.openJ t).known ≤ B := by
  obtain ⟨a1, a2, a3, a4⟩ := Jn.seeSlot_known D 0 (D.jn0 t)
  obtain ⟨b1, b2, b3, b4⟩ := Jn.seeSlot_known D 1 ((D.jn0 t).seeSlot D 0)
  exact b4 B (a4 B (Nat.zero_le B) (k.logs 0 (by omega)) (k.sups 0 (by omega))) (k.logs 1 (by omega)) (k.sups 1 (by omega))
theorem Knows.mono {D : Dk} {B C : Nat} (k : Knows D B) (h : B ≤ C) : Knows D C := ⟨fun s h1 p h2 h3 => Nat.le_trans (k.logs s h1 p h2 h3) h, fun s h1 h2 => Nat.le_trans (k.sups s h1 h2) h⟩

/-- A disk on which nothing was ever written. -/
def Fresh (D : Dk) : Prop := ∀ b, b < D.n → D.blk b = List.replicate 128 0
theorem Fresh.knows {D : Dk} (f : Fresh D) (h4 : 4 ≤ D.n) : Knows D 0 := by
  refine ⟨fun s hs p hp h => ?_, fun s hs h => ?_⟩
  · have hin := D.area_in hs (by omega)
    unfold Dk.jb at h
    rw [f _ (by omega), logOk_zero] at h
    cases h
  · rw [f _ (by omega), superOk_zero] at h
    cases h
theorem Fresh.openJ {D : Dk} (f : Fresh D) (h4 : 4 ≤ D.n) (t : Int) : D.openJ t = D.jn0 t := by
  have h1 : (D.openJ t).un = D.jn0 t := Dk.openJ_none (by rw [f _ (by omega), superOk_zero]) (by rw [f _ (by omega), superOk_zero]) t
  have h2 : (D.openJ t).known = 0 := by
    have := (f.knows h4).openJ t
    omega
  have h3 : D.openJ t = { (D.openJ t).un with known := (D.openJ t).known } := rfl
  rw [h3, h1, h2]; rfl
theorem Fresh.ents {D : Dk} (J : Jn) (f : Fresh D) (h4 : 4 ≤ D.n) (ha : J.area ≤ 1) : D.ents J D.ar 0 = [] := by
  obtain ⟨k', _, e2⟩ := ents_skip (D := D) (J := J) D.ar 0 D.ar (fun i hi _ => Dk.noB.stands (.inl (by
    have hin := D.area_in ha (by omega)
    unfold Dk.jb
    rw [f _ (by omega), logOk_zero]))) (by omega)
  rw [e2, Dk.ents_end (by omega)]

/-- The records that a disk bears. -/
structure Has (D : Dk) (area gen : Nat) (recs : List (List Nat)) : Prop where
  a : area ≤ 1
  g : gen < 18446744073709551616
  ok : ∀ r ∈ recs, r.length ≤ 20000 ∧ ∀ x ∈ r, x < 256
  fit : recsTot recs ≤ D.ar
  placed : ∀ e ∈ layR recs 0, D.placed area gen e.1 e.2
  rest : ∀ p, recsTot recs ≤ p → p < D.ar → D.noB area gen p
theorem Has.ents {D : Dk} {J : Jn} {recs : List (List Nat)} (H : Has D J.area J.gen recs) (hs : 0 ≤ J.slot) (har : D.ar ≤ 4096) : D.ents J D.ar 0 = layR recs 0 := by
  rw [ents_lay hs H.g har (fun _ => false) recs 0 D.ar H.ok (by have := H.fit; omega) (by omega) (fun e he _ => H.placed e he) (fun _ _ h => by cases h) (fun p h1 h2 => (H.rest p (by omega) h2).stands)]
  simp
theorem Has.at {D : Dk} {J : Jn} {recs : List (List Nat)} (H : Has D J.area J.gen recs) (hs : 0 ≤ J.slot) (har : D.ar ≤ 4096) {e : Nat × List Nat} (he : e ∈ layR recs 0) :
    e.1 < D.ar ∧ J.stands D e.1 = true ∧ D.parts J.area e.1 = costN e.2.length ∧ D.data J.area e.1 (costN e.2.length) = e.2 := by
  obtain ⟨b1, b2, b3⟩ := lay_bound _ _ _ he
  have hfit := H.fit
  have hp := costN_pos e.2.length
  obtain ⟨k1, k2⟩ := H.ok _ b3
  obtain ⟨s1, s2, s3⟩ := Dk.placed_stands (H.placed e he) H.g k1 k2 (by omega) har
  exact ⟨by omega, by rw [Jn.stands_iff (by omega), s1, decide_eq_true hs]; rfl, s2, s3⟩
/-- What a disk bears, it bears where the blocks of the area stay. -/
theorem Has.keep {D E : Dk} {area gen : Nat} {recs : List (List Nat)} (H : Has D area gen recs) (har : E.ar = D.ar) (h : ∀ p, p < D.ar → E.blk (2 + area * D.ar + p) = D.blk (2 + area * D.ar + p)) : Has E area gen recs := by
  refine ⟨H.a, H.g, H.ok, har ▸ H.fit, fun e he => ?_, fun p h1 h2 => ?_⟩
  · have hb := lay_bound _ _ _ he
    have := H.fit
    exact (H.placed e he).keep har (fun i hi => h _ (by omega))
  · have hr := H.rest p h1 (har ▸ h2)
    unfold Dk.noB Dk.jb at hr ⊢
    rw [har, h p (har ▸ h2)]
    exact hr

/-- An Append with power. -/
theorem Has.append {D : Dk} {J : Jn} {recs : List (List Nat)} (H : Has D J.area J.gen recs) (u : Up D) (hl : J.live D = true) (hr : J.ready = true) (hfin : J.fin = recsTot recs) {r : List Nat} (h20 : r.length ≤ 20000) (hb : ∀ x ∈ r, x < 256) (hfit : recsTot recs + costN r.length ≤ D.ar) :
    ∃ E, J.append D r = (0, E, { J with fin := J.fin + costN r.length }) ∧ Alike D E ∧ Has E J.area J.gen (recs ++ [r]) ∧ ∀ b, b < 2 → E.blk b = D.blk b := by
  obtain ⟨E, e1, e2, e3, e4⟩ := wrRec_up u (gen := J.gen) (at_ := J.fin) (r := r) H.a (by omega)
  have hp := costN_pos r.length
  have hin := D.area_in H.a (by omega)
  have htot : recsTot (recs ++ [r]) = recsTot recs + costN r.length := by rw [recsTot_append, recsTot_cons, recsTot_nil]; omega
  have hfree : J.free D = D.ar - J.fin := by unfold Jn.free; rw [hl, hr]; rfl
  refine ⟨E, ?_, e2, ⟨H.a, H.g, ?_, by rw [htot, e2.ar]; exact hfit, ?_, ?_⟩, fun b hb => e4 b (by omega) (by omega)⟩
  · unfold Jn.append
    rw [if_neg (by rw [hl]; decide), if_neg (by rw [hr]; decide), if_neg (by omega), if_neg (by omega), e1, if_pos rfl]
  · intro q hq
    rcases List.mem_append.1 hq with hq | hq
    · exact H.ok q hq
    · rw [List.mem_singleton] at hq
      subst hq
      exact ⟨h20, hb⟩
  · intro e he
    rw [layR_append, Nat.zero_add] at he
    rcases List.mem_append.1 he with he | he
    · have hbd := lay_bound _ _ _ he
      exact (H.placed e he).keep e2.ar (fun i hi => e4 _ (by omega) (by omega))
    · rw [layR, layR, List.mem_singleton] at he
      subst he
      rw [← hfin]
      exact e3
  · intro p h1 h2
    rw [htot] at h1
    rw [e2.ar] at h2
    have hrs := H.rest p (by omega) h2
    unfold Dk.noB Dk.jb at hrs ⊢
    rw [e2.ar, e4 _ (by omega) (by omega)]
    exact hrs

/-- Open after a Rewrite. -/
theorem Sup.jn {D : Dk} {slot area gen : Nat} (p : Sup D slot area gen) : D.jn.slot = slot ∧ D.jn.area = area ∧ D.jn.gen = gen ∧ D.jn.ready = false ∧ D.jn.fin = 0 ∧ D.jn.turn = D.opened.turn := by
  have p' : Sup D.opened slot area gen := ⟨p.s, p.ok, p.g, p.a, p.other⟩
  have h := p'.openJ D.opened.turn
  have h : D.jn.un = _ := h
  exact ⟨congrArg Jn.slot h, congrArg Jn.area h, congrArg Jn.gen h, congrArg Jn.ready h, congrArg Jn.fin h, congrArg Jn.turn h⟩
theorem Fresh.jn {D : Dk} (f : Fresh D) (h4 : 4 ≤ D.n) : D.jn = D.opened.jn0 D.opened.turn := by
  have f' : Fresh D.opened := f
  exact f'.openJ h4 _
theorem Fresh.entries {D : Dk} (f : Fresh D) (h4 : 4 ≤ D.n) : D.entries = [] := by
  have f' : Fresh D.opened := f
  unfold Dk.entries
  rw [f.jn h4]
  exact f'.ents _ h4 (Nat.zero_le 1)
theorem Has.entries {D : Dk} {slot area gen : Nat} {recs : List (List Nat)} (p : Sup D slot area gen) (H : Has D area gen recs) (har : D.ar ≤ 4096) : D.entries = layR recs 0 := by
  obtain ⟨q1, q2, q3, _⟩ := p.jn
  have H' : Has D.opened D.jn.area D.jn.gen recs := by rw [q2, q3]; exact ⟨H.a, H.g, H.ok, H.fit, H.placed, H.rest⟩
  exact H'.ents (by omega) har
end Go.Proofs.Ytcmfgmhadeeieaa

namespace Go.Proofs.Ytcmfgmhadeeieaa
open Go Go.Abs

theorem X14 : XX 14 = s14 := rfl
theorem X18 : XX 18 = s18 := rfl
theorem X25 : XX 25 = s25 := rfl
theorem X32 : XX 32 = s32 := rfl
theorem X33 : XX 33 = s33 := rfl
theorem r14 (h : Heap) : CD 14 [] h = some (.bool true, h) := CD_known (by rw [X14]; rfl)
theorem r18 (h : Heap) {n : Nat} (h4 : 4 ≤ n) (hn : n ≤ 4096) : CD 18 [i64n n] h = some (.tuple #[ptr (h.next + 1) 0, .int .i64 0], newDk h n) ∧ IsDk (newDk h n) (h.next + 1) (Dk.new h n) ∧ Old h (newDk h n) := by
  refine ⟨CD_known ?_, new_is h (by omega), new_kept h n _⟩
  rw [X18, s18_at (by omega), Int.toNat_natCast]
theorem r25 {h : Heap} {d : Nat} {D : Dk} (x : IsDk h d D) : ∃ a c h', CD 25 [ptr d 0] h = some (.slice a (128 * D.n) c, h') ∧ sliceBytes a (128 * D.n) h' = some D.img ∧ goodS a (128 * D.n) c = true ∧ (∀ y, a = some y → h.next ≤ y.block) ∧ Old h h' := by
  refine ⟨some ⟨h.next, 0, none⟩, 128 * D.n, _, CD_known (by rw [X25, s25_at x]; rfl), ?_, ?_, ?_, Kept.alloc _ _ _⟩
  · rw [sliceBytes_at (l := D.img) (by rw [Heap.get_alloc, if_pos rfl]) (by rw [x.len]; omega) x.byte, List.drop_zero, List.take_of_length_le (by rw [x.len]; omega)]
  · unfold goodS
    simp
  · intro y hy
    cases hy
    exact Nat.le_refl _
theorem r32 {h : Heap} {d : Nat} {D : Dk} (x : IsDk h d D) : CD 32 [ptr d 0] h = some (.tuple #[], putDk h d D.off) ∧ IsDk (putDk h d D.off) d D.off ∧ DkOnly d D.bb h (putDk h d D.off) := by
  have hk : Okd D D.off := by
    unfold Dk.off
    split
    · exact ⟨rfl, rfl, rfl, x.byte, x.after, x.keep⟩
    · exact ⟨rfl, rfl, rfl, x.byte, x.after, x.keep⟩
  refine ⟨CD_known ?_, x.put hk, putDk_only x hk.bb⟩
  rw [X32]
  unfold s32 ptr
  simp only [x.of]
theorem r33 {h : Heap} {d : Nat} {D : Dk} (x : IsDk h d D) : CD 33 [ptr d 0] h = some (.tuple #[], putDk h d D.on) ∧ IsDk (putDk h d D.on) d D.on ∧ DkOnly d D.bb h (putDk h d D.on) := by
  have hk : Okd D D.on := ⟨rfl, rfl, rfl, x.byte, x.after, x.keep⟩
  refine ⟨CD_known ?_, x.put hk, putDk_only x hk.bb⟩
  rw [X33]
  unfold s33 ptr
  simp only [x.of]
theorem RecsG.nil (h : Heap) (F : Nat → Prop) : RecsG h F (.slice none 0 0) [] := ⟨none, 0, rfl, fun i r hi => by simp at hi⟩
theorem xt20 (a b : Value) : extractA (.tuple #[a, b]) 0 = some a := rfl
theorem xt21 (a b : Value) : extractA (.tuple #[a, b]) 1 = some b := rfl
theorem sliceBytes_nil (h : Heap) : sliceBytes none 0 h = some [] := rfl

theorem JnOk.new (D : Dk) (t : Int) : JnOk (D.jn0 t) D := ⟨.inl rfl, by show (0 : Nat) ≤ 1; omega, by show (0 : Nat) < _; omega, by show (0 : Nat) < _; omega, fun h => by cases h⟩
end Go.Proofs.Ytcmfgmhadeeieaa

namespace Go.Proofs.Ytcmfgmhadeeieaa
open Go Go.Abs

/-- A list of which each member has a cell with bytes. -/
def RecsS (h : Heap) (v : Value) (vals : List (List Nat)) (sz o : Nat) : Prop :=
  ∃ a c, v = .slice a vals.length c ∧ ∀ i r, vals[i]? = some r → ∃ b f s k ai ni ci, a = some ⟨b, f, s⟩ ∧ h.get b = some k ∧ k[f + i * sz + o]? = some (.slice ai ni ci) ∧ sliceBytes ai ni h = some r
theorem RecsS.old {h h' : Heap} {v : Value} {vals : List (List Nat)} {sz o : Nat} (R : RecsS h v vals sz o) (k : Old h h') : RecsS h' v vals sz o := by
  obtain ⟨a, c, rfl, hR⟩ := R
  refine ⟨a, c, rfl, fun i r hi => ?_⟩
  obtain ⟨b, f, s, kk, ai, ni, ci, h1, h2, h3, h4⟩ := hR i r hi
  exact ⟨b, f, s, kk, ai, ni, ci, h1, Old.get k h2, h3, Old.bytes k h4⟩
theorem RecsS.at {h : Heap} {v : Value} {vals : List (List Nat)} {sz o : Nat} (R : RecsS h v vals sz o) {i : Nat} {r : List Nat} (hi : vals[i]? = some r) :
    ∃ b p ai ni ci, idxS sz v (i64n i) = some (ptr b p) ∧ (∀ h', Old h h' → ld1 (ptr b (p + o)) h' = some (.slice ai ni ci, h')) ∧ sliceBytes ai ni h = some r := by
  obtain ⟨a, c, rfl, hR⟩ := R
  obtain ⟨b, f, s, kk, ai, ni, ci, rfl, h2, h3, h4⟩ := hR i r hi
  have hl := (List.getElem?_eq_some_iff.1 hi).1
  refine ⟨b, f + i * sz, ai, ni, ci, ?_, fun h' k => ld1_at (Old.get k h2) h3 rfl, h4⟩
  unfold idxS
  simp only [i64n]
  rw [if_pos (by omega), Int.toNat_natCast]
theorem RecsS.len {h : Heap} {v : Value} {vals : List (List Nat)} {sz o : Nat} (R : RecsS h v vals sz o) : lenL v = some (i64n vals.length) := by
  obtain ⟨a, c, rfl, hR⟩ := R
  rfl
theorem RecsV.S {h : Heap} {v : Value} {vals : List (List Nat)} (R : RecsV h v vals) : RecsS h v vals 1 0 := by
  obtain ⟨a, n, c, rfl, rfl, _, hR⟩ := R
  refine ⟨a, c, rfl, fun i r hi => ?_⟩
  have hl := (List.getElem?_eq_some_iff.1 hi).1
  obtain ⟨b, off, s, k, rv, h1, h2, h3, h4, ai, ni, ci, rfl, h6, _⟩ := hR i hl
  rw [List.getD_eq_getElem?_getD, hi] at h6
  exact ⟨b, off, s, k, ai, ni, ci, h1, h2, by rw [Nat.mul_one]; exact h3, h6⟩

/-- A record, as it stands among the cells of a list. -/
def RecAt (h : Heap) (N : Nat) (cells : List Value) (i : Nat) (r : List Nat) : Prop :=
  ∃ a n c, cells[i]? = some (.slice a n c) ∧ sliceBytes a n h = some r ∧ goodS a n c = true ∧ ∀ y, a = some y → 0 < n → N ≤ y.block
def RecsAt (h : Heap) (N : Nat) (cells : List Value) (vals : List (List Nat)) : Prop := cells.length = vals.length ∧ ∀ i r, vals[i]? = some r → RecAt h N cells i r
theorem RecsAt.keep {h h' : Heap} {N : Nat} {cells : List Value} {vals : List (List Nat)} (E : RecsAt h N cells vals) {B : Nat → Prop} (k : Kept h h' B) (hB : ∀ b, B b → Plain h b) : RecsAt h' N cells vals := by
  refine ⟨E.1, fun i e he => ?_⟩
  obtain ⟨a, n, c, h2, h3, h4, h5⟩ := E.2 i e he
  exact ⟨a, n, c, h2, k.bytesP hB h3, h4, h5⟩
theorem RecsAt.nil (h : Heap) (N : Nat) : RecsAt h N [] [] := ⟨rfl, fun i e he => by simp at he⟩
theorem RecsAt.plain {h : Heap} {N : Nat} {cells : List Value} {vals : List (List Nat)} (E : RecsAt h N cells vals) : ∀ v ∈ cells, nat8 v = none := by
  intro v hv
  obtain ⟨q, hq⟩ := List.getElem?_of_mem hv
  have hl := (List.getElem?_eq_some_iff.1 hq).1
  rw [E.1] at hl
  obtain ⟨a, n, c, h2, _⟩ := E.2 q vals[q] (List.getElem?_eq_getElem hl)
  rw [hq] at h2; cases h2; rfl
theorem RecsAt.append {h : Heap} {N : Nat} {cells cells' : List Value} {vals vals' : List (List Nat)} (E : RecsAt h N cells vals) (E' : RecsAt h N cells' vals') : RecsAt h N (cells ++ cells') (vals ++ vals') := by
  refine ⟨by simp [E.1, E'.1], fun i e he => ?_⟩
  have hl := E.1
  by_cases hi : i < vals.length
  · rw [List.getElem?_append_left hi] at he
    obtain ⟨a, n, c, h2, h3⟩ := E.2 i e he
    exact ⟨a, n, c, by rw [List.getElem?_append_left (by omega)]; exact h2, h3⟩
  · rw [List.getElem?_append_right (by omega)] at he
    obtain ⟨a, n, c, h2, h3⟩ := E'.2 _ e he
    exact ⟨a, n, c, by rw [List.getElem?_append_right (by omega), hl]; exact h2, h3⟩
theorem RecsAt.one {h : Heap} {N : Nat} {l : List Nat} {a : Option Addr} {n c : Nat} (hs : sliceBytes a n h = some l) (hg : goodS a n c = true) (ha : ∀ y, a = some y → 0 < n → N ≤ y.block) : RecsAt h N [.slice a n c] [l] := by
  refine ⟨rfl, fun i e he => ?_⟩
  match i with
  | 0 => cases he; exact ⟨a, n, c, rfl, hs, hg, ha⟩
  | i + 1 => simp at he
theorem RecsAt.low {h : Heap} {N M : Nat} {cells : List Value} {vals : List (List Nat)} (E : RecsAt h N cells vals) (hM : M ≤ N) : RecsAt h M cells vals := by
  refine ⟨E.1, fun i e he => ?_⟩
  obtain ⟨a, n, c, h2, h3, h4, h5⟩ := E.2 i e he
  exact ⟨a, n, c, h2, h3, h4, fun y hy hn => Nat.le_trans hM (h5 y hy hn)⟩

/-- A list of records of one's own, as a list that is read. -/
theorem RecsAt.S {h : Heap} {N N' : Nat} {v : Value} {cells : List Value} {vals : List (List Nat)} (E : RecsAt h N' cells vals) (o : OwnC h N 1 v vals.length cells) : RecsS h v vals 1 0 := by
  obtain ⟨_, _, _, ⟨rfl, h4⟩ | ⟨b, s, rfl, h5, ⟨rfl, h4⟩ | ⟨rfl, h6⟩⟩⟩ := o
  · exact ⟨none, 0, by rw [h4], fun i r hi => by have := (List.getElem?_eq_some_iff.1 hi).1; omega⟩
  · exact ⟨_, _, rfl, fun i r hi => by have := (List.getElem?_eq_some_iff.1 hi).1; omega⟩
  · refine ⟨_, _, rfl, fun i r hi => ?_⟩
    obtain ⟨a, n, c, h2, h3, _⟩ := E.2 i r hi
    exact ⟨b, 0, _, cells, a, n, c, rfl, h6, by rw [Nat.zero_add, Nat.mul_one]; exact h2, h3⟩
theorem RecsAt.G {h : Heap} {N N' : Nat} {v : Value} {cells : List Value} {vals : List (List Nat)} (E : RecsAt h N' cells vals) (o : OwnC h N 1 v vals.length cells) {F : Nat → Prop} (hF : ∀ b, N ≤ b → ¬ F b) (hF' : ∀ b, N' ≤ b → ¬ F b) : RecsG h F v vals := by
  obtain ⟨_, _, _, ⟨rfl, h4⟩ | ⟨b, s, rfl, h5, ⟨rfl, h4⟩ | ⟨rfl, h6⟩⟩⟩ := o
  · exact ⟨none, 0, by rw [h4], fun i r hi => by have := (List.getElem?_eq_some_iff.1 hi).1; omega⟩
  · exact ⟨_, _, rfl, fun i r hi => by have := (List.getElem?_eq_some_iff.1 hi).1; omega⟩
  · refine ⟨_, _, rfl, fun i r hi => ?_⟩
    obtain ⟨a, n, c, h2, h3, h4, h5'⟩ := E.2 i r hi
    exact ⟨b, 0, _, cells, a, n, c, rfl, h6, hF b h5, by rw [Nat.zero_add]; exact h2, h3, h4, fun y hy hn => hF' _ (h5' y hy hn)⟩
/-- Entries, as a list that is read. -/
theorem EntsAt.S {h : Heap} {N N' : Nat} {v : Value} {cells : List Value} {ents : List (Nat × List Nat)} (E : EntsAt h N' cells ents) (o : OwnC h N 2 v ents.length cells) : RecsS h v (ents.map (·.2)) 2 1 := by
  obtain ⟨_, _, _, ⟨rfl, h4⟩ | ⟨b, s, rfl, h5, ⟨rfl, h4⟩ | ⟨rfl, h6⟩⟩⟩ := o
  · exact ⟨none, 0, by rw [List.length_map, h4], fun i r hi => by have := (List.getElem?_eq_some_iff.1 hi).1; rw [List.length_map] at this; omega⟩
  · exact ⟨_, _, by rw [List.length_map], fun i r hi => by have := (List.getElem?_eq_some_iff.1 hi).1; rw [List.length_map] at this; omega⟩
  · refine ⟨_, _, by rw [List.length_map], fun i r hi => ?_⟩
    rw [List.getElem?_map, Option.map_eq_some_iff] at hi
    obtain ⟨e, he, rfl⟩ := hi
    obtain ⟨_, a, n, c, h2, h3, _⟩ := E.2 i e he
    exact ⟨b, 0, _, cells, a, n, c, rfl, h6, by rw [Nat.zero_add, Nat.mul_comm]; exact h2, h3⟩

section
variable {h0 : Heap} {v : Value} {vals : List (List Nat)}
end

section
variable {h0 : Heap} {v w : Value} {la lb : List (List Nat)}
end
end Go.Proofs.Ytcmfgmhadeeieaa

namespace Go.Proofs.Ytcmfgmhadeeieaa
open Go Go.Abs

/-- Rot. -/
def Dk.rot (D : Dk) (i at_ : Int) (m : Nat) : Int × Dk :=
  if i < 0 ∨ (D.n : Int) ≤ i ∨ at_ < 0 ∨ 128 ≤ at_ then (2, D) else (0, { D with img := D.img.set (i.toNat * 128 + at_.toNat) (D.img.getD (i.toNat * 128 + at_.toNat) 0 ^^^ m) })
theorem is31 : IsFn Try.prog 31 Try.f31 := ⟨by kernel_rfl, by kernel_rfl, by kernel_rfl, by kernel_rfl⟩
theorem r31 {h : Heap} {d : Nat} {D : Dk} (x : IsDk h d D) (i at_ : Int) {m : Nat} (hm : m < 256) :
    ∃ h', CD 31 [ptr d 0, .int .i64 i, .int .i64 at_, u8 m] h = some (.int .i64 (D.rot i at_ m).1, h') ∧ IsDk h' d (D.rot i at_ m).2 ∧ DkOnly d D.bb h h' := by
  have hl : lenL (.slice (some ⟨D.bb, 0, none⟩) D.n D.n) = some (i64n D.n) := rfl
  have key : ∃ h', t31 CD (ptr d 0) (.int .i64 i) (.int .i64 at_) (u8 m) h = some (.int .i64 (D.rot i at_ m).1, h') ∧ IsDk h' d (D.rot i at_ m).2 ∧ DkOnly d D.bb h h' := by
    unfold t31
    simp -implicitDefEqProofs only [thenV_some, nil27e, pu_some, bin_lss, bOf_bool]
    by_cases hbad : i < 0 ∨ (D.n : Int) ≤ i ∨ at_ < 0 ∨ 128 ≤ at_
    · have hrot : D.rot i at_ m = (2, D) := by unfold Dk.rot; rw [if_pos hbad]
      rw [hrot]
      refine ⟨h, ?_, x, Kept.refl _ _⟩
      by_cases h1 : i < 0
      · simp -implicitDefEqProofs only [decide_eq_true h1, sf, guardK_false, thenV_some, if_true, bOf_bool]
      have h1' : decide (i < 0) = false := decide_eq_false h1
      simp -implicitDefEqProofs only [h1', beq_self_eq_true, guardK_true, thenV_some, nilCheck_ptr, pu_some, addP_ptr, Nat.zero_add, x.l0, hl, bin_geq, Bool.false_eq_true, if_false, bOf_bool]
      by_cases h2 : (i : Int) ≥ (D.n : Int)
      · simp -implicitDefEqProofs only [decide_eq_true h2, sf, guardK_false, thenV_some, if_true, bOf_bool]
      have h2' : decide ((i : Int) ≥ (D.n : Int)) = false := decide_eq_false h2
      simp -implicitDefEqProofs only [h2', beq_self_eq_true, guardK_true, thenV_some, pu_some, bin_lss, Bool.false_eq_true, if_false, bOf_bool]
      by_cases h3 : at_ < 0
      · simp -implicitDefEqProofs only [decide_eq_true h3, sf, guardK_false, thenV_some, if_true, bOf_bool]
      have h4 : at_ ≥ 128 := by omega
      simp -implicitDefEqProofs only [decide_eq_false h3, beq_self_eq_true, guardK_true, thenV_some, pu_some, bin_geq, Bool.false_eq_true, if_false, bOf_bool, decide_eq_true h4]
    · obtain ⟨q, rfl⟩ : ∃ q : Nat, i = q := ⟨i.toNat, by omega⟩
      obtain ⟨p, rfl⟩ : ∃ p : Nat, at_ = p := ⟨at_.toNat, by omega⟩
      have hrot : D.rot (q : Int) (p : Int) m = (0, { D with img := D.img.set (q * 128 + p) (D.img.getD (q * 128 + p) 0 ^^^ m) }) := by unfold Dk.rot; rw [if_neg hbad]; rfl
      rw [hrot]
      have g1 : decide ((q : Int) < 0) = false := decide_eq_false (by omega)
      have g2 : decide ((q : Int) ≥ (D.n : Int)) = false := decide_eq_false (by omega)
      have g3 : decide ((p : Int) < 0) = false := decide_eq_false (by omega)
      have g4 : decide ((p : Int) ≥ 128) = false := decide_eq_false (by omega)
      have hlen := x.len
      have hq : q < D.n := by omega
      have hp : p < 128 := by omega
      have hin : q * 128 + p < D.img.length := by omega
      have hix : idxS 128 (.slice (some ⟨D.bb, 0, none⟩) D.n D.n) (.int .i64 (q : Int)) = some (ptr D.bb (q * 128)) := by
        unfold idxS
        simp only
        rw [if_pos (by omega), Int.toNat_natCast, Nat.zero_add]
      have hia : idxA 128 1 (ptr D.bb (q * 128)) (.int .i64 (p : Int)) = some (ptr D.bb (q * 128 + p)) := by
        unfold idxA
        simp only [ptr, addP_ptr]
        rw [if_pos (by omega), Int.toNat_natCast, Nat.mul_one]
        rfl
      have hv : D.img.getD (q * 128 + p) 0 < 256 := by
        rw [List.getD_eq_getElem?_getD, List.getElem?_eq_getElem hin]
        exact x.byte _ (List.getElem_mem hin)
      have hld : ld1 (ptr D.bb (q * 128 + p)) h = some (u8 (D.img.getD (q * 128 + p) 0), h) := ld1_at x.img (by rw [List.getElem?_map, List.getElem?_eq_getElem hin, List.getD_eq_getElem?_getD, List.getElem?_eq_getElem hin]; rfl)
      have hx := bin_xor_nat Try.prog 5 (k := .u8) rfl (a := D.img.getD (q * 128 + p) 0) (b := m) hv hm
      have hx2 : D.img.getD (q * 128 + p) 0 ^^^ m < 256 := Nat.xor_lt_two_pow (n := 8) hv hm
      have hst := stN1_at (v := u8 (D.img.getD (q * 128 + p) 0 ^^^ m)) x.img (show q * 128 + p < (D.img.map u8).length by rw [List.length_map]; exact hin) x.bn rfl rfl
      simp -implicitDefEqProofs only [g1, g2, g3, g4, beq_self_eq_true, guardK_true, thenV_some, nilCheck_ptr, pu_some, addP_ptr, Nat.zero_add, x.l0, hl, bin_geq, bin_lss, Bool.false_eq_true, if_false, bOf_bool, hix, hia, hld, hx, hst]
      have hne := x.ne
      refine ⟨_, rfl, ?_, ?_⟩
      · refine ⟨?_, ?_, by show (D.img.set _ _).length = _; rw [List.length_set]; exact hlen, ?_, x.dn, x.bn, x.ne, x.small, x.after, x.keep⟩
        · exact (Heap.get_set_other x.bn x.blt _ hne).trans x.hdr
        · rw [Heap.get_set_same x.bn x.img]
          show some ((D.img.map u8).set _ _) = some ((D.img.set _ _).map u8)
          rw [List.map_set]
        · intro y hy
          rcases List.mem_or_eq_of_mem_set hy with hy | rfl
          · exact x.byte y hy
          · exact hx2
      · exact (Kept.set (B := fun c => c = D.bb) x.bn x.img (.inr rfl)).mono (fun c _ hc => .inr hc)
  obtain ⟨h', e, f⟩ := key
  exact ⟨h', CD_body is31 rfl ((t31_eq _ _ _ _ _ _).trans e), f⟩
end Go.Proofs.Ytcmfgmhadeeieaa

namespace Go.Proofs.Ytcmfgmhadeeieaa
open Go Go.Abs

theorem right_logOk {at_ : Nat} {b : List Nat} (h : right b = false) : logOk at_ b = false := by unfold logOk; rw [h]; rfl

/-- A block of a record is no more right. -/
theorem hides {D : Dk} {area gen at_ : Nat} {r : List Nat} (hg : gen < 18446744073709551616) (hr : r.length ≤ 20000) (hb : ∀ x ∈ r, x < 256) (hfit : at_ + costN r.length ≤ D.ar) (har : D.ar ≤ 4096) {i : Nat} (hi : i < costN r.length) (hbad : right (D.jb area (at_ + i)) = false)
    (hrest : ∀ j, j < costN r.length → j ≠ i → D.jb area (at_ + j) = logBlk gen (at_ + j) j (costN r.length) (chunk r j)) : ∀ j, j < costN r.length → D.stands area gen (at_ + j) = false := by
  intro j hj
  have hc := costN_le (n := r.length) (by omega)
  by_cases hji : j = i
  · subst hji
    exact Dk.noB.stands (.inl (right_logOk hbad))
  by_cases hj0 : j = 0
  · subst hj0
    rw [Nat.add_zero]
    have h0 := hrest 0 hj hji
    rw [Nat.add_zero] at h0
    have hp : D.parts area at_ = costN r.length := by
      unfold Dk.parts
      rw [h0, logParts_log (by omega)]
    refine Dk.not_stands (i := i) (by rw [hp]; exact hi) ?_
    unfold Dk.part
    rw [right_logOk hbad]; rfl
  · refine Dk.noB.stands (.inr (.inr ?_))
    rw [hrest j hj hji, logPart_log (by omega)]
    exact hj0

end Go.Proofs.Ytcmfgmhadeeieaa

namespace Go.Proofs.Ytcmfgmhadeeieaa
open Go Go.Abs

theorem BytesV.old {h h' : Heap} {v : Value} {l : List Nat} (x : BytesV h v l) (k : Old h h') : BytesV h' v l := by
  obtain ⟨a, n, c, rfl, h1, h2⟩ := x
  exact ⟨a, n, c, rfl, Old.bytes k h1, h2⟩
theorem RecsV.old {h h' : Heap} {v : Value} {vals : List (List Nat)} (x : RecsV h v vals) (k : Old h h') : RecsV h' v vals := by
  obtain ⟨a, n, c, rfl, h1, h2, h3⟩ := x
  refine ⟨a, n, c, rfl, h1, h2, fun i hi => ?_⟩
  obtain ⟨b, off, s, kk, rv, e1, e2, e3, e4, e5⟩ := h3 i hi
  exact ⟨b, off, s, kk, rv, e1, Old.get k e2, e3, e4, e5.old k⟩
theorem RecsV.byte {h : Heap} {v : Value} {vals : List (List Nat)} (x : RecsV h v vals) : ∀ r ∈ vals, ∀ y ∈ r, y < 256 := by
  intro r hr
  obtain ⟨i, hi⟩ := List.getElem?_of_mem hr
  obtain ⟨a, n, c, rfl, h1, h2, h3⟩ := x
  obtain ⟨b, off, s, kk, rv, e1, e2, e3, e4, a', n', c', _, e5, _⟩ := h3 i (by have := (List.getElem?_eq_some_iff.1 hi).1; omega)
  rw [List.getD_eq_getElem?_getD, hi] at e5
  exact (sliceBytes_spec e5).2.1

/-- A list of records as an argument. -/
def RecsI (h : Heap) (v : Value) (vals : List (List Nat)) : Prop := RecsV h v vals ∧ ∃ a n c, v = .slice a n c ∧ n ≤ c ∧ ∀ y, a = some y → 0 < n → y.spot = none
theorem RecsI.old {h h' : Heap} {v : Value} {vals : List (List Nat)} (x : RecsI h v vals) (k : Old h h') : RecsI h' v vals := ⟨x.1.old k, x.2⟩
theorem RecsI.S {h : Heap} {v : Value} {vals : List (List Nat)} (x : RecsI h v vals) : RecsS h v vals 1 0 := x.1.S
theorem RecsI.to {h : Heap} {v : Value} {vals : List (List Nat)} (x : RecsI h v vals) (h0 : 0 < vals.length) {k : Nat} (hk : k ≤ vals.length) : ∃ v', slR 1 v none (some (i64n k)) none = some v' ∧ RecsS h v' (vals.take k) 1 0 := by
  obtain ⟨hV, a, n, c, rfl, hnc, hsp⟩ := x
  obtain ⟨a', c', e, hS⟩ := hV.S
  cases e
  obtain ⟨b, f, s, kk, ai, ni, ci, rfl, _⟩ := hS 0 _ (List.getElem?_eq_getElem h0)
  have : s = none := hsp _ rfl h0
  subst this
  have hb : boundsA vals.length c none (some (i64n k)) none = some (0, k, c) := by
    unfold boundsA
    simp only [boundA, i64n]
    rw [if_pos (by omega), Int.toNat_natCast]
  refine ⟨.slice (some ⟨b, if c = 0 then f else f + 0 * 1, none⟩) (k - 0) (c - 0), ?_, ?_⟩
  · unfold slR sliceSl
    simp only [hb]
  · refine ⟨_, _, by rw [List.length_take, Nat.min_eq_left hk, Nat.sub_zero], fun i r hi => ?_⟩
    rw [List.getElem?_take] at hi
    split at hi
    · obtain ⟨b', f', s', k2, ai', ni', ci', e, r1, r2, r3⟩ := hS i r hi
      cases e
      exact ⟨b, _, none, k2, ai', ni', ci', rfl, r1, by rw [show (if c = 0 then f else f + 0 * 1) = f by split <;> omega]; exact r2, r3⟩
    · cases hi
theorem RecsI.from {h : Heap} {v : Value} {vals : List (List Nat)} (x : RecsI h v vals) (h0 : 0 < vals.length) {k : Nat} (hk : k ≤ vals.length) : ∃ v', slR 1 v (some (i64n k)) none none = some v' ∧ RecsS h v' (vals.drop k) 1 0 := by
  obtain ⟨hV, a, n, c, rfl, hnc, hsp⟩ := x
  obtain ⟨a', c', e, hS⟩ := hV.S
  cases e
  obtain ⟨b, f, s, kk, ai, ni, ci, rfl, _⟩ := hS 0 _ (List.getElem?_eq_getElem h0)
  have : s = none := hsp _ rfl h0
  subst this
  have hb : boundsA vals.length c (some (i64n k)) none none = some (k, vals.length, c) := by
    unfold boundsA
    simp only [boundA, i64n]
    rw [if_pos (by omega), Int.toNat_natCast]
  refine ⟨.slice (some ⟨b, if c = k then f else f + k * 1, none⟩) (vals.length - k) (c - k), ?_, ?_⟩
  · unfold slR sliceSl
    simp only [hb]
  · refine ⟨_, _, by rw [List.length_drop], fun i r hi => ?_⟩
    rw [List.getElem?_drop] at hi
    have hl := (List.getElem?_eq_some_iff.1 hi).1
    obtain ⟨b', f', s', k2, ai', ni', ci', e, r1, r2, r3⟩ := hS _ r hi
    cases e
    refine ⟨b, _, none, k2, ai', ni', ci', rfl, r1, ?_, r3⟩
    rw [if_neg (by omega), show f + k * 1 + i * 1 + 0 = f + (k + i) * 1 + 0 by omega]
    exact r2

theorem X17 : XX 17 = s17 := rfl
/-- A cell of a list of one's own. -/
theorem OwnC.at {h : Heap} {N size len : Nat} {v : Value} {cells : List Value} (o : OwnC h N size v len cells) {i : Nat} (hi : i < len) : ∃ b, idxS size v (i64n i) = some (ptr b (i * size)) ∧ h.get b = some cells ∧ lenL v = some (i64n len) ∧ N ≤ b := by
  obtain ⟨_, _, _, ⟨rfl, h4⟩ | ⟨b, s, rfl, h5, ⟨rfl, h4⟩ | ⟨rfl, h6⟩⟩⟩ := o
  · omega
  · omega
  · refine ⟨b, ?_, h6, rfl, h5⟩
    unfold idxS
    simp only [i64n]
    rw [if_pos (by omega), Int.toNat_natCast, Nat.zero_add]
theorem OwnC.len {h : Heap} {N size len : Nat} {v : Value} {cells : List Value} (o : OwnC h N size v len cells) : lenL v = some (i64n len) := by
  obtain ⟨_, _, _, ⟨rfl, h4⟩ | ⟨b, s, rfl, h5, _⟩⟩ := o
  · rw [h4]; rfl
  · rfl
theorem OwnC.first {h : Heap} {N len : Nat} {v : Value} {cells : List Value} (o : OwnC h N 1 v len cells) : lenA v = some len ∧ firstA 1 len v h = some cells := by
  obtain ⟨h1, h2, _, ⟨rfl, h4⟩ | ⟨b, s, rfl, h5, ⟨rfl, h4⟩ | ⟨rfl, h6⟩⟩⟩ := o
  · subst h4
    have : cells = [] := List.length_eq_zero_iff.1 (by omega)
    subst this
    exact ⟨rfl, rfl⟩
  · subst h4
    have : cells = [] := List.length_eq_zero_iff.1 (by omega)
    subst this
    exact ⟨rfl, rfl⟩
  · refine ⟨rfl, ?_⟩
    simp only [firstA, h6]
    by_cases h0 : len = 0
    · subst h0
      have : cells = [] := List.length_eq_zero_iff.1 (by omega)
      subst this
      rfl
    · rw [if_neg (by omega), List.drop_zero, List.take_of_length_le (by omega), if_pos ⟨by omega, h2⟩]
end Go.Proofs.Ytcmfgmhadeeieaa

namespace Go.Proofs.Ytcmfgmhadeeieaa
open Go Go.Abs

/-- A disk of the reference. -/
structure Rf where
  img : List Nat
  down : Bool
  armed : Bool
  after : Int
  keep : Int
  turn : Int
def Rf.cells (S : Rf) (s : Value) : Blk := [s, .bool S.down, .bool S.armed, .int .i64 S.after, .int .i64 S.keep, .int .i64 S.turn]
/-- A value that is a disk of the reference, its bytes apart from some blocks. -/
def IsRf (h : Heap) (F : Nat → Prop) (v : Value) (S : Rf) : Prop :=
  ∃ a c, v = .agg (S.cells (.slice a S.img.length c)).toArray ∧ sliceBytes a S.img.length h = some S.img ∧ goodS a S.img.length c = true ∧ ∀ y, a = some y → 0 < S.img.length → ¬ F y.block
theorem IsRf.keep {h h' : Heap} {F B : Nat → Prop} {v : Value} {S : Rf} (x : IsRf h F v S) (k : Kept h h' B) (hB : ∀ b, b < h.next → B b → F b) : IsRf h' F v S := by
  obtain ⟨a, c, rfl, h1, h2, h3⟩ := x
  refine ⟨a, c, rfl, k.bytes h1 (fun y hy hn hb => ?_), h2, h3⟩
  subst hy
  obtain ⟨b, off, s, e, hlt⟩ := sliceBytes_lt h1 hn
  cases e
  exact h3 _ rfl hn (hB _ hlt hb)
theorem IsRf.old {h h' : Heap} {F : Nat → Prop} {v : Value} {S : Rf} (x : IsRf h F v S) (k : Old h h') : IsRf h' F v S := x.keep k (fun _ _ h => h.elim)
theorem IsRf.mono {h : Heap} {F G : Nat → Prop} {v : Value} {S : Rf} (x : IsRf h F v S) (hG : ∀ b, G b → F b) : IsRf h G v S := by
  obtain ⟨a, c, rfl, h1, h2, h3⟩ := x
  exact ⟨a, c, rfl, h1, h2, fun y hy hn hg => h3 y hy hn (hG _ hg)⟩
def zero6 : Blk := [(.slice none 0 0), (.bool false), (.bool false), (.int .i64 0), (.int .i64 0), (.int .i64 0)]
theorem ld63 (v : Value) (h : Heap) : ld Try.prog 63 v h = ldN 6 v h := by
  unfold ld
  rw [show aggT Try.prog 63 = some true by kernel_rfl, show sizeT Try.prog 63 = some 6 by kernel_rfl]
theorem res_rf1 {rs : List ResultVar} {n k : Nat} (hr : rs = [.cell k 63]) (hk : k < n) (x : Nat → Value) {h : Heap} {v : Value} (e : ldN 6 (x k) h = some (v, h)) : resultsA Try.prog rs (mkF n x) h = some (v, h) := by
  subst hr
  have hx : (mkF n x).getD k undef = x k := by
    unfold mkF
    simp [hk]
  simp only [resultsA, resultA, hx, ld63, e]
  rfl
theorem res_rf2 {rs : List ResultVar} {n k t : Nat} (hr : rs = [.cell k 63, .tmp t]) (hk : k < n) (ht : t < n) (x : Nat → Value) {h : Heap} {v : Value} (e : ldN 6 (x k) h = some (v, h)) : resultsA Try.prog rs (mkF n x) h = some (.tuple #[v, x t], h) := by
  subst hr
  have hx : (mkF n x).getD k undef = x k := by
    unfold mkF
    simp [hk]
  have hy : (mkF n x).getD t undef = x t := by
    unfold mkF
    simp [ht]
  simp only [resultsA, List.mapM_cons, List.mapM_nil, resultA, hx, hy, ld63, e]
  rfl
theorem cells_one (S : Rf) (a : Option Addr) (n c : Nat) : oneCells (S.cells (.slice a n c)) = true := rfl
theorem cells_hole (S : Rf) (a : Option Addr) (n c : Nat) : Abs.noHoles (S.cells (.slice a n c)) = true := rfl

/-- What a function with such an argument and such a result begins with. -/
theorem rf_begin {h : Heap} {F : Nat → Prop} {v : Value} {S : Rf} (x : IsRf h F v S) : ∃ a c g, v = .agg (S.cells (.slice a S.img.length c)).toArray ∧ box v h = some (ptr h.next 0, g) ∧ g.get h.next = some (S.cells (.slice a S.img.length c)) ∧ Old h g ∧ g.next = h.next + 1 ∧
    newC zero6 g = some (ptr (h.next + 1) 0, g.alloc zero6) ∧ (g.alloc zero6).get (h.next + 1) = some zero6 ∧ Old h (g.alloc zero6) ∧ (g.alloc zero6).get h.next = some (S.cells (.slice a S.img.length c)) ∧ (g.alloc zero6).next = h.next + 2 ∧
    sliceBytes a S.img.length h = some S.img ∧ goodS a S.img.length c = true ∧ ∀ y, a = some y → 0 < S.img.length → ¬ F y.block := by
  obtain ⟨a, c, rfl, h1, h2, h3⟩ := x
  have o1 : Old h (h.alloc (S.cells (.slice a S.img.length c))) := Kept.alloc _ _ _
  have g1 : (h.alloc (S.cells (.slice a S.img.length c))).get h.next = some (S.cells (.slice a S.img.length c)) := by rw [Heap.get_alloc, if_pos rfl]
  refine ⟨a, c, h.alloc (S.cells (.slice a S.img.length c)), rfl, rfl, g1, o1, Heap.next_alloc .., rfl, ?_, o1.trans (Kept.alloc _ _ _), Heap.get_alloc_some g1 _, rfl, h1, h2, h3⟩
  rw [Heap.get_alloc, if_pos (by rw [Heap.next_alloc])]
/-- The whole struct, loaded and stored. -/
theorem rf_ld {h : Heap} {b : Nat} {k : Blk} (hk : h.get b = some k) (hl : k.length = 6) (hh : Abs.noHoles k = true) : ldN 6 (ptr b 0) h = some (.agg k.toArray, h) := ldN_whole hk hl hh
theorem rf_st {h : Heap} {b : Nat} {k k' : Blk} (hk : h.get b = some k) (h0 : h.n0 ≤ b) (hl : k.length = 6) (hl' : k'.length = 6) (ho : oneCells k' = true) : stN 6 (ptr b 0) (.agg k'.toArray) h = some (undef, h.set b k') := stN_whole hk h0 hl hl' ho

theorem is51 : IsFn Try.prog 51 Try.f51 := ⟨by kernel_rfl, by kernel_rfl, by kernel_rfl, by kernel_rfl⟩
theorem quo128 (n : Nat) (h : n ≤ 100000000) : bin Try.prog .quo 3 (i64n n) (.int .i64 128) = some (i64n (n / 128)) := by
  rw [bin_quo _ _ _ _ _ (by decide)]
  have : ((n : Nat) : Int).tdiv 128 = ((n / 128 : Nat) : Int) := by rw [Int.tdiv_eq_ediv_of_nonneg (by omega)]; rfl
  rw [this, wrap_i64 (by omega) (by omega)]
/-- Blocks. -/
theorem r51 {h : Heap} {F : Nat → Prop} {v : Value} {S : Rf} (x : IsRf h F v S) (hl : S.img.length ≤ 1000000) : ∃ h', CD 51 [v] h = some (i64n (S.img.length / 128), h') ∧ Old h h' := by
  obtain ⟨a, c, g, rfl, b1, b2, b3, _⟩ := rf_begin x
  refine ⟨g, CD_body is51 rfl ((t51_eq _ _ _).trans ?_), b3⟩
  have l0 : ld1 (ptr h.next 0) g = some (.slice a S.img.length c, g) := ld1_at b2 rfl
  have hll : lenL (.slice a S.img.length c) = some (i64n S.img.length) := rfl
  unfold t51
  simp -implicitDefEqProofs only [b1, thenV_some, addP_ptr, Nat.add_zero, pu_some, l0, hll, quo128 _ (show S.img.length ≤ 100000000 by omega)]

theorem is104 : IsFn Try.prog 104 Try.f104 := ⟨by kernel_rfl, by kernel_rfl, by kernel_rfl, by kernel_rfl⟩
/-- Block. -/
theorem r104 {h : Heap} {F : Nat → Prop} {v : Value} {S : Rf} (x : IsRf h F v S) (hl : S.img.length ≤ 1000000) {i : Nat} (hi : 128 * i + 128 ≤ S.img.length) :
    ∃ v' h', CD 104 [v, i64n i] h = some (v', h') ∧ OwnB h' h.next v' ((S.img.drop (128 * i)).take 128) ∧ Old h h' := by
  obtain ⟨a, c, g, rfl, b1, b2, b3, b4, _, _, _, _, _, s1, s2, _⟩ := rf_begin x
  have oA : Old g (g.alloc []) := Kept.alloc _ _ _
  have nA : (g.alloc []).next = g.next + 1 := Heap.next_alloc ..
  have hbs : bslR 1 (.int .u8 0) 0 [] g = some (.slice (some ⟨g.next, 0, none⟩) 0 0, g.alloc []) := rfl
  have l0 : ld1 (ptr h.next 0) (g.alloc []) = some (.slice a S.img.length c, g.alloc []) := ld1_at (Heap.get_alloc_some b2 _) rfl
  have own0 : OwnB (g.alloc []) h.next (.slice (some ⟨g.next, 0, none⟩) 0 0) [] := ⟨OwnC.empty _ (by omega), by simp⟩
  have sA := Old.bytes (b3.trans oA) s1
  obtain ⟨a', c', e1, e2, e3⟩ := slR_bytes (lo := 128 * i) (hi := 128 * i + 128) (vl := some (i64n (128 * i))) (vh := some (i64n (128 * i + 128))) s2 sA (by omega) hi (by
      have := goodS_le s2
      unfold boundA
      simp only [i64n]
      rw [if_pos (by omega), Int.toNat_natCast]) (by
      unfold boundA
      simp only [i64n]
      rw [if_pos (by omega), Int.toNat_natCast])
  rw [Nat.add_sub_cancel_left] at e1 e2 e3
  obtain ⟨v', g2, f1, f2, f3, _⟩ := append_ownB own0 (by rw [oA.n0, b3.n0]; exact h.n0_le_next) (by omega) e2 (c := c') (by simp)
  rw [List.nil_append] at f2
  refine ⟨v', g2, CD_body is104 rfl ((t104_eq _ _ _ _).trans ?_), f2, (b3.trans oA).also f3 (fun d hd hb => ?_)⟩
  · unfold t104
    simp -implicitDefEqProofs only [b1, thenV_some, hbs, addP_ptr, Nat.add_zero, pu_some, l0, mul3 (a := 128) (show 128 * i ≤ 9223372036854775807 by omega), show bin Try.prog .mul 3 (.int .i64 128) (i64n i) = some (i64n (128 * i)) from mul3 (a := 128) (by omega), show bin Try.prog .add 3 (i64n (128 * i)) (.int .i64 128) = some (i64n (128 * i + 128)) from add3 (b := 128) (by omega), e1, f1]
  · have : baseOf (.slice (some ⟨g.next, 0, none⟩) 0 0) = some g.next := rfl
    rw [this] at hb
    cases hb
    omega

theorem is35 : IsFn Try.prog 35 Try.f35 := ⟨by kernel_rfl, by kernel_rfl, by kernel_rfl, by kernel_rfl⟩
def Rf.new (n : Nat) : Rf := ⟨List.replicate (128 * n) 0, false, false, 0, 0, 0⟩
/-- New. -/
theorem r35 (h : Heap) {n : Nat} (h4 : 4 ≤ n) (hn : n ≤ 4096) : ∃ v h', CD 35 [i64n n] h = some (.tuple #[v, .int .i64 0], h') ∧ IsRf h' (fun c => c < h.next) v (Rf.new n) ∧ Old h h' := by
  have o1 : Old h (h.alloc zero6) := Kept.alloc _ _ _
  have g1 : (h.alloc zero6).get h.next = some zero6 := by rw [Heap.get_alloc, if_pos rfl]
  have hnew : newC zero6 h = some (ptr h.next 0, h.alloc zero6) := rfl
  have n1 : (h.alloc zero6).next = h.next + 1 := Heap.next_alloc ..
  have n01 : (h.alloc zero6).n0 ≤ h.next := h.n0_le_next
  generalize h.alloc zero6 = g at *
  have hmk : mkR 1 1 (.int .u8 0) (i64n (128 * n)) (i64n (128 * n)) g = some (newSlice g (128 * n), g.alloc ((List.replicate (128 * n) 0).map u8)) := mk1 (Nat.le_refl _) (by omega)
  have g2 : (g.alloc ((List.replicate (128 * n) 0).map u8)).get h.next = some zero6 := Heap.get_alloc_some g1 _
  have gi : (g.alloc ((List.replicate (128 * n) 0).map u8)).get g.next = some ((List.replicate (128 * n) 0).map u8) := by rw [Heap.get_alloc, if_pos rfl]
  have o2 : Old h (g.alloc ((List.replicate (128 * n) 0).map u8)) := o1.trans (Kept.alloc _ _ _)
  have n02 : (g.alloc ((List.replicate (128 * n) 0).map u8)).n0 ≤ h.next := n01
  have hbl : bldR [(.slice none 0 0), (.bool false), (.bool false), (.int .i64 0), (.int .i64 0), (.int .i64 0)] [(0, 1, newSlice g (128 * n))] = some (.agg ((Rf.new n).cells (newSlice g (128 * n))).toArray) := rfl
  generalize g.alloc ((List.replicate (128 * n) 0).map u8) = q at *
  have hst := rf_st (k' := (Rf.new n).cells (newSlice g (128 * n))) g2 n02 rfl rfl rfl
  have g3 : (q.set h.next ((Rf.new n).cells (newSlice g (128 * n)))).get h.next = some ((Rf.new n).cells (newSlice g (128 * n))) := Heap.get_set_same n02 g2 _
  have gi3 : (q.set h.next ((Rf.new n).cells (newSlice g (128 * n)))).get g.next = some ((List.replicate (128 * n) 0).map u8) := (Heap.get_set_other n02 (q.lt_of_get g2) _ (by omega)).trans gi
  have o3 : Old h (q.set h.next ((Rf.new n).cells (newSlice g (128 * n)))) := o2.also (Kept.set (B := fun c => c = h.next) n02 g2 (.inr rfl)) (fun c hc e => by omega)
  have hld := rf_ld g3 rfl rfl
  have e1 : ¬ ((n : Int) < 4) := by omega
  have e2 : ¬ ((n : Int) > 4096) := by omega
  refine ⟨.agg ((Rf.new n).cells (newSlice g (128 * n))).toArray, q.set h.next ((Rf.new n).cells (newSlice g (128 * n))), CD_body is35 rfl ((t35_eq _ _ _).trans ?_), ⟨some ⟨g.next, 0, none⟩, 128 * n, ?_, ?_, ?_, ?_⟩, o3⟩
  · unfold t35
    have hnew' : newC [(.slice none 0 0), (.bool false), (.bool false), (.int .i64 0), (.int .i64 0), (.int .i64 0)] h = some (ptr h.next 0, g) := hnew
    simp -implicitDefEqProofs only [hnew', thenV_some, bin_lss, pu_some, e1, decide_false, bOf_bool, beq_self_eq_true, guardK_true, bin_gtr, e2, Bool.false_eq_true, if_false, show bin Try.prog .mul 3 (.int .i64 128) (i64n n) = some (i64n (128 * n)) from mul3 (a := 128) (by omega), hmk, hbl, hst]
    exact res_rf2 (rs := Try.f35.results.toList) (n := 15) (k := 2) (t := 3) (by kernel_rfl) (by decide) (by decide) _ hld
  · rw [show (Rf.new n).img.length = 128 * n by simp [Rf.new]] <;> rfl
  · rw [show (Rf.new n).img.length = 128 * n by simp [Rf.new]]
    rw [sliceBytes_at (l := List.replicate (128 * n) 0) gi3 (by simp) (by intro y hy; rw [List.eq_of_mem_replicate hy]; decide), List.drop_zero, List.take_of_length_le (by simp)]
    rfl
  · unfold goodS
    simp [Rf.new]
  · intro y hy _ hlt
    cases hy
    have : g.next < h.next := hlt
    omega
theorem r35_bad (h : Heap) {n : Int} (hn : ¬ (4 ≤ n ∧ n ≤ 4096)) : ∃ h', CD 35 [.int .i64 n] h = some (.tuple #[.agg zero6.toArray, .int .i64 2], h') ∧ Old h h' := by
  have g1 : (h.alloc zero6).get h.next = some zero6 := by rw [Heap.get_alloc, if_pos rfl]
  have hnew : newC [(.slice none 0 0), (.bool false), (.bool false), (.int .i64 0), (.int .i64 0), (.int .i64 0)] h = some (ptr h.next 0, h.alloc zero6) := rfl
  have n01 : (h.alloc zero6).n0 ≤ h.next := h.n0_le_next
  have hbl : bldR [(.slice none 0 0), (.bool false), (.bool false), (.int .i64 0), (.int .i64 0), (.int .i64 0)] [] = some (.agg zero6.toArray) := rfl
  have hst := rf_st (k' := zero6) g1 n01 rfl rfl rfl
  have g3 : ((h.alloc zero6).set h.next zero6).get h.next = some zero6 := Heap.get_set_same n01 g1 _
  have o3 : Old h ((h.alloc zero6).set h.next zero6) := (Kept.alloc h zero6 (fun _ => False)).also (Kept.set (B := fun c => c = h.next) n01 g1 (.inr rfl)) (fun c hc e => by omega)
  have hld := rf_ld g3 rfl rfl
  refine ⟨(h.alloc zero6).set h.next zero6, CD_body is35 rfl ((t35_eq _ _ _).trans ?_), o3⟩
  unfold t35
  simp -implicitDefEqProofs only [hnew, thenV_some, bin_lss, pu_some, bOf_bool]
  by_cases h1 : n < 4
  · simp -implicitDefEqProofs only [decide_eq_true h1, sf, guardK_false, thenV_some, if_true, hbl, pu_some, hst]
    exact res_rf2 (rs := Try.f35.results.toList) (n := 15) (k := 2) (t := 3) (by kernel_rfl) (by decide) (by decide) _ hld
  · have h2 : n > 4096 := by omega
    simp -implicitDefEqProofs only [decide_eq_false h1, beq_self_eq_true, guardK_true, thenV_some, pu_some, bin_gtr, decide_eq_true h2, Bool.false_eq_true, if_false, hbl, hst]
    exact res_rf2 (rs := Try.f35.results.toList) (n := 15) (k := 2) (t := 3) (by kernel_rfl) (by decide) (by decide) _ hld
end Go.Proofs.Ytcmfgmhadeeieaa

namespace Go.Proofs.Ytcmfgmhadeeieaa
open Go Go.Abs

/-- One field is stored. -/
theorem rf_set {h : Heap} {b i : Nat} {k k' : Blk} {v : Value} (g : h.get b = some k) (h0 : h.n0 ≤ b) (hl : k.length = 6) (hi : i < 6) (hs : k.set i v = k') (h1 : v.cells = #[v]) (h2 : v.oneCell' = true) :
    stN 1 (ptr b i) v h = some (undef, h.set b k') ∧ (h.set b k').get b = some k' ∧ Kept h (h.set b k') (fun c => c = b) := by
  subst hs
  exact ⟨stN1_at g (by omega) h0 h1 h2, Heap.get_set_same h0 g _, Kept.set h0 g (.inr rfl)⟩
/-- The struct is copied into the result. -/
theorem rf_end {h0 h : Heap} {b1 b2 : Nat} {k z : Blk} (g1 : h.get b1 = some k) (g2 : h.get b2 = some z) (hn : h.n0 ≤ b2) (hl : k.length = 6) (hz : z.length = 6) (ho : oneCells k = true) (hh : Abs.noHoles k = true) (old : Old h0 h) (hb : h0.next ≤ b2) :
    ldN 6 (ptr b1 0) h = some (.agg k.toArray, h) ∧ stN 6 (ptr b2 0) (.agg k.toArray) h = some (undef, h.set b2 k) ∧ ldN 6 (ptr b2 0) (h.set b2 k) = some (.agg k.toArray, h.set b2 k) ∧ Old h0 (h.set b2 k) :=
  ⟨rf_ld g1 hl hh, rf_st g2 hn hz hl ho, rf_ld (Heap.get_set_same hn g2 _) hl hh, old.also (Kept.set (B := fun c => c = b2) hn g2 (.inr rfl)) (fun c hc e => by omega)⟩
theorem IsRf.put {h h' : Heap} {F : Nat → Prop} {S S' : Rf} {a : Option Addr} {c : Nat} (s1 : sliceBytes a S.img.length h = some S.img) (s2 : goodS a S.img.length c = true) (s3 : ∀ y, a = some y → 0 < S.img.length → ¬ F y.block) (o : Old h h') (hi : S'.img = S.img) : IsRf h' F (.agg (S'.cells (.slice a S.img.length c)).toArray) S' :=
  ⟨a, c, by rw [hi], by rw [hi]; exact Old.bytes o s1, by rw [hi]; exact s2, by rw [hi]; exact s3⟩

def Rf.off (S : Rf) : Rf := { S with down := true, armed := false, after := 0, keep := 0, turn := if S.down then S.turn else IntKind.wrap .i64 (S.turn + 1) }
def Rf.on (S : Rf) : Rf := { S with down := false, armed := false, after := 0, keep := 0 }
def Rf.wipe (S : Rf) : Rf := { S with img := List.replicate S.img.length 0 }
def Rf.arm (S : Rf) (after keep : Int) : Rf × Int := if S.down then (S, 9) else if after < 0 ∨ keep < 0 ∨ 128 < keep then (S, 2) else ({ S with armed := true, after := after, keep := keep }, 0)

theorem is79 : IsFn Try.prog 79 Try.f79 := ⟨by kernel_rfl, by kernel_rfl, by kernel_rfl, by kernel_rfl⟩
theorem is80 : IsFn Try.prog 80 Try.f80 := ⟨by kernel_rfl, by kernel_rfl, by kernel_rfl, by kernel_rfl⟩
theorem is82 : IsFn Try.prog 82 Try.f82 := ⟨by kernel_rfl, by kernel_rfl, by kernel_rfl, by kernel_rfl⟩
theorem is78 : IsFn Try.prog 78 Try.f78 := ⟨by kernel_rfl, by kernel_rfl, by kernel_rfl, by kernel_rfl⟩
theorem is77 : IsFn Try.prog 77 Try.f77 := ⟨by kernel_rfl, by kernel_rfl, by kernel_rfl, by kernel_rfl⟩
theorem results79 : Try.f79.results.toList = [.cell 2 63] := by kernel_rfl
theorem results80 : Try.f80.results.toList = [.cell 2 63] := by kernel_rfl
theorem results82 : Try.f82.results.toList = [.cell 2 63] := by kernel_rfl
theorem results78 : Try.f78.results.toList = [.cell 6 63, .tmp 7] := by kernel_rfl
theorem results70 : Try.f70.results.toList = [.cell 6 63, .tmp 7] := by kernel_rfl
theorem results83 : Try.f83.results.toList = [.cell 8 63, .tmp 9] := by kernel_rfl
theorem results99 : Try.f99.results.toList = [.cell 8 63] := by kernel_rfl
theorem results49 : Try.f49.results.toList = [.cell 6 63, .tmp 7] := by kernel_rfl
theorem newC6 {h g : Heap} {p : Value} (e : newC zero6 h = some (p, g)) : newC [(.slice none 0 0), (.bool false), (.bool false), (.int .i64 0), (.int .i64 0), (.int .i64 0)] h = some (p, g) := e

section
variable {h : Heap} {F : Nat → Prop} {v : Value} {S : Rf} (x : IsRf h F v S)
include x
/-- On. -/
theorem r80 : ∃ v' h', CD 80 [v] h = some (v', h') ∧ IsRf h' F v' S.on ∧ Old h h' := by
  obtain ⟨a, c, g, rfl, b1, _, _, b4, b5, b6, b7, b8, b9, s1, s2, s3⟩ := rf_begin x
  have b5 := newC6 b5
  have hn0 := h.n0_le_next
  have n0 : (g.alloc zero6).n0 = h.n0 := b7.n0
  generalize g.alloc zero6 = q0 at *
  obtain ⟨e1, g1, k1⟩ := rf_set (i := 1) (v := .bool false) (k' := ({ S with down := false } : Rf).cells (.slice a S.img.length c)) b8 (by omega) rfl (by decide) rfl rfl rfl
  generalize q0.set h.next (({ S with down := false } : Rf).cells (.slice a S.img.length c)) = q1 at *
  obtain ⟨e2, g2, k2⟩ := rf_set (i := 2) (v := .bool false) (k' := ({ S with down := false, armed := false } : Rf).cells (.slice a S.img.length c)) g1 (by rw [k1.n0]; omega) rfl (by decide) rfl rfl rfl
  generalize q1.set h.next (({ S with down := false, armed := false } : Rf).cells (.slice a S.img.length c)) = q2 at *
  obtain ⟨e3, g3, k3⟩ := rf_set (i := 3) (v := .int .i64 0) (k' := ({ S with down := false, armed := false, after := 0 } : Rf).cells (.slice a S.img.length c)) g2 (by rw [k2.n0, k1.n0]; omega) rfl (by decide) rfl rfl rfl
  generalize q2.set h.next (({ S with down := false, armed := false, after := 0 } : Rf).cells (.slice a S.img.length c)) = q3 at *
  obtain ⟨e4, g4, k4⟩ := rf_set (i := 4) (v := .int .i64 0) (k' := S.on.cells (.slice a S.img.length c)) g3 (by rw [k3.n0, k2.n0, k1.n0]; omega) rfl (by decide) rfl rfl rfl
  generalize q3.set h.next (S.on.cells (.slice a S.img.length c)) = q4 at *
  have k04 : Kept q0 q4 (fun c => c = h.next) := ((k1.trans k2).trans k3).trans k4
  have z4 : q4.get (h.next + 1) = some zero6 := k04.getE b6 (by omega)
  have o4 : Old h q4 := b7.also k04 (fun c hc e => by omega)
  obtain ⟨f1, f2, f3, f4⟩ := rf_end (h0 := h) g4 z4 (by rw [o4.n0]; omega) rfl rfl (cells_one _ _ _ _) (cells_hole _ _ _ _) o4 (by omega)
  refine ⟨_, _, CD_body is80 rfl ((t80_eq _ _ _).trans ?_), IsRf.put s1 s2 s3 f4 rfl, f4⟩
  unfold t80
  simp -implicitDefEqProofs only [b1, thenV_some, b5, addP_ptr, Nat.zero_add, pu_some, e1, e2, e3, e4, f1, f2]
  exact res_rf1 (k := 2) results80 (by decide) _ f3
/-- Off. -/
theorem r79 : ∃ v' h', CD 79 [v] h = some (v', h') ∧ IsRf h' F v' S.off ∧ Old h h' := by
  obtain ⟨a, c, g, rfl, b1, _, _, b4, b5, b6, b7, b8, b9, s1, s2, s3⟩ := rf_begin x
  have b5 := newC6 b5
  have hn0 := h.n0_le_next
  have n0 : (g.alloc zero6).n0 = h.n0 := b7.n0
  generalize g.alloc zero6 = q0 at *
  have l1 : ld1 (ptr h.next 1) q0 = some (.bool S.down, q0) := ld1_at b8 rfl
  have l5 : ld1 (ptr h.next 5) q0 = some (.int .i64 S.turn, q0) := ld1_at b8 rfl
  -- the turn
  have step : ∃ qa, Kept q0 qa (fun c => c = h.next) ∧ qa.get h.next = some (({ S with turn := if S.down then S.turn else IntKind.wrap .i64 (S.turn + 1) } : Rf).cells (.slice a S.img.length c)) ∧
      (S.down = false → stN 1 (ptr h.next 5) (.int .i64 (IntKind.wrap .i64 (S.turn + 1))) q0 = some (undef, qa)) ∧ (S.down = true → qa = q0) := by
    by_cases hd : S.down = true
    · refine ⟨q0, Kept.refl _ _, ?_, fun h => absurd hd (by rw [h]; decide), fun _ => rfl⟩
      rw [if_pos hd]
      exact b8
    · obtain ⟨e1, g1, k1⟩ := rf_set (i := 5) (v := .int .i64 (IntKind.wrap .i64 (S.turn + 1))) (k' := ({ S with turn := IntKind.wrap .i64 (S.turn + 1) } : Rf).cells (.slice a S.img.length c)) b8 (by omega) rfl (by decide) rfl rfl rfl
      refine ⟨_, k1, ?_, fun _ => e1, fun h => absurd h hd⟩
      rw [if_neg hd]
      exact g1
  obtain ⟨qa, ka, ga, ha1, ha2⟩ := step
  generalize hT : (if S.down then S.turn else IntKind.wrap .i64 (S.turn + 1)) = T at *
  obtain ⟨e1, g1, k1⟩ := rf_set (i := 1) (v := .bool true) (k' := ({ S with turn := T, down := true } : Rf).cells (.slice a S.img.length c)) ga (by rw [ka.n0]; omega) rfl (by decide) rfl rfl rfl
  generalize qa.set h.next (({ S with turn := T, down := true } : Rf).cells (.slice a S.img.length c)) = q1 at *
  obtain ⟨e2, g2, k2⟩ := rf_set (i := 2) (v := .bool false) (k' := ({ S with turn := T, down := true, armed := false } : Rf).cells (.slice a S.img.length c)) g1 (by rw [k1.n0, ka.n0]; omega) rfl (by decide) rfl rfl rfl
  generalize q1.set h.next (({ S with turn := T, down := true, armed := false } : Rf).cells (.slice a S.img.length c)) = q2 at *
  obtain ⟨e3, g3, k3⟩ := rf_set (i := 3) (v := .int .i64 0) (k' := ({ S with turn := T, down := true, armed := false, after := 0 } : Rf).cells (.slice a S.img.length c)) g2 (by rw [k2.n0, k1.n0, ka.n0]; omega) rfl (by decide) rfl rfl rfl
  generalize q2.set h.next (({ S with turn := T, down := true, armed := false, after := 0 } : Rf).cells (.slice a S.img.length c)) = q3 at *
  obtain ⟨e4, g4, k4⟩ := rf_set (i := 4) (v := .int .i64 0) (k' := ({ S with turn := T, down := true, armed := false, after := 0, keep := 0 } : Rf).cells (.slice a S.img.length c)) g3 (by rw [k3.n0, k2.n0, k1.n0, ka.n0]; omega) rfl (by decide) rfl rfl rfl
  generalize q3.set h.next (({ S with turn := T, down := true, armed := false, after := 0, keep := 0 } : Rf).cells (.slice a S.img.length c)) = q4 at *
  have k04 : Kept q0 q4 (fun c => c = h.next) := (((ka.trans k1).trans k2).trans k3).trans k4
  have z4 : q4.get (h.next + 1) = some zero6 := k04.getE b6 (by omega)
  have o4 : Old h q4 := b7.also k04 (fun c hc e => by omega)
  obtain ⟨f1, f2, f3, f4⟩ := rf_end (h0 := h) g4 z4 (by rw [o4.n0]; omega) rfl rfl (cells_one _ _ _ _) (cells_hole _ _ _ _) o4 (by omega)
  refine ⟨_, _, CD_body is79 rfl ((t79_eq _ _ _).trans ?_), IsRf.put (S' := S.off) s1 s2 s3 f4 rfl, f4⟩
  have hoff : S.off = { S with turn := T, down := true, armed := false, after := 0, keep := 0 } := by unfold Rf.off; rw [hT]
  rw [hoff]
  unfold t79
  cases hd : S.down with
  | true =>
    rw [hd] at l1
    have := ha2 hd
    subst this
    simp -implicitDefEqProofs only [b1, thenV_some, b5, addP_ptr, Nat.zero_add, pu_some, l1, unA_not, Bool.not_true, e1, e2, e3, e4, f1, f2]
    exact res_rf1 (k := 2) results79 (by decide) _ f3
  | false =>
    rw [hd] at l1
    have e0 := ha1 hd
    simp -implicitDefEqProofs only [b1, thenV_some, b5, addP_ptr, Nat.zero_add, pu_some, l1, unA_not, Bool.not_false, l5, bin_add, e0, e1, e2, e3, e4, f1, f2]
    exact res_rf1 (k := 2) results79 (by decide) _ f3
/-- Wipe. -/
theorem r82 (hl : S.img.length ≤ 1000000) : ∃ v' h', CD 82 [v] h = some (v', h') ∧ IsRf h' (fun c => c < h.next) v' S.wipe ∧ Old h h' := by
  obtain ⟨a, c, g, rfl, b1, _, _, b4, b5, b6, b7, b8, b9, s1, s2, s3⟩ := rf_begin x
  have b5 := newC6 b5
  have hn0 := h.n0_le_next
  generalize g.alloc zero6 = q0 at *
  have l0 : ld1 (ptr h.next 0) q0 = some (.slice a S.img.length c, q0) := ld1_at b8 rfl
  have hll : lenL (.slice a S.img.length c) = some (i64n S.img.length) := rfl
  have hmk : mkR 1 1 (.int .u8 0) (i64n S.img.length) (i64n S.img.length) q0 = some (newSlice q0 S.img.length, q0.alloc ((List.replicate S.img.length 0).map u8)) := mk1 (Nat.le_refl _) (by omega)
  have oM : Old q0 (q0.alloc ((List.replicate S.img.length 0).map u8)) := Kept.alloc _ _ _
  have gm := Heap.get_alloc_some b8 ((List.replicate S.img.length 0).map u8)
  have zm := Heap.get_alloc_some b6 ((List.replicate S.img.length 0).map u8)
  have im : (q0.alloc ((List.replicate S.img.length 0).map u8)).get q0.next = some ((List.replicate S.img.length 0).map u8) := by rw [Heap.get_alloc, if_pos rfl]
  generalize q0.alloc ((List.replicate S.img.length 0).map u8) = q1 at *
  have o1 := b7.trans oM
  obtain ⟨e2, g2, k2⟩ := rf_set (i := 0) (v := newSlice q0 S.img.length) (k' := S.wipe.cells (newSlice q0 S.img.length)) gm (by rw [o1.n0]; omega) rfl (by decide) rfl rfl rfl
  generalize q1.set h.next (S.wipe.cells (newSlice q0 S.img.length)) = q2 at *
  have z2 : q2.get (h.next + 1) = some zero6 := k2.getE zm (by omega)
  have i2 : q2.get q0.next = some ((List.replicate S.img.length 0).map u8) := k2.getE im (by omega)
  have o2 : Old h q2 := o1.also k2 (fun c hc e => by omega)
  obtain ⟨f1, f2, f3, f4⟩ := rf_end (h0 := h) g2 z2 (by rw [o2.n0]; omega) rfl rfl (cells_one _ _ _ _) (cells_hole _ _ _ _) o2 (by omega)
  have i3 : (q2.set (h.next + 1) (S.wipe.cells (newSlice q0 S.img.length))).get q0.next = some ((List.replicate S.img.length 0).map u8) := (Heap.get_set_other (by rw [o2.n0]; omega) (q2.lt_of_get z2) _ (by omega)).trans i2
  have hwl : S.wipe.img.length = S.img.length := by simp [Rf.wipe]
  refine ⟨_, _, CD_body is82 rfl ((t82_eq _ _ _).trans ?_), ⟨some ⟨q0.next, 0, none⟩, S.img.length, by rw [hwl] <;> rfl, ?_, ?_, ?_⟩, f4⟩
  · unfold t82
    simp -implicitDefEqProofs only [b1, thenV_some, b5, addP_ptr, Nat.add_zero, pu_some, l0, hll, hmk, e2, f1, f2]
    exact res_rf1 (k := 2) results82 (by decide) _ f3
  · rw [hwl, sliceBytes_at (l := List.replicate S.img.length 0) i3 (by simp) (by intro y hy; rw [List.eq_of_mem_replicate hy]; decide), List.drop_zero, List.take_of_length_le (by simp)]
    rfl
  · rw [hwl]
    unfold goodS
    simp
  · intro y hy _ hlt
    cases hy
    have : q0.next < h.next := hlt
    omega
/-- Arm. -/
theorem r78 (after keep : Int) : ∃ v' h', CD 78 [v, .int .i64 after, .int .i64 keep] h = some (.tuple #[v', .int .i64 (S.arm after keep).2], h') ∧ IsRf h' F v' (S.arm after keep).1 ∧ Old h h' := by
  obtain ⟨a, c, g, rfl, b1, _, _, b4, b5, b6, b7, b8, b9, s1, s2, s3⟩ := rf_begin x
  have b5 := newC6 b5
  have hn0 := h.n0_le_next
  generalize g.alloc zero6 = q0 at *
  have n0 : q0.n0 = h.n0 := b7.n0
  have l1 : ld1 (ptr h.next 1) q0 = some (.bool S.down, q0) := ld1_at b8 rfl
  obtain ⟨f1, f2, f3, f4⟩ := rf_end (h0 := h) b8 b6 (by omega) rfl rfl (cells_one _ _ _ _) (cells_hole _ _ _ _) b7 (by omega)
  cases hd : S.down with
  | true =>
    rw [hd] at l1
    have ha : S.arm after keep = (S, 9) := by unfold Rf.arm; rw [hd, if_pos rfl]
    rw [ha]
    refine ⟨_, _, CD_body is78 rfl ((t78_eq _ _ _ _ _).trans ?_), IsRf.put s1 s2 s3 f4 rfl, f4⟩
    unfold t78
    simp -implicitDefEqProofs only [b1, thenV_some, b5, addP_ptr, Nat.zero_add, pu_some, l1, f1, f2]
    exact res_rf2 (k := 6) (t := 7) results78 (by decide) (by decide) _ f3
  | false =>
    rw [hd] at l1
    by_cases hbad : after < 0 ∨ keep < 0 ∨ 128 < keep
    · have ha : S.arm after keep = (S, 2) := by unfold Rf.arm; rw [hd, if_neg (by decide), if_pos hbad]
      rw [ha]
      refine ⟨_, _, CD_body is78 rfl ((t78_eq _ _ _ _ _).trans ?_), IsRf.put s1 s2 s3 f4 rfl, f4⟩
      unfold t78
      simp -implicitDefEqProofs only [b1, thenV_some, b5, addP_ptr, Nat.zero_add, pu_some, l1, bin_lss, bOf_bool]
      by_cases c1 : after < 0
      · simp -implicitDefEqProofs only [decide_eq_true c1, sf, guardK_false, thenV_some, if_true, bOf_bool, f1, f2]
        exact res_rf2 (k := 6) (t := 7) results78 (by decide) (by decide) _ f3
      by_cases c2 : keep < 0
      · simp -implicitDefEqProofs only [decide_eq_false c1, beq_self_eq_true, guardK_true, thenV_some, pu_some, bin_lss, Bool.false_eq_true, if_false, bOf_bool, decide_eq_true c2, sf, guardK_false, if_true, f1, f2]
        exact res_rf2 (k := 6) (t := 7) results78 (by decide) (by decide) _ f3
      have c3 : keep > 128 := by omega
      simp -implicitDefEqProofs only [decide_eq_false c1, beq_self_eq_true, guardK_true, thenV_some, pu_some, bin_lss, bin_gtr, Bool.false_eq_true, if_false, bOf_bool, decide_eq_false c2, decide_eq_true c3, f1, f2]
      exact res_rf2 (k := 6) (t := 7) results78 (by decide) (by decide) _ f3
    · have ha : S.arm after keep = ({ S with armed := true, after := after, keep := keep }, 0) := by unfold Rf.arm; rw [hd, if_neg (by decide), if_neg hbad]
      rw [ha]
      have c1 : ¬ after < 0 := fun h => hbad (.inl h)
      have c2 : ¬ keep < 0 := fun h => hbad (.inr (.inl h))
      have c3 : ¬ keep > 128 := fun h => hbad (.inr (.inr h))
      obtain ⟨e2, g2, k2⟩ := rf_set (i := 2) (v := .bool true) (k' := ({ S with armed := true } : Rf).cells (.slice a S.img.length c)) b8 (by omega) rfl (by decide) rfl rfl rfl
      generalize q0.set h.next (({ S with armed := true } : Rf).cells (.slice a S.img.length c)) = q2 at *
      obtain ⟨e3, g3, k3⟩ := rf_set (i := 3) (v := .int .i64 after) (k' := ({ S with armed := true, after := after } : Rf).cells (.slice a S.img.length c)) g2 (by rw [k2.n0]; omega) rfl (by decide) rfl rfl rfl
      generalize q2.set h.next (({ S with armed := true, after := after } : Rf).cells (.slice a S.img.length c)) = q3 at *
      obtain ⟨e4, g4, k4⟩ := rf_set (i := 4) (v := .int .i64 keep) (k' := ({ S with armed := true, after := after, keep := keep } : Rf).cells (.slice a S.img.length c)) g3 (by rw [k3.n0, k2.n0]; omega) rfl (by decide) rfl rfl rfl
      generalize q3.set h.next (({ S with armed := true, after := after, keep := keep } : Rf).cells (.slice a S.img.length c)) = q4 at *
      have k04 : Kept q0 q4 (fun c => c = h.next) := (k2.trans k3).trans k4
      have z4 : q4.get (h.next + 1) = some zero6 := k04.getE b6 (by omega)
      have o4 : Old h q4 := b7.also k04 (fun c hc e => by omega)
      obtain ⟨p1, p2, p3, p4⟩ := rf_end (h0 := h) g4 z4 (by rw [o4.n0]; omega) rfl rfl (cells_one _ _ _ _) (cells_hole _ _ _ _) o4 (by omega)
      refine ⟨_, _, CD_body is78 rfl ((t78_eq _ _ _ _ _).trans ?_), IsRf.put (S' := { S with armed := true, after := after, keep := keep }) s1 s2 s3 p4 rfl, p4⟩
      unfold t78
      simp -implicitDefEqProofs only [b1, thenV_some, b5, addP_ptr, Nat.zero_add, pu_some, l1, bin_lss, bOf_bool, decide_eq_false c1, beq_self_eq_true, guardK_true, bin_gtr, Bool.false_eq_true, if_false, decide_eq_false c2, decide_eq_false c3, e2, e3, e4, p1, p2]
      exact res_rf2 (k := 6) (t := 7) results78 (by decide) (by decide) _ p3
/-- The number of blocks. -/
def Rf.n (S : Rf) : Nat := S.img.length / 128
def Rf.fault (S : Rf) (i : Int) : Int := if S.down then 9 else if i < 0 ∨ (S.n : Int) ≤ i then 2 else 0
/-- Read. -/
theorem r77 (hl : S.img.length ≤ 1000000) (i : Int) : ∃ w h', CD 77 [v, .int .i64 i] h = some (.tuple #[w, .int .i64 (S.fault i)], h') ∧ Old h h' ∧ ((S.fault i ≠ 0 ∧ w = .slice none 0 0) ∨ (S.fault i = 0 ∧ OwnB h' h.next w ((S.img.drop (128 * i.toNat)).take 128))) := by
  have x' := x
  obtain ⟨a, c, g, rfl, b1, b2, b3, b4, _, _, _, _, _, s1, s2, s3⟩ := rf_begin x
  have l1 : ld1 (ptr h.next 1) g = some (.bool S.down, g) := ld1_at b2 rfl
  have hld := rf_ld b2 rfl (cells_hole _ _ _ _)
  cases hd : S.down with
  | true =>
    rw [hd] at l1
    have hf : S.fault i = 9 := by unfold Rf.fault; rw [hd, if_pos rfl]
    rw [hf]
    refine ⟨_, g, CD_body is77 rfl ((t77_eq _ _ _ _).trans ?_), b3, .inl ⟨by decide, rfl⟩⟩
    unfold t77
    simp -implicitDefEqProofs only [b1, thenV_some, addP_ptr, Nat.zero_add, pu_some, l1]
  | false =>
    rw [hd] at l1
    by_cases c1 : i < 0
    · have hf : S.fault i = 2 := by unfold Rf.fault; rw [hd, if_neg (by decide), if_pos (.inl c1)]
      rw [hf]
      refine ⟨_, g, CD_body is77 rfl ((t77_eq _ _ _ _).trans ?_), b3, .inl ⟨by decide, rfl⟩⟩
      unfold t77
      simp -implicitDefEqProofs only [b1, thenV_some, addP_ptr, Nat.zero_add, pu_some, l1, bin_lss, decide_eq_true c1, bOf_bool, sf, guardK_false, if_true]
    obtain ⟨k, rfl⟩ : ∃ k : Nat, i = k := ⟨i.toNat, by omega⟩
    obtain ⟨g1, e51, o51⟩ := r51 (x'.old b3) hl
    by_cases c2 : (k : Int) ≥ ((S.img.length / 128 : Nat) : Int)
    · have hf : S.fault (k : Int) = 2 := by unfold Rf.fault Rf.n; rw [hd, if_neg (by decide), if_pos (.inr c2)]
      rw [hf]
      refine ⟨_, g1, CD_body is77 rfl ((t77_eq _ _ _ _).trans ?_), b3.trans o51, .inl ⟨by decide, rfl⟩⟩
      unfold t77
      simp -implicitDefEqProofs only [b1, thenV_some, addP_ptr, Nat.zero_add, pu_some, l1, bin_lss, decide_eq_false c1, bOf_bool, beq_self_eq_true, guardK_true, hld, e51, bin_geq, decide_eq_true c2, Bool.false_eq_true, if_false]
    · have hf : S.fault (k : Int) = 0 := by unfold Rf.fault Rf.n; rw [hd, if_neg (by decide), if_neg (by omega)]
      rw [hf]
      have b21 := Old.get o51 b2
      have hld1 := rf_ld b21 rfl (cells_hole _ _ _ _)
      obtain ⟨w, g2, e104, ow, o104⟩ := r104 (x'.old (b3.trans o51)) hl (i := k) (by omega)
      have hn := (b3.trans o51).next
      refine ⟨w, g2, CD_body is77 rfl ((t77_eq _ _ _ _).trans ?_), (b3.trans o51).trans o104, .inr ⟨rfl, ?_⟩⟩
      · unfold t77
        simp -implicitDefEqProofs only [b1, thenV_some, addP_ptr, Nat.zero_add, pu_some, l1, bin_lss, decide_eq_false c1, bOf_bool, beq_self_eq_true, guardK_true, hld, e51, bin_geq, decide_eq_false c2, Bool.false_eq_true, if_false, hld1, e104]
      · obtain ⟨⟨z1, z2, z3, z4 | ⟨bb, ss, z4, z5, z6⟩⟩, z7⟩ := ow
        · exact ⟨⟨z1, z2, z3, .inl z4⟩, z7⟩
        · exact ⟨⟨z1, z2, z3, .inr ⟨bb, ss, z4, by omega, z6⟩⟩, z7⟩
end
end Go.Proofs.Ytcmfgmhadeeieaa

namespace Go.Proofs.Ytcmfgmhadeeieaa
open Go Go.Abs

theorem splice_snoc {M b : List Nat} {off j : Nat} (h : off + j < M.length) (hj : j < b.length) : (spliceN M off (b.take j)).set (off + j) (b.getD j 0) = spliceN M off (b.take (j + 1)) := by
  have l1 : (b.take j).length = j := by rw [List.length_take]; omega
  have l2 : (b.take (j + 1)).length = j + 1 := by rw [List.length_take]; omega
  have hb : b.getD j 0 = b[j] := by rw [List.getD_eq_getElem?_getD, List.getElem?_eq_getElem hj]; rfl
  apply List.ext_getElem?
  intro q
  rw [getElem?_spliceN (by omega)]
  by_cases hq : q = off + j
  · subst hq
    rw [List.getElem?_set_self (by rw [spliceN_length (by omega)]; omega), if_pos (by omega), Nat.add_sub_cancel_left, List.getElem?_take, if_pos (by omega), List.getElem?_eq_getElem hj, hb]
  · rw [List.getElem?_set_ne (by omega), getElem?_spliceN (by omega)]
    by_cases h2 : off ≤ q ∧ q < off + (b.take j).length
    · rw [if_pos h2, if_pos (by omega), List.getElem?_take, List.getElem?_take, if_pos (by omega), if_pos (by omega)]
    · rw [if_neg h2, if_neg (by omega)]
theorem byte_at {h : Heap} {a : Option Addr} {n c i : Nat} {l : List Nat} (e : sliceBytes a n h = some l) (hi : i < n) : ∃ b p, a.map (·.block) = some b ∧ idxS 1 (.slice a n c) (i64n i) = some (ptr b p) ∧ ld1 (ptr b p) h = some (u8 (l.getD i 0), h) := by
  obtain ⟨h1, h2, h3⟩ := sliceBytes_spec e
  obtain ⟨b, off, s, k, rfl, hk, hlen, hc⟩ := h3 (by omega)
  refine ⟨b, off + i, rfl, ?_, ld1_at hk (hc i hi) rfl⟩
  unfold idxS
  simp only [i64n]
  rw [if_pos (by omega), Int.toNat_natCast, Nat.mul_one]

theorem is99 : IsFn Try.prog 99 Try.f99 := ⟨by kernel_rfl, by kernel_rfl, by kernel_rfl, by kernel_rfl⟩
theorem is70 : IsFn Try.prog 70 Try.f70 := ⟨by kernel_rfl, by kernel_rfl, by kernel_rfl, by kernel_rfl⟩
theorem is83 : IsFn Try.prog 83 Try.f83 := ⟨by kernel_rfl, by kernel_rfl, by kernel_rfl, by kernel_rfl⟩
def Rf.put (S : Rf) (i : Nat) (b : List Nat) : Rf := { S with img := spliceN S.img (128 * i) b }
theorem mul128 (i : Nat) (h : i ≤ 1000000) : bin Try.prog .mul 3 (.int .i64 128) (i64n i) = some (i64n (128 * i)) := mul3 (a := 128) (by omega)

/-- The bytes are laid, one by one. -/
theorem put_loop (X : Nat → Value) (g0 : Heap) {B L i n nb cb : Nat} {sp : Option Nat} {M bl : List Nat} {ab : Option Addr} (hM : M.length = L) (gB : g0.get B = some (M.map u8)) (h0 : g0.n0 ≤ B) (hb : sliceBytes ab nb g0 = some bl) (hab : ∀ y, ab = some y → 0 < nb → y.block ≠ B) (hn : n ≤ bl.length) (hfit : 128 * i + n ≤ L) (hL : L ≤ 1000000)
    (x9 : X 9 = .slice (some ⟨B, 0, sp⟩) L L) (x1 : X 1 = i64n i) (x2 : X 2 = .slice ab nb cb) (x3 : X 3 = i64n n) (x10 : X 10 = i64n 0) :
    Fin 33 (fun ex y g => ex = .exit 0 ∧ y 9 = X 9 ∧ y 4 = X 4 ∧ y 8 = X 8 ∧ g.get B = some ((spliceN M (128 * i) (bl.take n)).map u8) ∧ Kept g0 g (fun c => c = B)) (iter (codeA Try.prog CD (partOf Try.f99 [1, 1, 0, 1, 0, 0])) rounds (mkF 33 X) g0) := by
  have hnb := (sliceBytes_spec hb).1
  refine loop_fin (t99l99_11010_eq CD) (Inv := fun k y g => ∃ j, j + k = n ∧ y 10 = i64n j ∧ y 9 = X 9 ∧ y 4 = X 4 ∧ y 8 = X 8 ∧ y 1 = X 1 ∧ y 2 = X 2 ∧ y 3 = X 3 ∧ g.get B = some ((spliceN M (128 * i) (bl.take j)).map u8) ∧ Kept g0 g (fun c => c = B)) ?_ n (by have : rounds = 18446744073709551616 := rfl; omega)
    ⟨0, Nat.zero_add _, x10, rfl, rfl, rfl, rfl, rfl, rfl, by rw [gB, List.take_zero]; simp [spliceN], Kept.refl _ _⟩
  rintro k y g ⟨j, hjk, y10, y9, y4, y8, y1, y2, y3, gg, kk⟩
  unfold t99l99_11010
  simp -implicitDefEqProofs only [y10, y3, x3, thenV_some, lss3, pu_some]
  by_cases hj : j < n
  · have hbg := kk.bytes hb (fun y hy hn hB => hab y hy hn hB)
    obtain ⟨b, p, _, i1, i2⟩ := byte_at (c := cb) hbg (i := j) (by omega)
    have hix : idxS 1 (.slice (some ⟨B, 0, sp⟩) L L) (i64n (128 * i + j)) = some (ptr B (128 * i + j)) := by
      unfold idxS
      simp only [i64n]
      rw [if_pos (by omega), Int.toNat_natCast, Nat.mul_one, Nat.zero_add]
    have hlen : ((spliceN M (128 * i) (bl.take j)).map u8).length = L := by rw [List.length_map, spliceN_length (by rw [List.length_take]; omega), hM]
    have hst := stN1_at (v := u8 (bl.getD j 0)) gg (show 128 * i + j < _ by rw [hlen]; omega) (by rw [kk.n0]; exact h0) rfl rfl
    rw [← List.map_set, splice_snoc (by omega) (by omega)] at hst
    simp -implicitDefEqProofs only [decide_eq_true hj, thenV_some, y9, x9, y1, x1, mul128 i (by omega), pu_some, add3 (show 128 * i + j ≤ 9223372036854775807 by omega), y2, x2, i1, i2, hix, hst, add31 (show j + 1 ≤ 9223372036854775807 by omega)]
    refine Rnd.next (k - 1) (by omega) ⟨j + 1, by omega, rfl, y9.trans x9, y4, y8, y1.trans x1, y2.trans x2, y3.trans x3, Heap.get_set_same (by rw [kk.n0]; exact h0) gg _, kk.trans (Kept.set (by rw [kk.n0]; exact h0) gg (.inr rfl))⟩
  · have : j = n := by omega
    subst this
    simp -implicitDefEqProofs only [decide_eq_false hj]
    exact Rnd.out 0 ⟨rfl, y9, y4, y8, gg, kk⟩

/-- put. -/
theorem r99 {h : Heap} {F : Nat → Prop} {v : Value} {S : Rf} (x : IsRf h F v S) (hl : S.img.length ≤ 1000000) (hp : 0 < S.img.length) {i n nb cb : Nat} {ab : Option Addr} {bl : List Nat} (hb : sliceBytes ab nb h = some bl) (hn : n ≤ bl.length) (hfit : 128 * i + n ≤ S.img.length) :
    ∃ v' h', CD 99 [v, i64n i, .slice ab nb cb, i64n n] h = some (v', h') ∧ IsRf h' (fun c => c < h.next) v' (S.put i (bl.take n)) ∧ Old h h' := by
  obtain ⟨a, c, g, rfl, b1, _, _, b4, b5, b6, b7, b8, b9, s1, s2, s3⟩ := rf_begin x
  have b5 := newC6 b5
  have hn0 := h.n0_le_next
  generalize g.alloc zero6 = q0 at *
  have oA : Old q0 (q0.alloc []) := Kept.alloc _ _ _
  have hbs : bslR 1 (.int .u8 0) 0 [] q0 = some (.slice (some ⟨q0.next, 0, none⟩) 0 0, q0.alloc []) := rfl
  have nA : (q0.alloc []).next = q0.next + 1 := Heap.next_alloc ..
  have own0 : OwnB (q0.alloc []) q0.next (.slice (some ⟨q0.next, 0, none⟩) 0 0) [] := ⟨OwnC.empty _ (Nat.le_refl _), by simp⟩
  have gA := Heap.get_alloc_some b8 []
  have zA := Heap.get_alloc_some b6 []
  have l0 : ld1 (ptr h.next 0) (q0.alloc []) = some (.slice a S.img.length c, q0.alloc []) := ld1_at gA rfl
  have oh := b7.trans oA
  generalize q0.alloc [] = q1 at *
  obtain ⟨w, q2, e1, ow, k1, _⟩ := append_ownB own0 (by rw [oh.n0]; omega) (by omega) (Old.bytes oh s1) (c := c) (by simp; omega)
  rw [List.nil_append] at ow
  have o2 : Old h q2 := oh.also k1 (fun d hd hB => by
    have : baseOf (.slice (some ⟨q0.next, 0, none⟩) 0 0) = some q0.next := rfl
    rw [this] at hB
    cases hB
    omega)
  have g2 : q2.get h.next = some (S.cells (.slice a S.img.length c)) := k1.getE gA (fun hB => by
    have : baseOf (.slice (some ⟨q0.next, 0, none⟩) 0 0) = some q0.next := rfl
    rw [this] at hB
    have := Option.some.inj hB
    omega)
  have z2 : q2.get (h.next + 1) = some zero6 := k1.getE zA (fun hB => by
    have : baseOf (.slice (some ⟨q0.next, 0, none⟩) 0 0) = some q0.next := rfl
    rw [this] at hB
    have := Option.some.inj hB
    omega)
  obtain ⟨⟨_, _, _, ⟨_, z⟩ | ⟨B, sp, rfl, hB, ⟨_, z⟩ | ⟨rfl, gB⟩⟩⟩, _⟩ := ow
  · omega
  · omega
  have hq0 : q0.next = h.next + 2 := b9
  have run : ∀ Z : Nat → Value, Z 9 = .slice (some ⟨B, 0, some 1⟩) S.img.length S.img.length → Z 1 = i64n i → Z 2 = .slice ab nb cb → Z 3 = i64n n → Z 10 = i64n 0 → Z 4 = ptr h.next 0 → Z 8 = ptr (h.next + 1) 0 →
      ∃ v' h', endL (iter (codeA Try.prog CD (partOf Try.f99 [1, 1, 0, 1, 0, 0])) rounds (mkF 33 Z) q2) (resultsA Try.prog Try.f99.results.toList) (b99_4 CD) = some (v', h') ∧ IsRf h' (fun c => c < h.next) v' (S.put i (bl.take n)) ∧ Old h h' := by
    intro Z z9 z1 zz2 z3 z10 z4 z8
    refine endL_fin (Q := fun o : Out => ∃ v' h', o = some (v', h') ∧ IsRf h' (fun c => c < h.next) v' (S.put i (bl.take n)) ∧ Old h h')
      (put_loop Z q2 rfl gB (by rw [o2.n0]; omega) (Old.bytes o2 hb) (fun y hy hpos => by
        subst hy
        obtain ⟨b, off, s, e, hlt⟩ := sliceBytes_lt hb hpos
        cases e
        show b ≠ B
        omega) hn hfit hl z9 z1 zz2 z3 z10) ?_
    rintro ex z q3 ⟨rfl, y9, y4, y8, gB3, k3⟩
    have g3 := k3.getE g2 (by omega)
    have zz3 := k3.getE z2 (by omega)
    have o3 : Old h q3 := o2.also k3 (fun c hc e => by omega)
    obtain ⟨e2, g4, k4⟩ := rf_set (i := 0) (v := .slice (some ⟨B, 0, some 1⟩) S.img.length S.img.length) (k' := (S.put i (bl.take n)).cells (.slice (some ⟨B, 0, some 1⟩) S.img.length S.img.length)) g3 (by rw [o3.n0]; omega) rfl (by decide) rfl rfl rfl
    generalize q3.set h.next ((S.put i (bl.take n)).cells (.slice (some ⟨B, 0, some 1⟩) S.img.length S.img.length)) = q4 at *
    have zz4 := k4.getE zz3 (by omega)
    have gB4 := k4.getE gB3 (by omega)
    have o4 : Old h q4 := o3.also k4 (fun c hc e => by omega)
    obtain ⟨f1, f2, f3, f4⟩ := rf_end (h0 := h) g4 zz4 (by rw [o4.n0]; omega) rfl rfl (cells_one _ _ _ _) (cells_hole _ _ _ _) o4 (by omega)
    have gB5 : (q4.set (h.next + 1) ((S.put i (bl.take n)).cells (.slice (some ⟨B, 0, some 1⟩) S.img.length S.img.length))).get B = some ((spliceN S.img (128 * i) (bl.take n)).map u8) := (Heap.get_set_other (by rw [o4.n0]; omega) (q4.lt_of_get zz4) _ (by omega)).trans gB4
    have hlen : (spliceN S.img (128 * i) (bl.take n)).length = S.img.length := spliceN_length (by rw [List.length_take]; omega)
    have hbyte : ∀ x ∈ spliceN S.img (128 * i) (bl.take n), x < 256 := spliceN_byte (sliceBytes_spec s1).2.1 (fun x hx => (sliceBytes_spec hb).2.1 x (List.mem_of_mem_take hx))
    simp -implicitDefEqProofs only [endL_exit, b99_4, if_true, t99k99_2_eq]
    unfold t99k99_2
    have y9' := y9.trans z9
    have y4' := y4.trans z4
    have y8' := y8.trans z8
    simp -implicitDefEqProofs only [y9', y4', y8', thenV_some, addP_ptr, Nat.zero_add, pu_some, e2, f1, f2]
    refine ⟨_, _, res_rf1 (k := 8) results99 (by decide) _ (by simp only [up_cons, up_nil, Nat.reduceEqDiff, if_false, y8']; exact f3), ⟨some ⟨B, 0, some 1⟩, S.img.length, by rw [show (S.put i (bl.take n)).img.length = S.img.length from hlen], ?_, ?_, ?_⟩, f4⟩
    · rw [show (S.put i (bl.take n)).img.length = S.img.length from hlen, sliceBytes_at (l := spliceN S.img (128 * i) (bl.take n)) gB5 (by omega) hbyte, List.drop_zero, List.take_of_length_le (by omega)]
      rfl
    · rw [show (S.put i (bl.take n)).img.length = S.img.length from hlen]
      unfold goodS
      simp
    · intro y hy _ hlt
      cases hy
      have : B < h.next := hlt
      omega
  have key : ∃ v' h', t99 CD (.agg (S.cells (.slice a S.img.length c)).toArray) (i64n i) (.slice ab nb cb) (i64n n) h = some (v', h') ∧ IsRf h' (fun c => c < h.next) v' (S.put i (bl.take n)) ∧ Old h h' := by
    unfold t99
    simp -implicitDefEqProofs only [b1, thenV_some, b5, hbs, addP_ptr, Nat.add_zero, pu_some, l0, e1]
    exact run _ rfl rfl rfl rfl rfl rfl rfl
  obtain ⟨v', h', e, f⟩ := key
  exact ⟨v', h', CD_body is99 rfl ((t99_eq _ _ _ _ _ _).trans e), f⟩

/-- Write. -/
def Rf.write (S : Rf) (i : Int) (b : List Nat) : Int × Rf :=
  if S.fault i = 0 then
    if b.length = 128 then
      if S.armed then
        if S.after = 0 then (9, (S.put i.toNat (b.take S.keep.toNat)).off)
        else (0, { S with after := IntKind.wrap .i64 (S.after - 1) }.put i.toNat b)
      else (0, S.put i.toNat b)
    else (10, S)
  else (S.fault i, S)
theorem Rf.fault_zero {S : Rf} {i : Int} (h : S.fault i = 0) : S.down = false ∧ 0 ≤ i ∧ i < (S.n : Int) := by
  unfold Rf.fault at h
  split at h
  · cases h
  · rename_i hd
    split at h
    · cases h
    · exact ⟨by simpa using hd, by omega, by omega⟩
set_option maxRecDepth 100000 in
theorem r70 {h : Heap} {F : Nat → Prop} {v : Value} {S : Rf} (x : IsRf h F v S) (hF : ∀ b, F b → b < h.next) (hl : S.img.length ≤ 1000000) (hk : 0 ≤ S.keep ∧ S.keep ≤ 128) (i : Int) {nb cb : Nat} {ab : Option Addr} {bl : List Nat} (hb : sliceBytes ab nb h = some bl) :
    ∃ v' h', CD 70 [v, .int .i64 i, .slice ab nb cb] h = some (.tuple #[v', .int .i64 (S.write i bl).1], h') ∧ IsRf h' F v' (S.write i bl).2 ∧ Old h h' := by
  have hnb := (sliceBytes_spec hb).1
  have x' := x
  obtain ⟨a, c, g, rfl, b1, _, _, b4, b5, b6, b7, b8, b9, s1, s2, s3⟩ := rf_begin x
  have b5 := newC6 b5
  have hn0 := h.n0_le_next
  generalize g.alloc zero6 = q0 at *
  have n0 : q0.n0 = h.n0 := b7.n0
  have l1 : ld1 (ptr h.next 1) q0 = some (.bool S.down, q0) := ld1_at b8 rfl
  obtain ⟨f1, f2, f3, f4⟩ := rf_end (h0 := h) b8 b6 (by omega) rfl rfl (cells_one _ _ _ _) (cells_hole _ _ _ _) b7 (by omega)
  have hll : lenL (.slice ab nb cb) = some (i64n nb) := rfl
  cases hd : S.down with
  | true =>
    rw [hd] at l1
    have hf : S.fault i = 9 := by unfold Rf.fault; rw [hd, if_pos rfl]
    have ha : S.write i bl = (9, S) := by unfold Rf.write; rw [hf, if_neg (by decide)]
    rw [ha]
    refine ⟨_, _, CD_body is70 rfl ((t70_eq _ _ _ _ _).trans ?_), IsRf.put s1 s2 s3 f4 rfl, f4⟩
    unfold t70
    simp -implicitDefEqProofs only [b1, thenV_some, b5, addP_ptr, Nat.zero_add, pu_some, l1, f1, f2]
    exact res_rf2 (rs := Try.f70.results.toList) (n := 48) (k := 6) (t := 7) results70 (by decide) (by decide) _ f3
  | false =>
    rw [hd] at l1
    by_cases c1 : i < 0
    · have hf : S.fault i = 2 := by unfold Rf.fault; rw [hd, if_neg (by decide), if_pos (.inl c1)]
      have ha : S.write i bl = (2, S) := by unfold Rf.write; rw [hf, if_neg (by decide)]
      rw [ha]
      refine ⟨_, _, CD_body is70 rfl ((t70_eq _ _ _ _ _).trans ?_), IsRf.put s1 s2 s3 f4 rfl, f4⟩
      unfold t70
      simp -implicitDefEqProofs only [b1, thenV_some, b5, addP_ptr, Nat.zero_add, pu_some, l1, bin_lss, decide_eq_true c1, bOf_bool, sf, guardK_false, if_true, f1, f2]
      exact res_rf2 (rs := Try.f70.results.toList) (n := 48) (k := 6) (t := 7) results70 (by decide) (by decide) _ f3
    obtain ⟨k, rfl⟩ : ∃ k : Nat, i = k := ⟨i.toNat, by omega⟩
    obtain ⟨q1, e51, o51⟩ := r51 (x'.old b7) hl
    have g1 := Old.get o51 b8
    have z1 := Old.get o51 b6
    have o1 := b7.trans o51
    obtain ⟨p1, p2, p3, p4⟩ := rf_end (h0 := h) g1 z1 (by rw [o1.n0]; omega) rfl rfl (cells_one _ _ _ _) (cells_hole _ _ _ _) o1 (by omega)
    by_cases c2 : (k : Int) ≥ ((S.img.length / 128 : Nat) : Int)
    · have hf : S.fault (k : Int) = 2 := by unfold Rf.fault Rf.n; rw [hd, if_neg (by decide), if_pos (.inr c2)]
      have ha : S.write (k : Int) bl = (2, S) := by unfold Rf.write; rw [hf, if_neg (by decide)]
      rw [ha]
      refine ⟨_, _, CD_body is70 rfl ((t70_eq _ _ _ _ _).trans ?_), IsRf.put s1 s2 s3 p4 rfl, p4⟩
      unfold t70
      simp -implicitDefEqProofs only [b1, thenV_some, b5, addP_ptr, Nat.zero_add, pu_some, l1, bin_lss, decide_eq_false c1, bOf_bool, beq_self_eq_true, guardK_true, f1, e51, bin_geq, decide_eq_true c2, Bool.false_eq_true, if_false, p1, p2]
      exact res_rf2 (rs := Try.f70.results.toList) (n := 48) (k := 6) (t := 7) results70 (by decide) (by decide) _ p3
    have hf : S.fault (k : Int) = 0 := by unfold Rf.fault Rf.n; rw [hd, if_neg (by decide), if_neg (by omega)]
    by_cases c3 : nb = 128
    · subst c3
      have hz : bin Try.prog .neq 3 (i64n 128) (.int .i64 128) = some (.bool false) := by kernel_rfl
      have l2 : ld1 (ptr h.next 2) q1 = some (.bool S.armed, q1) := ld1_at g1 rfl
      have l3 : ld1 (ptr h.next 3) q1 = some (.int .i64 S.after, q1) := ld1_at g1 rfl
      have l4 : ld1 (ptr h.next 4) q1 = some (.int .i64 S.keep, q1) := ld1_at g1 rfl
      have hb1 := Old.bytes o1 hb
      have fin : ∀ {T : Rf} {vv : Value} {q2 : Heap}, IsRf q2 (fun c => c < q1.next) vv T → Old q1 q2 → ∃ h', stN 6 (ptr (h.next + 1) 0) vv q2 = some (undef, h') ∧ ldN 6 (ptr (h.next + 1) 0) h' = some (vv, h') ∧ IsRf h' F vv T ∧ Old h h' := by
        intro T vv q2 r o2
        have r' := r
        obtain ⟨a2, c2, rfl, t1, t2, t3⟩ := r
        have zz := Old.get o2 z1
        have oo := o1.trans o2
        have hn2 : q2.n0 ≤ h.next + 1 := by rw [oo.n0]; omega
        have kk : Kept q2 (q2.set (h.next + 1) (T.cells (.slice a2 T.img.length c2))) (fun c => c = h.next + 1) := Kept.set hn2 zz (.inr rfl)
        have hn1 := o51.next
        refine ⟨_, rf_st zz hn2 rfl rfl (cells_one _ _ _ _), rf_ld (Heap.get_set_same hn2 zz _) rfl (cells_hole _ _ _ _), ?_, oo.also kk (fun c hc e => by omega)⟩
        refine (r'.keep kk (fun b _ hbb => ?_)).mono (fun b hbF => ?_)
        · show b < q1.next
          have : b = h.next + 1 := hbb
          omega
        · show b < q1.next
          have := hF b hbF
          have := o1.next
          omega
      cases har : S.armed with
      | true =>
        rw [har] at l2
        by_cases c4 : S.after = 0
        · have ha : S.write (k : Int) bl = (9, (S.put k (bl.take S.keep.toNat)).off) := by unfold Rf.write; rw [hf, if_pos rfl, if_pos hnb, har, if_pos rfl, if_pos c4, Int.toNat_natCast]
          rw [ha]
          have hkk : (.int .i64 S.keep : Value) = i64n S.keep.toNat := by show Value.int .i64 S.keep = .int .i64 ((S.keep.toNat : Nat) : Int); rw [Int.toNat_of_nonneg hk.1]
          obtain ⟨v2, q2, e99, r2, o2⟩ := r99 (cb := cb) (x'.old o1) hl (by omega) (i := k) (n := S.keep.toNat) hb1 (by omega) (by omega)
          obtain ⟨v3, q3, e79, r3, o3⟩ := r79 r2
          obtain ⟨h', st1, st2, st3, st4⟩ := fin (q2 := q3) r3 (o2.trans o3)
          have hz0 : bin Try.prog .eql 3 (.int .i64 S.after) (.int .i64 0) = some (.bool true) := by rw [c4]; kernel_rfl
          refine ⟨_, h', CD_body is70 rfl ((t70_eq _ _ _ _ _).trans ?_), st3, st4⟩
          unfold t70
          rw [hkk] at l4
          simp -implicitDefEqProofs only [b1, thenV_some, b5, addP_ptr, Nat.zero_add, pu_some, l1, bin_lss, decide_eq_false c1, bOf_bool, beq_self_eq_true, guardK_true, f1, e51, bin_geq, decide_eq_false c2, Bool.false_eq_true, if_false, hll, hz, l2, l3, hz0, if_true, p1, l4, e99, e79, st1]
          exact res_rf2 (rs := Try.f70.results.toList) (n := 48) (k := 6) (t := 7) results70 (by decide) (by decide) _ st2
        · have ha : S.write (k : Int) bl = (0, { S with after := IntKind.wrap .i64 (S.after - 1) }.put k bl) := by unfold Rf.write; rw [hf, if_pos rfl, if_pos hnb, har, if_pos rfl, if_neg c4, Int.toNat_natCast]
          rw [ha]
          obtain ⟨es, gs, ks⟩ := rf_set (i := 3) (v := .int .i64 (IntKind.wrap .i64 (S.after - 1))) (k' := ({ S with after := IntKind.wrap .i64 (S.after - 1) } : Rf).cells (.slice a S.img.length c)) g1 (by rw [o1.n0]; omega) rfl (by decide) rfl rfl rfl
          have zs := ks.getE z1 (by omega)
          have os : Old h _ := o1.also ks (fun c hc e => by omega)
          have hbs := Old.bytes os hb
          have rs : IsRf _ F (.agg (({ S with after := IntKind.wrap .i64 (S.after - 1) } : Rf).cells (.slice a S.img.length c)).toArray) { S with after := IntKind.wrap .i64 (S.after - 1) } := IsRf.put s1 s2 s3 os rfl
          have hns := ks.next
          generalize q1.set h.next (({ S with after := IntKind.wrap .i64 (S.after - 1) } : Rf).cells (.slice a S.img.length c)) = qs at *
          have lds := rf_ld gs rfl (cells_hole _ _ _ _)
          obtain ⟨v2, q2, e99, r2, o2⟩ := r99 (cb := cb) rs hl (by show 0 < S.img.length; omega) (i := k) (n := 128) hbs (by omega) (by show _ ≤ S.img.length; omega)
          have e99' : CD 99 [_, i64n k, _, .int .i64 128] _ = _ := e99
          rw [List.take_of_length_le (by omega)] at r2
          have zz := Old.get o2 zs
          have oo := os.trans o2
          have hn2 : q2.n0 ≤ h.next + 1 := by rw [oo.n0]; omega
          have r2' := r2
          obtain ⟨a2, c2', rfl, t1, t2, t3⟩ := r2
          have kk : Kept q2 (q2.set (h.next + 1) (({ S with after := IntKind.wrap .i64 (S.after - 1) }.put k bl : Rf).cells (.slice a2 ({ S with after := IntKind.wrap .i64 (S.after - 1) }.put k bl : Rf).img.length c2'))) (fun c => c = h.next + 1) := Kept.set hn2 zz (.inr rfl)
          have st1 := rf_st (k' := ({ S with after := IntKind.wrap .i64 (S.after - 1) }.put k bl : Rf).cells (.slice a2 ({ S with after := IntKind.wrap .i64 (S.after - 1) }.put k bl : Rf).img.length c2')) zz hn2 rfl rfl (cells_one _ _ _ _)
          have st2 := rf_ld (Heap.get_set_same hn2 zz (({ S with after := IntKind.wrap .i64 (S.after - 1) }.put k bl : Rf).cells (.slice a2 ({ S with after := IntKind.wrap .i64 (S.after - 1) }.put k bl : Rf).img.length c2'))) rfl (cells_hole _ _ _ _)
          have hn1 := o51.next
          have hbz : bin Try.prog .eql 3 (.int .i64 S.after) (.int .i64 0) = some (.bool false) := by rw [bin_eql]; exact congrArg (fun q => some (Value.bool q)) (beq_eq_false_iff_ne.2 c4)
          refine ⟨_, _, CD_body is70 rfl ((t70_eq _ _ _ _ _).trans ?_), (r2'.keep kk (fun b _ hbb => ?_)).mono (fun b hbF => ?_), oo.also kk (fun c hc e => by omega)⟩
          · unfold t70
            simp -implicitDefEqProofs only [b1, thenV_some, b5, addP_ptr, Nat.zero_add, pu_some, l1, bin_lss, decide_eq_false c1, bOf_bool, beq_self_eq_true, guardK_true, f1, e51, bin_geq, decide_eq_false c2, Bool.false_eq_true, if_false, hll, hz, l2, l3, hbz, if_true, bin_sub, es, lds, e99', st1]
            exact res_rf2 (rs := Try.f70.results.toList) (n := 48) (k := 6) (t := 7) results70 (by decide) (by decide) _ st2
          · show b < qs.next
            have : b = h.next + 1 := hbb
            omega
          · show b < qs.next
            have := hF b hbF
            have := o1.next
            omega
      | false =>
        rw [har] at l2
        have ha : S.write (k : Int) bl = (0, S.put k bl) := by unfold Rf.write; rw [hf, if_pos rfl, if_pos hnb, har, if_neg (by decide), Int.toNat_natCast]
        rw [ha]
        obtain ⟨v2, q2, e99, r2, o2⟩ := r99 (cb := cb) (x'.old o1) hl (by omega) (i := k) (n := 128) hb1 (by omega) (by omega)
        have e99' : CD 99 [_, i64n k, _, .int .i64 128] _ = _ := e99
        rw [List.take_of_length_le (by omega)] at r2
        obtain ⟨h', st1, st2, st3, st4⟩ := fin r2 o2
        refine ⟨_, h', CD_body is70 rfl ((t70_eq _ _ _ _ _).trans ?_), st3, st4⟩
        unfold t70
        simp -implicitDefEqProofs only [b1, thenV_some, b5, addP_ptr, Nat.zero_add, pu_some, l1, bin_lss, decide_eq_false c1, bOf_bool, beq_self_eq_true, guardK_true, f1, e51, bin_geq, decide_eq_false c2, Bool.false_eq_true, if_false, hll, hz, l2, fs, guardK_false, p1, e99', st1]
        exact res_rf2 (rs := Try.f70.results.toList) (n := 48) (k := 6) (t := 7) results70 (by decide) (by decide) _ st2
    · have hz : bin Try.prog .neq 3 (i64n nb) (.int .i64 128) = some (.bool true) := by
        rw [bin_neq]
        exact congrArg (fun q => some (Value.bool q)) (bne_iff_ne.2 (by omega))
      have ha : S.write (k : Int) bl = (10, S) := by unfold Rf.write; rw [hf, if_pos rfl, if_neg (by omega)]
      rw [ha]
      refine ⟨_, _, CD_body is70 rfl ((t70_eq _ _ _ _ _).trans ?_), IsRf.put s1 s2 s3 p4 rfl, p4⟩
      unfold t70
      simp -implicitDefEqProofs only [b1, thenV_some, b5, addP_ptr, Nat.zero_add, pu_some, l1, bin_lss, decide_eq_false c1, bOf_bool, beq_self_eq_true, guardK_true, f1, e51, bin_geq, decide_eq_false c2, Bool.false_eq_true, if_false, hll, hz, p1, p2]
      exact res_rf2 (rs := Try.f70.results.toList) (n := 48) (k := 6) (t := 7) results70 (by decide) (by decide) _ p3
end Go.Proofs.Ytcmfgmhadeeieaa

namespace Go.Proofs.Ytcmfgmhadeeieaa
open Go Go.Abs

/-- A block of an image. -/
def blkOf (img : List Nat) (i : Nat) : List Nat := (img.drop (128 * i)).take 128
theorem splice_blk {img : List Nat} {i p v : Nat} (h : 128 * i + 128 ≤ img.length) (hp : p < 128) : spliceN img (128 * i) ((blkOf img i).set p v) = img.set (i * 128 + p) v := by
  have hb : ((blkOf img i).set p v).length = 128 := by
    rw [List.length_set]
    unfold blkOf
    rw [List.length_take, List.length_drop]
    omega
  apply List.ext_getElem?
  intro q
  rw [getElem?_spliceN (by omega)]
  by_cases hq : 128 * i ≤ q ∧ q < 128 * i + ((blkOf img i).set p v).length
  · rw [if_pos hq]
    by_cases hqp : q = i * 128 + p
    · subst hqp
      rw [List.getElem?_set_self (by omega), show i * 128 + p - 128 * i = p by omega, List.getElem?_set_self (by rw [List.length_set] at hb; omega)]
    · rw [List.getElem?_set_ne (by omega), List.getElem?_set_ne (by omega)]
      unfold blkOf
      rw [List.getElem?_take, if_pos (by omega), List.getElem?_drop, show 128 * i + (q - 128 * i) = q by omega]
  · rw [if_neg hq, List.getElem?_set_ne (by omega)]
def Rf.rot (S : Rf) (i at_ : Int) (m : Nat) : Int × Rf :=
  if i < 0 ∨ (S.n : Int) ≤ i ∨ at_ < 0 ∨ 127 < at_ then (2, S) else (0, S.put i.toNat ((blkOf S.img i.toNat).set at_.toNat ((blkOf S.img i.toNat).getD at_.toNat 0 ^^^ m)))

set_option maxRecDepth 100000 in
theorem r83 {h : Heap} {F : Nat → Prop} {v : Value} {S : Rf} (x : IsRf h F v S) (hF : ∀ b, F b → b < h.next) (hl : S.img.length ≤ 1000000) (i at_ : Int) {m : Nat} (hm : m < 256) :
    ∃ v' h', CD 83 [v, .int .i64 i, .int .i64 at_, u8 m] h = some (.tuple #[v', .int .i64 (S.rot i at_ m).1], h') ∧ IsRf h' F v' (S.rot i at_ m).2 ∧ Old h h' := by
  have x' := x
  obtain ⟨a, c, g, rfl, b1, _, _, b4, b5, b6, b7, b8, b9, s1, s2, s3⟩ := rf_begin x
  have b5 := newC6 b5
  have hn0 := h.n0_le_next
  generalize g.alloc zero6 = q0 at *
  have n0 : q0.n0 = h.n0 := b7.n0
  obtain ⟨f1, f2, f3, f4⟩ := rf_end (h0 := h) b8 b6 (by omega) rfl rfl (cells_one _ _ _ _) (cells_hole _ _ _ _) b7 (by omega)
  by_cases c1 : i < 0
  · have ha : S.rot i at_ m = (2, S) := by unfold Rf.rot; rw [if_pos (.inl c1)]
    rw [ha]
    refine ⟨_, _, CD_body is83 rfl ((t83_eq _ _ _ _ _ _).trans ?_), IsRf.put s1 s2 s3 f4 rfl, f4⟩
    unfold t83
    simp -implicitDefEqProofs only [b1, thenV_some, b5, addP_ptr, Nat.zero_add, pu_some, bin_lss, decide_eq_true c1, bOf_bool, sf, guardK_false, if_true, f1, f2]
    exact res_rf2 (rs := Try.f83.results.toList) (n := 42) (k := 8) (t := 9) results83 (by decide) (by decide) _ f3
  obtain ⟨k, rfl⟩ : ∃ k : Nat, i = k := ⟨i.toNat, by omega⟩
  obtain ⟨q1, e51, o51⟩ := r51 (x'.old b7) hl
  have g1 := Old.get o51 b8
  have z1 := Old.get o51 b6
  have o1 := b7.trans o51
  obtain ⟨p1, p2, p3, p4⟩ := rf_end (h0 := h) g1 z1 (by rw [o1.n0]; omega) rfl rfl (cells_one _ _ _ _) (cells_hole _ _ _ _) o1 (by omega)
  by_cases c2 : (k : Int) ≥ ((S.img.length / 128 : Nat) : Int)
  · have ha : S.rot (k : Int) at_ m = (2, S) := by unfold Rf.rot Rf.n; rw [if_pos (.inr (.inl c2))]
    rw [ha]
    refine ⟨_, _, CD_body is83 rfl ((t83_eq _ _ _ _ _ _).trans ?_), IsRf.put s1 s2 s3 p4 rfl, p4⟩
    unfold t83
    simp -implicitDefEqProofs only [b1, thenV_some, b5, addP_ptr, Nat.zero_add, pu_some, bin_lss, decide_eq_false c1, bOf_bool, beq_self_eq_true, guardK_true, f1, e51, bin_geq, decide_eq_true c2, Bool.false_eq_true, if_false, sf, guardK_false, if_true, p1, p2]
    exact res_rf2 (rs := Try.f83.results.toList) (n := 42) (k := 8) (t := 9) results83 (by decide) (by decide) _ p3
  by_cases c3 : at_ < 0
  · have ha : S.rot (k : Int) at_ m = (2, S) := by unfold Rf.rot; rw [if_pos (.inr (.inr (.inl c3)))]
    rw [ha]
    refine ⟨_, _, CD_body is83 rfl ((t83_eq _ _ _ _ _ _).trans ?_), IsRf.put s1 s2 s3 p4 rfl, p4⟩
    unfold t83
    simp -implicitDefEqProofs only [b1, thenV_some, b5, addP_ptr, Nat.zero_add, pu_some, bin_lss, decide_eq_false c1, bOf_bool, beq_self_eq_true, guardK_true, f1, e51, bin_geq, decide_eq_false c2, decide_eq_true c3, Bool.false_eq_true, if_false, sf, guardK_false, if_true, p1, p2]
    exact res_rf2 (rs := Try.f83.results.toList) (n := 42) (k := 8) (t := 9) results83 (by decide) (by decide) _ p3
  by_cases c4 : at_ > 127
  · have ha : S.rot (k : Int) at_ m = (2, S) := by unfold Rf.rot; rw [if_pos (.inr (.inr (.inr c4)))]
    rw [ha]
    refine ⟨_, _, CD_body is83 rfl ((t83_eq _ _ _ _ _ _).trans ?_), IsRf.put s1 s2 s3 p4 rfl, p4⟩
    unfold t83
    simp -implicitDefEqProofs only [b1, thenV_some, b5, addP_ptr, Nat.zero_add, pu_some, bin_lss, decide_eq_false c1, bOf_bool, beq_self_eq_true, guardK_true, f1, e51, bin_geq, decide_eq_false c2, decide_eq_false c3, bin_gtr, decide_eq_true c4, Bool.false_eq_true, if_false, p1, p2]
    exact res_rf2 (rs := Try.f83.results.toList) (n := 42) (k := 8) (t := 9) results83 (by decide) (by decide) _ p3
  obtain ⟨p, rfl⟩ : ∃ p : Nat, at_ = p := ⟨at_.toNat, by omega⟩
  have ha : S.rot (k : Int) (p : Int) m = (0, S.put k ((blkOf S.img k).set p ((blkOf S.img k).getD p 0 ^^^ m))) := by unfold Rf.rot Rf.n; rw [if_neg (by omega)]; rfl
  rw [ha]
  have hfit : 128 * k + 128 ≤ S.img.length := by omega
  obtain ⟨w, q2, e104, ow, o104⟩ := r104 (x'.old o1) hl (i := k) hfit
  have hbl : (blkOf S.img k).length = 128 := by
    unfold blkOf
    rw [List.length_take, List.length_drop]; omega
  have ow : OwnB q2 q1.next w (blkOf S.img k) := ow
  have hbyte := ow.byte
  obtain ⟨⟨_, _, _, ⟨_, z⟩ | ⟨B, sp, rfl, hB, ⟨_, z⟩ | ⟨rfl, gB⟩⟩⟩, _⟩ := ow
  · omega
  · omega
  have o2 := o1.trans o104
  have g2 := Old.get o104 g1
  have z2 := Old.get o104 z1
  have hq1 := o51.next
  rw [hbl] at e104 
  have hix : idxS 1 (.slice (some ⟨B, 0, some 1⟩) 128 128) (.int .i64 (p : Int)) = some (ptr B p) := by
    unfold idxS
    simp only
    rw [if_pos (by omega), Int.toNat_natCast, Nat.mul_one, Nat.zero_add]
  have hv : (blkOf S.img k).getD p 0 < 256 := by
    rw [List.getD_eq_getElem?_getD, List.getElem?_eq_getElem (by omega)]
    exact hbyte _ (List.getElem_mem _)
  have hld : ld1 (ptr B p) q2 = some (u8 ((blkOf S.img k).getD p 0), q2) := ld1_at gB (by rw [List.getElem?_map, List.getElem?_eq_getElem (by omega), List.getD_eq_getElem?_getD, List.getElem?_eq_getElem (by omega)]; rfl) rfl
  have hx := bin_xor_nat Try.prog 5 (k := .u8) rfl (a := (blkOf S.img k).getD p 0) (b := m) hv hm
  have hx2 : (blkOf S.img k).getD p 0 ^^^ m < 256 := Nat.xor_lt_two_pow (n := 8) hv hm
  have hB0 : q2.n0 ≤ B := by rw [o2.n0]; omega
  have hst := stN1_at (v := u8 ((blkOf S.img k).getD p 0 ^^^ m)) gB (show p < _ by rw [List.length_map]; omega) hB0 rfl rfl
  rw [← List.map_set] at hst
  have gB3 : (q2.set B (((blkOf S.img k).set p ((blkOf S.img k).getD p 0 ^^^ m)).map u8)).get B = some (((blkOf S.img k).set p ((blkOf S.img k).getD p 0 ^^^ m)).map u8) := Heap.get_set_same hB0 gB _
  have k3 : Kept q2 (q2.set B (((blkOf S.img k).set p ((blkOf S.img k).getD p 0 ^^^ m)).map u8)) (fun c => c = B) := Kept.set hB0 gB (.inr rfl)
  generalize q2.set B (((blkOf S.img k).set p ((blkOf S.img k).getD p 0 ^^^ m)).map u8) = q3 at *
  have hl2 : ((blkOf S.img k).set p ((blkOf S.img k).getD p 0 ^^^ m)).length = 128 := by rw [List.length_set]; exact hbl
  have hbyte2 : ∀ x ∈ (blkOf S.img k).set p ((blkOf S.img k).getD p 0 ^^^ m), x < 256 := by
    intro y hy
    rcases List.mem_or_eq_of_mem_set hy with hy | rfl
    · exact hbyte y hy
    · exact hx2
  generalize (blkOf S.img k).set p ((blkOf S.img k).getD p 0 ^^^ m) = nb at *
  have sb : sliceBytes (some ⟨B, 0, some 1⟩) 128 q3 = some nb := by
    rw [sliceBytes_at (l := nb) gB3 (by omega) hbyte2, List.drop_zero, List.take_of_length_le (by omega)]
  have o3 : Old h q3 := o2.also k3 (fun c hc e => by omega)
  have g3 := k3.getE g2 (by omega)
  have z3 := k3.getE z2 (by omega)
  have ld3 := rf_ld g3 rfl (cells_hole _ _ _ _)
  obtain ⟨v2, q4, e99, r4, o4⟩ := r99 (cb := 128) (x'.old o3) hl (by omega) (i := k) (n := 128) sb (by omega) hfit
  have e99' : CD 99 [_, i64n k, _, .int .i64 128] _ = _ := e99
  rw [List.take_of_length_le (by omega)] at r4
  have z4 := Old.get o4 z3
  have oo := o3.trans o4
  have hn2 : q4.n0 ≤ h.next + 1 := by rw [oo.n0]; omega
  have r4' := r4
  obtain ⟨a2, c2', rfl, t1, t2, t3⟩ := r4
  have kk : Kept q4 (q4.set (h.next + 1) ((S.put k nb).cells (.slice a2 (S.put k nb).img.length c2'))) (fun c => c = h.next + 1) := Kept.set hn2 z4 (.inr rfl)
  have st1 := rf_st (k' := (S.put k nb).cells (.slice a2 (S.put k nb).img.length c2')) z4 hn2 rfl rfl (cells_one _ _ _ _)
  have st2 := rf_ld (Heap.get_set_same hn2 z4 ((S.put k nb).cells (.slice a2 (S.put k nb).img.length c2'))) rfl (cells_hole _ _ _ _)
  have hq3 := k3.next
  have hq2 := o104.next
  refine ⟨_, _, CD_body is83 rfl ((t83_eq _ _ _ _ _ _).trans ?_), (r4'.keep kk (fun b _ hbb => ?_)).mono (fun b hbF => ?_), oo.also kk (fun c hc e => by omega)⟩
  · unfold t83
    have hcb : ((blkOf S.img k).length : Nat) = 128 := hbl
    simp -implicitDefEqProofs only [b1, thenV_some, b5, addP_ptr, Nat.zero_add, pu_some, bin_lss, decide_eq_false c1, bOf_bool, beq_self_eq_true, guardK_true, f1, e51, bin_geq, decide_eq_false c2, decide_eq_false c3, bin_gtr, decide_eq_false c4, Bool.false_eq_true, if_false, p1, e104, hix, hld, hx, hst, ld3, e99', st1]
    exact res_rf2 (rs := Try.f83.results.toList) (n := 42) (k := 8) (t := 9) results83 (by decide) (by decide) _ st2
  · show b < q3.next
    have : b = h.next + 1 := hbb
    omega
  · show b < q3.next
    have := hF b hbF
    have := o1.next
    omega

/-- Wipe, of the program. -/
def Dk.wipe (D : Dk) : Dk := { D with img := List.replicate D.img.length 0 }
theorem is81 : IsFn Try.prog 81 Try.f81 := ⟨by kernel_rfl, by kernel_rfl, by kernel_rfl, by kernel_rfl⟩
theorem r81 {h : Heap} {d : Nat} {D : Dk} (x : IsDk h d D) (hn : 1 ≤ D.n) : ∃ h', CD 81 [ptr d 0] h = some (.int .i64 0, h') ∧ IsDk h' d D.wipe ∧ DkOnly d D.bb h h' := by
  have hz : (zeros (List.replicate 128 (Value.int .u8 0)) D.n) = (List.replicate (128 * D.n) 0).map u8 := zeros128 D.n
  have hc : (Value.agg (List.replicate 128 (Value.int .u8 0)).toArray).cells = (List.replicate 128 (Value.int .u8 0)).toArray := rfl
  have hsp : splice (D.img.map u8) 0 ((List.replicate (128 * D.n) 0).map u8) = (List.replicate D.img.length 0).map u8 := by
    rw [spliceN_map]
    unfold spliceN
    rw [x.len]
    simp [x.len]
  have hclr : clrR (.agg (List.replicate 128 (Value.int .u8 0)).toArray) 128 (.slice (some ⟨D.bb, 0, none⟩) D.n D.n) h = some (undef, h.set D.bb ((List.replicate D.img.length 0).map u8)) := by
    unfold clrR
    simp only [hc]
    rw [if_neg (by omega), if_pos (by simp [flatAll, flat]), hz]
    unfold stL
    simp only [x.img]
    rw [if_pos (by simp only [one_u8, List.length_map, List.length_replicate, x.len, Bool.and_true, Bool.and_eq_true, decide_eq_true_eq]; exact ⟨x.bn, by omega⟩), hsp]
    rfl
  refine ⟨h.set D.bb ((List.replicate D.img.length 0).map u8), CD_body is81 rfl ((t81_eq _ _ _).trans ?_), ?_, (Kept.set (B := fun c => c = D.bb) x.bn x.img (.inr rfl)).mono (fun c _ hc => .inr hc)⟩
  · unfold t81
    simp -implicitDefEqProofs only [thenV_some, nil27e, pu_some, nilCheck_ptr, addP_ptr, Nat.zero_add, x.l0, hclr]
  · refine ⟨(Heap.get_set_other x.bn x.blt _ x.ne).trans x.hdr, Heap.get_set_same x.bn x.img _, by show (List.replicate _ _).length = _; rw [List.length_replicate]; exact x.len, ?_, x.dn, x.bn, x.ne, x.small, x.after, x.keep⟩
    intro y hy
    rw [List.eq_of_mem_replicate hy]; decide

/-- The two disks beside each other. -/
structure Eqd (D : Dk) (S : Rf) : Prop where
  img : S.img = D.img
  down : S.down = D.down
  armed : S.armed = D.armed
  arm : D.armed = true → S.after = D.after ∧ S.keep = D.keep
  da : D.down = true → D.armed = false
  turn : S.turn = D.turn
  kp : 0 ≤ S.keep ∧ S.keep ≤ 128
theorem Eqd.n {D : Dk} {S : Rf} (q : Eqd D S) (hl : D.img.length = 128 * D.n) : S.n = D.n := by
  unfold Rf.n
  rw [q.img, hl]; omega
theorem Eqd.fault {D : Dk} {S : Rf} (q : Eqd D S) (hl : D.img.length = 128 * D.n) (i : Int) : S.fault i = D.fault i := by
  unfold Rf.fault Dk.fault
  rw [q.down, q.n hl]
theorem Eqd.off {D : Dk} {S : Rf} (q : Eqd D S) : Eqd D.off S.off := by
  by_cases hd : D.down = true
  · have e : D.off = D := by unfold Dk.off; rw [if_pos hd]
    rw [e]
    refine ⟨q.img, hd.symm, (q.da hd).symm, fun h => absurd h (by rw [q.da hd]; decide), q.da, ?_, ⟨Int.le_refl 0, by show (0 : Int) ≤ 128; omega⟩⟩
    show (if S.down = true then S.turn else IntKind.wrap .i64 (S.turn + 1)) = D.turn
    rw [q.down, if_pos hd, q.turn]
  · have e : D.off = { D with down := true, armed := false, turn := IntKind.wrap .i64 (D.turn + 1) } := by unfold Dk.off; rw [if_neg hd]
    rw [e]
    refine ⟨q.img, rfl, rfl, fun h => (by cases h), fun _ => rfl, ?_, ⟨Int.le_refl 0, by show (0 : Int) ≤ 128; omega⟩⟩
    show (if S.down = true then S.turn else IntKind.wrap .i64 (S.turn + 1)) = IntKind.wrap .i64 (D.turn + 1)
    rw [q.down, if_neg hd, q.turn]
theorem Eqd.on {D : Dk} {S : Rf} (q : Eqd D S) : Eqd D.on S.on := ⟨q.img, rfl, rfl, fun h => (by cases h), fun _ => rfl, q.turn, ⟨Int.le_refl 0, by show (0 : Int) ≤ 128; omega⟩⟩
theorem Eqd.wipe {D : Dk} {S : Rf} (q : Eqd D S) : Eqd D.wipe S.wipe := ⟨by unfold Dk.wipe Rf.wipe; rw [q.img], q.down, q.armed, q.arm, q.da, q.turn, q.kp⟩
theorem Eqd.armT {D : Dk} {S : Rf} (q : Eqd D S) (a k : Int) : (S.arm a k).2 = (D.arm a k).1 ∧ Eqd (D.arm a k).2 (S.arm a k).1 := by
  have hs := q.down
  unfold Rf.arm Dk.arm
  cases hd : D.down with
  | true =>
    rw [hd] at hs
    rw [hs]
    exact ⟨rfl, q⟩
  | false =>
    rw [hd] at hs
    rw [hs]
    simp only [Bool.false_eq_true, if_false]
    by_cases hb : a < 0 ∨ k < 0 ∨ 128 < k
    · rw [if_pos hb, if_pos hb]; exact ⟨rfl, q⟩
    · rw [if_neg hb, if_neg hb]
      exact ⟨rfl, q.img, rfl, rfl, fun _ => ⟨rfl, rfl⟩, fun h => (by cases h), q.turn, by show 0 ≤ k ∧ k ≤ 128; omega⟩
theorem Eqd.write {D : Dk} {S : Rf} (q : Eqd D S) (hl : D.img.length = 128 * D.n) (ha : 0 ≤ D.after ∧ D.after ≤ 9223372036854775807) (i : Int) (b : List Nat) : (S.write i b).1 = (D.write i b).1 ∧ Eqd (D.write i b).2 (S.write i b).2 := by
  unfold Rf.write Dk.write
  rw [q.fault hl]
  by_cases hf : D.fault i = 0
  · obtain ⟨hdn, hi1, hi2⟩ := Dk.fault_zero hf
    rw [if_pos hf, if_pos hf]
    by_cases hb : b.length = 128
    · rw [if_pos hb, if_pos hb, q.armed]
      have lay : ∀ l, Eqd (D.lay i l) (S.put i.toNat l) := fun l => ⟨by unfold Dk.lay Rf.put; rw [q.img, Nat.mul_comm], q.down, q.armed, q.arm, q.da, q.turn, q.kp⟩
      cases har : D.armed with
      | true =>
        obtain ⟨e1, e2⟩ := q.arm har
        rw [if_pos rfl, if_pos rfl, e1]
        by_cases hz : D.after = 0
        · rw [if_pos hz, if_pos hz, e2]
          exact ⟨rfl, (lay _).off⟩
        · rw [if_neg hz, if_neg hz]
          refine ⟨rfl, ?_, q.down, har.symm, fun _ => ⟨?_, e2⟩, q.da, q.turn, q.kp⟩
          · exact (lay b).img
          · show IntKind.wrap .i64 (D.after - 1) = D.after - 1
            rw [wrap_i64 (by omega) (by omega)]
      | false =>
        rw [if_neg (by decide), if_neg (by decide)]
        exact ⟨rfl, lay b⟩
    · rw [if_neg hb, if_neg hb]; exact ⟨rfl, q⟩
  · rw [if_neg hf, if_neg hf]; exact ⟨rfl, q⟩
theorem Eqd.rotT {D : Dk} {S : Rf} (q : Eqd D S) (hl : D.img.length = 128 * D.n) (i at_ : Int) (m : Nat) : (S.rot i at_ m).1 = (D.rot i at_ m).1 ∧ Eqd (D.rot i at_ m).2 (S.rot i at_ m).2 := by
  unfold Rf.rot Dk.rot
  rw [q.n hl]
  by_cases hb : i < 0 ∨ (D.n : Int) ≤ i ∨ at_ < 0 ∨ 127 < at_
  · rw [if_pos hb, if_pos (by omega)]; exact ⟨rfl, q⟩
  · rw [if_neg hb, if_neg (by omega)]
    refine ⟨rfl, ?_, q.down, q.armed, q.arm, q.da, q.turn, q.kp⟩
    show spliceN S.img (128 * i.toNat) _ = _
    rw [q.img, splice_blk (by omega) (by omega)]
    show D.img.set _ _ = D.img.set _ _
    congr 1
    have : (blkOf D.img i.toNat).getD at_.toNat 0 = D.img.getD (i.toNat * 128 + at_.toNat) 0 := by
      unfold blkOf
      rw [List.getD_eq_getElem?_getD, List.getD_eq_getElem?_getD, List.getElem?_take, if_pos (by omega), List.getElem?_drop, Nat.mul_comm]
    rw [this]
end Go.Proofs.Ytcmfgmhadeeieaa

namespace Go.Proofs.Ytcmfgmhadeeieaa
open Go Go.Abs

theorem is49 : IsFn Try.prog 49 Try.f49 := ⟨by kernel_rfl, by kernel_rfl, by kernel_rfl, by kernel_rfl⟩
theorem X20 : XX 20 = s20 := rfl
theorem X48 : XX 48 = s48 := rfl
theorem X36 : XX 36 = s36 := rfl
theorem X50 : XX 50 = s50 := rfl
theorem cells_plain {h : Heap} {b : Nat} {S : Rf} {a : Option Addr} {n c : Nat} (g : h.get b = some (S.cells (.slice a n c))) : Plain h b := ⟨_, g, by
  intro v hv
  simp only [Rf.cells, List.mem_cons, List.not_mem_nil, or_false] at hv
  rcases hv with rfl | rfl | rfl | rfl | rfl | rfl <;> rfl⟩
theorem zero6_plain {h : Heap} {b : Nat} (g : h.get b = some zero6) : Plain h b := ⟨_, g, by
  intro v hv
  simp only [zero6, List.mem_cons, List.not_mem_nil, or_false] at hv
  rcases hv with rfl | rfl | rfl | rfl | rfl | rfl <;> rfl⟩
theorem IsRf.keepP {h h' : Heap} {F B : Nat → Prop} {v : Value} {S : Rf} (x : IsRf h F v S) (k : Kept h h' B) (hB : ∀ b, B b → Plain h b) : IsRf h' F v S := by
  obtain ⟨a, c, rfl, h1, h2, h3⟩ := x
  exact ⟨a, c, rfl, k.bytesP hB h1, h2, h3⟩
/-- The end of a call: the new disk goes into its own place, and into the result. -/
theorem dev_end {h0 g : Heap} {F : Nat → Prop} {S T : Rf} {vv : Value} {a : Option Addr} {n c m4 m6 : Nat} (r : IsRf g F vv T) (g4 : g.get m4 = some (S.cells (.slice a n c))) (g6 : g.get m6 = some zero6) (hn : g.n0 ≤ m4) (hm : m4 < m6) {d bb : Nat} (k : DkOnly d bb h0 g) (h4 : h0.next ≤ m4) (hd : d < m4) (hb : bb < m4) {D : Dk} (x : IsDk g d D) (hD : D.bb = bb) :
    ∃ g1 g2, stN 6 (ptr m4 0) vv g = some (undef, g1) ∧ ldN 6 (ptr m4 0) g1 = some (vv, g1) ∧ stN 6 (ptr m6 0) vv g1 = some (undef, g2) ∧ ldN 6 (ptr m6 0) g2 = some (vv, g2) ∧ IsRf g2 F vv T ∧ DkOnly d bb h0 g2 ∧ IsDk g2 d D := by
  have r' := r
  obtain ⟨a', c', rfl, t1, t2, t3⟩ := r
  have k1 : Kept g (g.set m4 (T.cells (.slice a' T.img.length c'))) (fun c => c = m4) := Kept.set hn g4 (.inr rfl)
  have p1 : ∀ b, b = m4 → Plain g b := fun b hb => by subst hb; exact cells_plain g4
  have g41 : (g.set m4 (T.cells (.slice a' T.img.length c'))).get m4 = some (T.cells (.slice a' T.img.length c')) := Heap.get_set_same hn g4 _
  have g61 := k1.getE g6 (by omega)
  have s1 := rf_st (k' := T.cells (.slice a' T.img.length c')) g4 hn rfl rfl (cells_one _ _ _ _)
  have l1 := rf_ld g41 rfl (cells_hole _ _ _ _)
  have hn1 : (g.set m4 (T.cells (.slice a' T.img.length c'))).n0 ≤ m6 := by rw [k1.n0]; omega
  have r1 := r'.keepP k1 p1
  have x1 := x.mono k1.n0 (k1.get d x.lt (by omega)) (k1.get D.bb x.blt (by omega))
  have kk1 : DkOnly d bb h0 (g.set m4 (T.cells (.slice a' T.img.length c'))) := k.also k1 (fun c hc e => by omega)
  generalize g.set m4 (T.cells (.slice a' T.img.length c')) = q1 at *
  have k2 : Kept q1 (q1.set m6 (T.cells (.slice a' T.img.length c'))) (fun c => c = m6) := Kept.set hn1 g61 (.inr rfl)
  have p2 : ∀ b, b = m6 → Plain q1 b := fun b hb => by subst hb; exact zero6_plain g61
  have s2 := rf_st (k' := T.cells (.slice a' T.img.length c')) g61 hn1 rfl rfl (cells_one _ _ _ _)
  have l2 := rf_ld (Heap.get_set_same hn1 g61 (T.cells (.slice a' T.img.length c'))) rfl (cells_hole _ _ _ _)
  exact ⟨q1, _, s1, l1, s2, l2, r1.keepP k2 p2, kk1.also k2 (fun c hc e => by omega), x1.mono k2.n0 (k2.get d x1.lt (by omega)) (k2.get D.bb x1.blt (by omega))⟩
/-- The same where the disk's own place is not touched. -/
theorem dev_end' {h0 g : Heap} {F : Nat → Prop} {S : Rf} {a : Option Addr} {c m4 m6 : Nat} (r : IsRf g F (.agg (S.cells (.slice a S.img.length c)).toArray) S) (g4 : g.get m4 = some (S.cells (.slice a S.img.length c))) (g6 : g.get m6 = some zero6) (hn : g.n0 ≤ m4) (hm : m4 < m6) {d bb : Nat} (k : DkOnly d bb h0 g) (h4 : h0.next ≤ m4) (hd : d < m4) (hb : bb < m4) {D : Dk} (x : IsDk g d D) (hD : D.bb = bb) :
    ∃ g2, ldN 6 (ptr m4 0) g = some (.agg (S.cells (.slice a S.img.length c)).toArray, g) ∧ stN 6 (ptr m6 0) (.agg (S.cells (.slice a S.img.length c)).toArray) g = some (undef, g2) ∧ ldN 6 (ptr m6 0) g2 = some (.agg (S.cells (.slice a S.img.length c)).toArray, g2) ∧ IsRf g2 F (.agg (S.cells (.slice a S.img.length c)).toArray) S ∧ DkOnly d bb h0 g2 ∧ IsDk g2 d D ∧ Kept g g2 (fun c => c = m6) := by
  have hn1 : g.n0 ≤ m6 := by omega
  have k2 : Kept g (g.set m6 (S.cells (.slice a S.img.length c))) (fun c => c = m6) := Kept.set hn1 g6 (.inr rfl)
  have p2 : ∀ b, b = m6 → Plain g b := fun b hb => by subst hb; exact zero6_plain g6
  exact ⟨_, rf_ld g4 rfl (cells_hole _ _ _ _), rf_st g6 hn1 rfl rfl (cells_one _ _ _ _), rf_ld (Heap.get_set_same hn1 g6 _) rfl (cells_hole _ _ _ _), r.keepP k2 p2, k.also k2 (fun c hc e => by omega), x.mono k2.n0 (k2.get d x.lt (by omega)) (k2.get D.bb x.blt (by omega)), k2⟩

/-- What a call on both disks comes to. -/
def DevPost (h : Heap) (d : Nat) (D : Dk) (o : Out) : Prop :=
  ∃ v' h' D' S', o = some (.tuple #[v', .bool true], h') ∧ IsDk h' d D' ∧ D'.bb = D.bb ∧ D'.n = D.n ∧ Eqd D' S' ∧ IsRf h' (fun c => c = d ∨ c = D.bb) v' S' ∧ DkOnly d D.bb h h'

set_option maxRecDepth 100000 in
set_option maxHeartbeats 1000000 in
theorem r49 {h : Heap} {d : Nat} {D : Dk} {S : Rf} {v : Value} (x : IsDk h d D) (h4 : 4 ≤ D.n) (hn : D.n ≤ 4096) (q : Eqd D S) (r : IsRf h (fun c => c = d ∨ c = D.bb) v S) {kind A B : Int} {m : Nat} {da ra : Option Addr} {dn dc rn rc : Nat} {data : List Nat} (hdat : sliceBytes da dn h = some data) (hda : ∀ y, da = some y → 0 < dn → ¬ (y.block = d ∨ y.block = D.bb)) (hdn : dn ≤ 21000) (hm : m < 256) (hA : inI64 A = true) :
    DevPost h d D (CD 49 [ptr d 0, v, .agg #[.int .i64 kind, .int .i64 A, .int .i64 B, u8 m, .slice da dn dc, .slice ra rn rc]] h) := by
  have hlen := x.len
  have hl : S.img.length ≤ 1000000 := by rw [q.img]; omega
  have hdl := x.lt
  have hbl := x.blt
  have hF : ∀ g : Heap, h.next ≤ g.next → ∀ b, (b = d ∨ b = D.bb) → b < g.next := fun g hg b hb => by omega
  have key : DevPost h d D (t49 CD (ptr d 0) v (.agg #[.int .i64 kind, .int .i64 A, .int .i64 B, u8 m, .slice da dn dc, .slice ra rn rc]) h) := by
    have r0 := r
    obtain ⟨a, c, rfl, s1, s2, s3⟩ := r
    have e4 : box (.agg (S.cells (.slice a S.img.length c)).toArray) h = some (ptr h.next 0, h.alloc (S.cells (.slice a S.img.length c))) := rfl
    have o4 : Old h (h.alloc (S.cells (.slice a S.img.length c))) := Kept.alloc _ _ _
    have g4 : (h.alloc (S.cells (.slice a S.img.length c))).get h.next = some (S.cells (.slice a S.img.length c)) := by rw [Heap.get_alloc, if_pos rfl]
    have n4 : (h.alloc (S.cells (.slice a S.img.length c))).next = h.next + 1 := Heap.next_alloc ..
    generalize h.alloc (S.cells (.slice a S.img.length c)) = q4 at *
    have e5 : box (.agg #[.int .i64 kind, .int .i64 A, .int .i64 B, u8 m, .slice da dn dc, .slice ra rn rc]) q4 = some (ptr q4.next 0, q4.alloc [.int .i64 kind, .int .i64 A, .int .i64 B, u8 m, .slice da dn dc, .slice ra rn rc]) := rfl
    have o5 : Old q4 (q4.alloc [.int .i64 kind, .int .i64 A, .int .i64 B, u8 m, .slice da dn dc, .slice ra rn rc]) := Kept.alloc _ _ _
    have g5 : (q4.alloc [.int .i64 kind, .int .i64 A, .int .i64 B, u8 m, .slice da dn dc, .slice ra rn rc]).get q4.next = some [.int .i64 kind, .int .i64 A, .int .i64 B, u8 m, .slice da dn dc, .slice ra rn rc] := by rw [Heap.get_alloc, if_pos rfl]
    have n5 : (q4.alloc [.int .i64 kind, .int .i64 A, .int .i64 B, u8 m, .slice da dn dc, .slice ra rn rc]).next = q4.next + 1 := Heap.next_alloc ..
    generalize q4.alloc [.int .i64 kind, .int .i64 A, .int .i64 B, u8 m, .slice da dn dc, .slice ra rn rc] = q5 at *
    have g45 := Old.get o5 g4
    have e6 : newC [(.slice none 0 0), (.bool false), (.bool false), (.int .i64 0), (.int .i64 0), (.int .i64 0)] q5 = some (ptr q5.next 0, q5.alloc zero6) := rfl
    have o6 : Old q5 (q5.alloc zero6) := Kept.alloc _ _ _
    have z6 : (q5.alloc zero6).get q5.next = some zero6 := by rw [Heap.get_alloc, if_pos rfl]
    have n6 : (q5.alloc zero6).next = q5.next + 1 := Heap.next_alloc ..
    generalize q5.alloc zero6 = q0 at *
    have g40 := Old.get o6 g45
    have g50 := Old.get o6 g5
    have o0 : Old h q0 := (o4.trans o5).trans o6
    have x0 := Old.dk o0 x
    have hn0 : q0.n0 ≤ h.next := by rw [o0.n0]; exact h.n0_le_next
    have rq0 := r0.old o0
    have dk0 : DkOnly d D.bb h q0 := o0.mono (fun c _ hc => hc.elim)
    generalize hm5 : q4.next = m5 at *
    generalize hm6 : q5.next = m6 at *
    -- loads of the call's cells
    have lds : ∀ g : Heap, g.get m5 = some [.int .i64 kind, .int .i64 A, .int .i64 B, u8 m, .slice da dn dc, .slice ra rn rc] → ld1 (ptr m5 1) g = some (.int .i64 A, g) ∧ ld1 (ptr m5 2) g = some (.int .i64 B, g) ∧ ld1 (ptr m5 3) g = some (u8 m, g) ∧ ld1 (ptr m5 4) g = some (.slice da dn dc, g) := fun g hg => ⟨ld1_at hg rfl, ld1_at hg rfl, ld1_at hg rfl, ld1_at hg rfl⟩
    have l0 : ld1 (ptr m5 0) q0 = some (.int .i64 kind, q0) := ld1_at g50 rfl
    obtain ⟨lA, lB, lm, ldt⟩ := lds q0 g50
    have hkeep : ∀ {g : Heap}, DkOnly d D.bb q0 g → g.get h.next = some (S.cells (.slice a S.img.length c)) ∧ g.get m5 = some [.int .i64 kind, .int .i64 A, .int .i64 B, u8 m, .slice da dn dc, .slice ra rn rc] ∧ g.get m6 = some zero6 ∧ g.n0 ≤ h.next ∧ DkOnly d D.bb h g ∧ q0.next ≤ g.next := fun {g} k => ⟨k.getE g40 (by omega), k.getE g50 (by omega), k.getE z6 (by omega), by rw [k.n0]; exact hn0, o0.mono (fun c _ hc => hc.elim) |>.trans (k.mono (fun c _ hc => hc)), k.next⟩
    unfold t49
    simp -implicitDefEqProofs only [e4, thenV_some, e5, hm5, e6, hm6, addP_ptr, Nat.add_zero, pu_some, l0, bin_eql]
    by_cases k1 : kind = 1
    · subst k1
      have hfe := q.fault hlen A
      have key1 : ∃ ra' rn' rc' q1, CD 20 [ptr d 0, .int .i64 A] q0 = some (.tuple #[.slice ra' rn' rc', .int .i64 (D.fault A)], q1) ∧ Old q0 q1 ∧ ((D.fault A ≠ 0 ∧ (.slice ra' rn' rc' : Value) = .slice none 0 0) ∨ (D.fault A = 0 ∧ sliceBytes ra' rn' q1 = some (D.read A))) := by
        by_cases hf : D.fault A = 0
        · obtain ⟨hdn', hi1, hi2⟩ := Dk.fault_zero hf
          have hrl : (D.read A).length = 128 := by
            unfold Dk.read
            rw [List.length_take, List.length_drop]
            omega
          refine ⟨some ⟨q0.next, 0, none⟩, 128, 128, q0.alloc ((D.read A).map u8), ?_, Kept.alloc _ _ _, .inr ⟨hf, ?_⟩⟩
          · rw [hf]
            exact CD_known (by rw [X20]; exact s20_at x0 A hf)
          · rw [sliceBytes_at (l := D.read A) (by rw [Heap.get_alloc, if_pos rfl]) (by omega) (fun y hy => x.byte y (List.mem_of_mem_drop (List.mem_of_mem_take hy))), List.drop_zero, List.take_of_length_le (by omega)]
        · exact ⟨none, 0, 0, q0, CD_known (by rw [X20]; exact s20_bad x0 A hf), Kept.refl _ _, .inl ⟨hf, rfl⟩⟩
      obtain ⟨ra', rn', rc', q1, e20, o1, hr1⟩ := key1
      have dk1 : DkOnly d D.bb q0 q1 := o1.mono (fun c _ hc => hc.elim)
      obtain ⟨g41, g51, z61, n01, _, nx1⟩ := hkeep dk1
      obtain ⟨lA1, _⟩ := lds q1 g51
      obtain ⟨w, q2, e77, o2, hr2⟩ := r77 (rq0.old o1) hl A
      rw [hfe] at e77 hr2
      have dk2 : DkOnly d D.bb q0 q2 := (o1.trans o2).mono (fun c _ hc => hc.elim)
      obtain ⟨g42, g52, z62, n02, dkh2, nx2⟩ := hkeep dk2
      have x2 := Old.dk (o1.trans o2) x0
      obtain ⟨g3, f1, f2, f3, f4, f5, f6, f7⟩ := dev_end' (h0 := h) (m4 := h.next) (m6 := m6) (rq0.old (o1.trans o2)) g42 z62 n02 (by omega) dkh2 (Nat.le_refl _) hdl hbl x2 rfl
      -- the two results
      have cmp : ∃ sa sb : ByteArray, w.cells = #[w] ∧ cvBS (.slice ra' rn' rc') q2 = some (.string sa, q2) ∧ cvBS w q2 = some (.string sb, q2) ∧ cvBS (.slice ra' rn' rc') g3 = some (.string sa, g3) ∧ cvBS w g3 = some (.string sb, g3) ∧ (sa.toList == sb.toList) = true := by
        have p7 : ∀ b, b = m6 → Plain q2 b := fun b hb => by subst hb; exact zero6_plain z62
        rcases hr1 with ⟨hf, hw⟩ | ⟨hf, hs⟩
        · rcases hr2 with ⟨_, rfl⟩ | ⟨hf', _⟩
          · rw [hw]
            exact ⟨strOf [], strOf [], rfl, cvBS_at (sliceBytes_nil _), cvBS_at (sliceBytes_nil _), cvBS_at (sliceBytes_nil _), cvBS_at (sliceBytes_nil _), by simp⟩
          · exact absurd hf' hf
        · rcases hr2 with ⟨hf', _⟩ | ⟨_, ow⟩
          · exact absurd hf hf'
          · obtain ⟨aw, cw, rfl, w1, _⟩ := ow.bytes
            have hs2 := Old.bytes o2 hs
            refine ⟨_, _, rfl, cvBS_at hs2, cvBS_at w1, cvBS_at (f7.bytesP p7 hs2), cvBS_at (f7.bytesP p7 w1), ?_⟩
            have he : D.read A = (S.img.drop (128 * A.toNat)).take 128 := by unfold Dk.read; rw [q.img, Nat.mul_comm]
            rw [he]; simp
      obtain ⟨sa, sb, hwc, cva, cvb, cva3, cvb3, hse⟩ := cmp
      have hc1 : chkR true (some (Value.string sa, g3)) (.string sa) = true := chk_at rfl (by simp [veq])
      have hc2 : chkR true (some (Value.string sb, g3)) (.string sb) = true := chk_at rfl (by simp [veq])
      have b1 : (((1 : Int)) == 1) = true := rfl
      have bf : (D.fault A == D.fault A) = true := beq_self_eq_true _
      simp -implicitDefEqProofs only [b1, thenV_some, lA, e20, xt20, xt21, pu_some, rf_ld g41 rfl (cells_hole _ _ _ _), lA1, e77, f1, bin28e, bf, bOf_bool, guardK_true, beq_self_eq_true, cva, cvb, bin_str_eql, hse, if_true, f2, cva3, cvb3, hc1, hc2, Bool.and_true]
      exact ⟨_, _, D, S, res_rf2 (rs := Try.f49.results.toList) (n := 122) (k := 6) (t := 7) results49 (by decide) (by decide) _ f3, f6, rfl, rfl, q, f4, f5⟩
    have k1' : (kind == 1) = false := beq_eq_false_iff_ne.2 k1
    simp -implicitDefEqProofs only [k1', thenV_some]
    by_cases k2 : kind = 2
    · subst k2
      have oA : Old q0 (q0.alloc []) := Kept.alloc _ _ _
      have hbs : bslR 1 (.int .u8 0) 0 [] q0 = some (.slice (some ⟨q0.next, 0, none⟩) 0 0, q0.alloc []) := rfl
      have nA : (q0.alloc []).next = q0.next + 1 := Heap.next_alloc ..
      have own0 : OwnB (q0.alloc []) q0.next (.slice (some ⟨q0.next, 0, none⟩) 0 0) [] := ⟨OwnC.empty _ (Nat.le_refl _), by simp⟩
      obtain ⟨w, q1, ea, ow, ka, _⟩ := append_ownB own0 (by rw [oA.n0]; omega) (by omega) (Old.bytes (o0.trans oA) hdat) (c := dc) (by simp; omega)
      rw [List.nil_append] at ow
      have o1 : Old q0 q1 := oA.also ka (fun e he hB => by
        have : baseOf (.slice (some ⟨q0.next, 0, none⟩) 0 0) = some q0.next := rfl
        rw [this] at hB
        cases hB
        omega)
      obtain ⟨aw, cw, rfl, w1, w2, _⟩ := ow.bytes
      have dk1 : DkOnly d D.bb q0 q1 := o1.mono (fun c _ hc => hc.elim)
      obtain ⟨g41, g51, z61, n01, _, nx1⟩ := hkeep dk1
      obtain ⟨lA1, _⟩ := lds q1 g51
      have hck : chkR true (some (Value.int .i64 A, q1)) (.int .i64 A) = true := chk_at rfl (by simp [veq])
      obtain ⟨e19, x2, b2, nn2, kk2⟩ := r19 (Old.dk o1 x0) A w1 w2
      generalize putDk q1 d (D.write A data).2 = q2 at *
      have dk2 : DkOnly d D.bb q0 q2 := dk1.trans (kk2.mono (fun c _ hc => hc))
      obtain ⟨g42, g52, z62, n02, dkh2, nx2⟩ := hkeep dk2
      obtain ⟨lA2, _, _, ld2⟩ := lds q2 g52
      have rq2 : IsRf q2 (fun c => c = d ∨ c = D.bb) (.agg (S.cells (.slice a S.img.length c)).toArray) S := (rq0.old o1).keep kk2 (fun b _ hb => hb)
      have hdat2 : sliceBytes da dn q2 = some data := kk2.bytes (Old.bytes (o0.trans o1) hdat) (fun y hy hn hB => hda y hy hn hB)
      obtain ⟨hw1, hw2⟩ := q.write hlen x.after A data
      obtain ⟨v3, q3, e70, r3, o3⟩ := r70 (cb := dc) rq2 (hF q2 (by omega)) hl q.kp A hdat2
      have x3 := Old.dk o3 x2
      have dk3 : DkOnly d D.bb q0 q3 := dk2.trans (o3.mono (fun c _ hc => hc.elim))
      obtain ⟨g43, g53, z63, n03, dkh3, nx3⟩ := hkeep dk3
      obtain ⟨g4', g5', f1, f2, f3, f4, f5, f6, f7⟩ := dev_end (h0 := h) r3 g43 z63 n03 (by omega) dkh3 (Nat.le_refl _) hdl hbl x3 b2
      rw [hw1] at e70
      have b1 : ((2 : Int) == 2) = true := rfl
      simp -implicitDefEqProofs only [b1, thenV_some, lA, ldt, hbs, (lds _ (Heap.get_alloc_some g50 [])).1, ea, lA1, hck, Bool.and_true, e19, pu_some, rf_ld g42 rfl (cells_hole _ _ _ _), lA2, ld2, e70, xt20, xt21, f1, f2, bin28e, beq_self_eq_true, f3]
      exact ⟨_, _, (D.write A data).2, (S.write A data).2, res_rf2 (rs := Try.f49.results.toList) (n := 122) (k := 6) (t := 7) results49 (by decide) (by decide) _ f4, f7, b2, nn2, hw2, f5, f6⟩
    have k2' : (kind == 2) = false := beq_eq_false_iff_ne.2 k2
    simp -implicitDefEqProofs only [k2', thenV_some]
    by_cases k3 : kind = 3
    · subst k3
      have hA' : A ≤ 9223372036854775807 := by
        simp only [inI64, Bool.and_eq_true, decide_eq_true_eq] at hA
        omega
      have like := D.arm_like A B
      have oka : Okd D (D.arm A B).2 := by
        unfold Dk.arm
        split
        · exact ⟨rfl, rfl, rfl, x.byte, x.after, x.keep⟩
        · split
          · exact ⟨rfl, rfl, rfl, x.byte, x.after, x.keep⟩
          · rename_i hb
            exact ⟨rfl, rfl, rfl, x.byte, by show 0 ≤ A ∧ A ≤ 9223372036854775807; omega, by show 0 ≤ B ∧ B ≤ 128; omega⟩
      have e48 : CD 48 [ptr d 0, .int .i64 A, .int .i64 B] q0 = some (.int .i64 (D.arm A B).1, putDk q0 d (D.arm A B).2) := CD_known (by
        rw [X48]
        unfold s48 ptr
        simp only [x0.of]
        rw [if_pos hA'])
      have x2 := x0.put oka
      have kk2 := putDk_only x0 oka.bb
      generalize putDk q0 d (D.arm A B).2 = q2 at *
      obtain ⟨g42, g52, z62, n02, dkh2, nx2⟩ := hkeep kk2
      obtain ⟨lA2, lB2, _, ld2⟩ := lds q2 g52
      have rq2 : IsRf q2 (fun c => c = d ∨ c = D.bb) (.agg (S.cells (.slice a S.img.length c)).toArray) S := rq0.keep kk2 (fun b _ hb => hb)
      obtain ⟨hw1, hw2⟩ := q.armT A B
      obtain ⟨v3, q3, e78, r3, o3⟩ := r78 rq2 A B
      have x3 := Old.dk o3 x2
      have dk3 : DkOnly d D.bb q0 q3 := kk2.trans (o3.mono (fun c _ hc => hc.elim))
      obtain ⟨g43, g53, z63, n03, dkh3, nx3⟩ := hkeep dk3
      obtain ⟨g4', g5', f1, f2, f3, f4, f5, f6, f7⟩ := dev_end (h0 := h) r3 g43 z63 n03 (by omega) dkh3 (Nat.le_refl _) hdl hbl x3 oka.bb
      rw [hw1] at e78
      have b1 : ((3 : Int) == 3) = true := rfl
      simp -implicitDefEqProofs only [b1, thenV_some, lA, lB, e48, pu_some, rf_ld g42 rfl (cells_hole _ _ _ _), lA2, lB2, e78, xt20, xt21, f1, f2, bin28e, beq_self_eq_true, f3]
      exact ⟨_, _, (D.arm A B).2, (S.arm A B).1, res_rf2 (rs := Try.f49.results.toList) (n := 122) (k := 6) (t := 7) results49 (by decide) (by decide) _ f4, f7, oka.bb, oka.n, hw2, f5, f6⟩
    have k3' : (kind == 3) = false := beq_eq_false_iff_ne.2 k3
    simp -implicitDefEqProofs only [k3', thenV_some]
    by_cases k4 : kind = 4
    · subst k4
      obtain ⟨e32, x2, kk2⟩ := r32 x0
      generalize putDk q0 d D.off = q2 at *
      obtain ⟨g42, g52, z62, n02, dkh2, nx2⟩ := hkeep kk2
      have rq2 : IsRf q2 (fun c => c = d ∨ c = D.bb) (.agg (S.cells (.slice a S.img.length c)).toArray) S := rq0.keep kk2 (fun b _ hb => hb)
      obtain ⟨v3, q3, e79, r3, o3⟩ := r79 rq2
      have x3 := Old.dk o3 x2
      have dk3 : DkOnly d D.bb q0 q3 := kk2.trans (o3.mono (fun c _ hc => hc.elim))
      obtain ⟨g43, g53, z63, n03, dkh3, nx3⟩ := hkeep dk3
      obtain ⟨g4', g5', f1, f2, f3, f4, f5, f6, f7⟩ := dev_end (h0 := h) r3 g43 z63 n03 (by omega) dkh3 (Nat.le_refl _) hdl hbl x3 D.off_like.bb
      have b1 : ((4 : Int) == 4) = true := rfl
      have bz : ((0 : Int) == 0) = true := rfl
      simp -implicitDefEqProofs only [b1, thenV_some, e32, pu_some, rf_ld g42 rfl (cells_hole _ _ _ _), e79, f1, f2, bin28e, bz, f3]
      exact ⟨_, _, D.off, S.off, res_rf2 (rs := Try.f49.results.toList) (n := 122) (k := 6) (t := 7) results49 (by decide) (by decide) _ f4, f7, D.off_like.bb, D.off_like.n, q.off, f5, f6⟩
    have k4' : (kind == 4) = false := beq_eq_false_iff_ne.2 k4
    simp -implicitDefEqProofs only [k4', thenV_some]
    by_cases k5 : kind = 5
    · subst k5
      obtain ⟨e33, x2, kk2⟩ := r33 x0
      generalize putDk q0 d D.on = q2 at *
      obtain ⟨g42, g52, z62, n02, dkh2, nx2⟩ := hkeep kk2
      have rq2 : IsRf q2 (fun c => c = d ∨ c = D.bb) (.agg (S.cells (.slice a S.img.length c)).toArray) S := rq0.keep kk2 (fun b _ hb => hb)
      obtain ⟨v3, q3, e80, r3, o3⟩ := r80 rq2
      have x3 := Old.dk o3 x2
      have dk3 : DkOnly d D.bb q0 q3 := kk2.trans (o3.mono (fun c _ hc => hc.elim))
      obtain ⟨g43, g53, z63, n03, dkh3, nx3⟩ := hkeep dk3
      obtain ⟨g4', g5', f1, f2, f3, f4, f5, f6, f7⟩ := dev_end (h0 := h) r3 g43 z63 n03 (by omega) dkh3 (Nat.le_refl _) hdl hbl x3 rfl
      have b1 : ((5 : Int) == 5) = true := rfl
      have bz : ((0 : Int) == 0) = true := rfl
      simp -implicitDefEqProofs only [b1, thenV_some, e33, pu_some, rf_ld g42 rfl (cells_hole _ _ _ _), e80, f1, f2, bin28e, bz, f3]
      exact ⟨_, _, D.on, S.on, res_rf2 (rs := Try.f49.results.toList) (n := 122) (k := 6) (t := 7) results49 (by decide) (by decide) _ f4, f7, rfl, rfl, q.on, f5, f6⟩
    have k5' : (kind == 5) = false := beq_eq_false_iff_ne.2 k5
    simp -implicitDefEqProofs only [k5', thenV_some]
    by_cases k6 : kind = 6
    · subst k6
      obtain ⟨q2, e81, x2, kk2⟩ := r81 x0 (by omega)
      obtain ⟨g42, g52, z62, n02, dkh2, nx2⟩ := hkeep kk2
      have rq2 : IsRf q2 (fun c => c = d ∨ c = D.bb) (.agg (S.cells (.slice a S.img.length c)).toArray) S := rq0.keep kk2 (fun b _ hb => hb)
      obtain ⟨v3, q3, e82, r3, o3⟩ := r82 rq2 hl
      have r3 := r3.mono (hF q2 (by omega))
      have x3 := Old.dk o3 x2
      have dk3 : DkOnly d D.bb q0 q3 := kk2.trans (o3.mono (fun c _ hc => hc.elim))
      obtain ⟨g43, g53, z63, n03, dkh3, nx3⟩ := hkeep dk3
      obtain ⟨g4', g5', f1, f2, f3, f4, f5, f6, f7⟩ := dev_end (h0 := h) r3 g43 z63 n03 (by omega) dkh3 (Nat.le_refl _) hdl hbl x3 rfl
      have b1 : ((6 : Int) == 6) = true := rfl
      have bz : ((0 : Int) == 0) = true := rfl
      simp -implicitDefEqProofs only [b1, thenV_some, e81, pu_some, rf_ld g42 rfl (cells_hole _ _ _ _), e82, f1, f2, bin28e, bz, f3]
      exact ⟨_, _, D.wipe, S.wipe, res_rf2 (rs := Try.f49.results.toList) (n := 122) (k := 6) (t := 7) results49 (by decide) (by decide) _ f4, f7, rfl, rfl, q.wipe, f5, f6⟩
    have k6' : (kind == 6) = false := beq_eq_false_iff_ne.2 k6
    simp -implicitDefEqProofs only [k6', thenV_some]
    by_cases k7 : kind = 7
    · subst k7
      obtain ⟨q2, e31, x2, kk2⟩ := r31 x0 A B hm
      have hb7 : (D.rot A B m).2.bb = D.bb := by unfold Dk.rot; split <;> rfl
      have hn7 : (D.rot A B m).2.n = D.n := by unfold Dk.rot; split <;> rfl
      obtain ⟨g42, g52, z62, n02, dkh2, nx2⟩ := hkeep kk2
      obtain ⟨lA2, lB2, lm2, ld2⟩ := lds q2 g52
      have rq2 : IsRf q2 (fun c => c = d ∨ c = D.bb) (.agg (S.cells (.slice a S.img.length c)).toArray) S := rq0.keep kk2 (fun b _ hb => hb)
      obtain ⟨hw1, hw2⟩ := q.rotT hlen A B m
      obtain ⟨v3, q3, e83, r3, o3⟩ := r83 rq2 (hF q2 (by omega)) hl A B hm
      have x3 := Old.dk o3 x2
      have dk3 : DkOnly d D.bb q0 q3 := kk2.trans (o3.mono (fun c _ hc => hc.elim))
      obtain ⟨g43, g53, z63, n03, dkh3, nx3⟩ := hkeep dk3
      obtain ⟨g4', g5', f1, f2, f3, f4, f5, f6, f7⟩ := dev_end (h0 := h) r3 g43 z63 n03 (by omega) dkh3 (Nat.le_refl _) hdl hbl x3 hb7
      rw [hw1] at e83
      have b1 : ((7 : Int) == 7) = true := rfl
      simp -implicitDefEqProofs only [b1, thenV_some, lA, lB, lm, e31, pu_some, rf_ld g42 rfl (cells_hole _ _ _ _), lA2, lB2, lm2, e83, xt20, xt21, f1, f2, bin28e, beq_self_eq_true, f3]
      exact ⟨_, _, (D.rot A B m).2, (S.rot A B m).2, res_rf2 (rs := Try.f49.results.toList) (n := 122) (k := 6) (t := 7) results49 (by decide) (by decide) _ f4, f7, hb7, hn7, hw2, f5, f6⟩
    have k7' : (kind == 7) = false := beq_eq_false_iff_ne.2 k7
    obtain ⟨g3, f1, f2, f3, f4, f5, f6, f7⟩ := dev_end' (h0 := h) (m4 := h.next) (m6 := m6) rq0 g40 z6 hn0 (by omega) dk0 (Nat.le_refl _) hdl hbl x0 rfl
    have bz : ((0 : Int) == 0) = true := rfl
    simp -implicitDefEqProofs only [k7', thenV_some, f1, bin28e, bz, pu_some, f2]
    exact ⟨_, _, D, S, res_rf2 (rs := Try.f49.results.toList) (n := 122) (k := 6) (t := 7) results49 (by decide) (by decide) _ f3, f6, rfl, rfl, q, f4, f5⟩
  obtain ⟨v', h', D', S', e, f⟩ := key
  exact ⟨v', h', D', S', CD_body is49 rfl ((t49_eq _ _ _ _ _).trans e), f⟩
end Go.Proofs.Ytcmfgmhadeeieaa

namespace Go.Proofs.Ytcmfgmhadeeieaa
open Go Go.Abs

theorem is12 : IsFn Try.prog 12 Try.f12 := ⟨by kernel_rfl, by kernel_rfl, by kernel_rfl, by kernel_rfl⟩
theorem OpV.old {h h' : Heap} {k : Blk} {o : Nat} {op : OpD} (x : OpV h k o op) (old : Old h h') : OpV h' k o op := by
  obtain ⟨dv, d1, d2, d3⟩ := x.data
  obtain ⟨rv, r1, r2, r3⟩ := x.recs
  exact ⟨x.kind, x.A, x.B, x.mask, ⟨dv, d1, d2, d3.old old⟩, ⟨rv, r1, r2, r3.old old⟩, x.wf⟩
theorem OpsV.old {h h' : Heap} {v : Value} {ops : List OpD} (x : OpsV h v ops) (old : Old h h') : OpsV h' v ops := by
  obtain ⟨a, n, c, rfl, h1, h2, h3⟩ := x
  refine ⟨a, n, c, rfl, h1, h2, fun i hi => ?_⟩
  obtain ⟨b, off, s, k, e1, e2, op, e3, e4⟩ := h3 i hi
  exact ⟨b, off, s, k, e1, Old.get old e2, op, e3, e4.old old⟩
/-- A call of a script, loaded. -/
theorem OpV.ld {h : Heap} {b o : Nat} {k : Blk} {op : OpD} (hk : h.get b = some k) (x : OpV h k o op) : ∃ da dn dc ra rn rc, (∀ h', Old h h' → ldN 6 (ptr b o) h' = some (.agg #[.int .i64 op.kind, .int .i64 op.A, .int .i64 op.B, u8 op.mask, .slice da dn dc, .slice ra rn rc], h')) ∧ sliceBytes da dn h = some op.data ∧ RecsV h (.slice ra rn rc) op.recs := by
  obtain ⟨dv, d1, d2, da, dn, dc, rfl, d3, _⟩ := x.data
  obtain ⟨rv, r1, r2, r3⟩ := x.recs
  have r3' := r3
  obtain ⟨ra, rn, rc, rfl, _⟩ := r3
  have l5 := (List.getElem?_eq_some_iff.1 r1).1
  have hcs : (k.drop o).take 6 = [.int .i64 op.kind, .int .i64 op.A, .int .i64 op.B, u8 op.mask, .slice da dn dc, .slice ra rn rc] := by
    apply List.ext_getElem?
    intro q
    rw [List.getElem?_take]
    by_cases hq : q < 6
    · rw [if_pos hq, List.getElem?_drop]
      match q, hq with
      | 0, _ => exact x.kind
      | 1, _ => exact x.A
      | 2, _ => exact x.B
      | 3, _ => exact x.mask
      | 4, _ => exact d1
      | 5, _ => exact r1
    · rw [if_neg hq, List.getElem?_eq_none (by simp; omega)]
  refine ⟨da, dn, dc, ra, rn, rc, fun h' old => ?_, d3, r3'⟩
  rw [ldN_at (Old.get old hk) (by omega) (by rw [hcs]; rfl), hcs]
theorem OpsV.at {h : Heap} {v : Value} {ops : List OpD} (x : OpsV h v ops) {i : Nat} (hi : i < ops.length) : ∃ b o da dn dc ra rn rc op, ops[i]? = some op ∧ idxS 6 v (i64n i) = some (ptr b o) ∧ (∀ h', Old h h' → ldN 6 (ptr b o) h' = some (.agg #[.int .i64 op.kind, .int .i64 op.A, .int .i64 op.B, u8 op.mask, .slice da dn dc, .slice ra rn rc], h')) ∧ sliceBytes da dn h = some op.data ∧ RecsV h (.slice ra rn rc) op.recs ∧ op.mask < 256 ∧ inI64 op.A = true ∧ inI64 op.B = true := by
  obtain ⟨a, n, c, rfl, h1, h2, h3⟩ := x
  obtain ⟨b, off, s, k, rfl, e2, op, e3, e4⟩ := h3 i (by omega)
  obtain ⟨da, dn, dc, ra, rn, rc, e5, e6, e7⟩ := OpV.ld e2 e4
  refine ⟨b, off + i * 6, da, dn, dc, ra, rn, rc, op, e3, ?_, e5, e6, e7, e4.wf.2.2.2, e4.wf.2.1, e4.wf.2.2.1⟩
  unfold idxS
  simp only [i64n]
  rw [if_pos (by omega), Int.toNat_natCast]
theorem OpsV.len {h : Heap} {v : Value} {ops : List OpD} (x : OpsV h v ops) : lenL v = some (i64n ops.length) := by
  obtain ⟨a, n, c, rfl, rfl, _⟩ := x
  rfl
/-- What is so of a script that is not heavy. -/
theorem light {n : Int} {ops : List OpD} (h : heavyB n ops = false) : ¬ (64 < n ∧ n ≤ 4096) ∧ ops.length ≤ 100 ∧ ∀ op ∈ ops, op.recs.length ≤ 40 ∧ op.data.length ≤ 21000 ∧ ∀ r ∈ op.recs, r.length ≤ 21000 := by
  unfold heavyB at h
  simp only [Bool.or_eq_false_iff, Bool.and_eq_false_iff, decide_eq_false_iff_not] at h
  obtain ⟨⟨h1, h2⟩, h3⟩ := h
  refine ⟨fun ⟨a, b⟩ => h1.elim (fun h => h a) (fun h => h b), by omega, fun op hop => ?_⟩
  have := List.any_eq_false.1 h3 op hop
  unfold heavyOp at this
  simp only [Bool.or_eq_true, not_or, decide_eq_true_eq, List.any_eq_true, not_exists, not_and] at this
  exact ⟨by omega, by omega, fun r hr => by have := this.2 r hr; omega⟩

theorem str_ne' (l : List Nat) : (!((strOf l).toList == (strOf l).toList)) = false := by simp
section
variable {h0 : Heap} {v : Value} {ops : List OpD} (O : OpsV h0 v ops) (hlight : ∀ op ∈ ops, op.data.length ≤ 21000) (h100 : ops.length ≤ 100) {d bb m7 n : Nat} (h4 : 4 ≤ n) (hn : n ≤ 4096) (hd : h0.next ≤ d) (hb : h0.next ≤ bb) (hm : h0.next ≤ m7) (hmd : m7 ≠ d) (hmb : m7 ≠ bb)
def devInv (h0 : Heap) (v : Value) (ops : List OpD) (d bb m7 n : Nat) (k : Nat) (y : Nat → Value) (g : Heap) : Prop :=
  ∃ i D S a c, i + k = ops.length ∧ y 9 = i64n i ∧ y 1 = v ∧ y 5 = ptr d 0 ∧ y 7 = ptr m7 0 ∧ IsDk g d D ∧ D.n = n ∧ D.bb = bb ∧ Eqd D S ∧ g.get m7 = some (S.cells (.slice a S.img.length c)) ∧ IsRf g (fun c => c = d ∨ c = bb) (.agg (S.cells (.slice a S.img.length c)).toArray) S ∧ Old h0 g
def devFin (ex : Ex) (_ : Nat → Value) (_ : Heap) : Prop := ex = .exit 0
include O hlight h100 h4 hn hd hb hm hmd hmb
set_option maxRecDepth 100000 in
theorem dev_round : ∀ k y g, devInv h0 v ops d bb m7 n k y g → Rnd 80 (devInv h0 v ops d bb m7 n) devFin k (t12l12_111111010 CD y g) := by
  rintro k y g ⟨i, D, S, a, c, hik, y9, y1, y5, y7, x, hDn, hDb, q, g7, r, old⟩
  have hll := O.len
  unfold t12l12_111111010
  simp -implicitDefEqProofs only [y9, y1, thenV_some, hll, pu_some, lss3]
  by_cases hi : i < ops.length
  · obtain ⟨ob, oo, da, dn, dc, ra, rn, rc, op, e1, e2, e3, e4, _, e6, e7, _⟩ := O.at hi
    have e3 := e3 _ old
    have hdl : ∀ y, da = some y → 0 < dn → ¬ (y.block = d ∨ y.block = D.bb) := by
      intro y hy hpos
      subst hy
      obtain ⟨b, off, s, e, hlt⟩ := sliceBytes_lt e4 hpos
      cases e
      show ¬ (b = d ∨ b = D.bb)
      omega
    have hdata := hlight op (List.mem_of_getElem? e1)
    have hdn := (sliceBytes_spec e4).1
    obtain ⟨v', g1, D', S', e49, x1, b1, n1, q1, r1, k1⟩ := r49 (kind := op.kind) (B := op.B) (ra := ra) (rn := rn) (rc := rc) (dc := dc) x (by omega) (by omega) q (by rw [hDb]; exact r) (Old.bytes old e4) hdl (by omega) e6 e7
    have ld7 := rf_ld g7 rfl (cells_hole _ _ _ _)
    have g71 := k1.getE g7 (by omega)
    have hn7 : g1.n0 ≤ m7 := by rw [k1.n0, old.n0]; have := h0.n0_le_next; omega
    have r1' := r1
    obtain ⟨a', c', rfl, t1, t2, t3⟩ := r1
    have k2 : Kept g1 (g1.set m7 (S'.cells (.slice a' S'.img.length c'))) (fun c => c = m7) := Kept.set hn7 g71 (.inr rfl)
    have p2 : ∀ b, b = m7 → Plain g1 b := fun b hb => by subst hb; exact cells_plain g71
    have st7 := rf_st (k' := S'.cells (.slice a' S'.img.length c')) g71 hn7 rfl rfl (cells_one _ _ _ _)
    have g72 : (g1.set m7 (S'.cells (.slice a' S'.img.length c'))).get m7 = some (S'.cells (.slice a' S'.img.length c')) := Heap.get_set_same hn7 g71 _
    have r2 := r1'.keepP k2 p2
    have r2c := r2
    have x2 := x1.mono k2.n0 (k2.get d x1.lt (by omega)) (k2.get D'.bb x1.blt (by omega))
    have o2 : Old h0 (g1.set m7 (S'.cells (.slice a' S'.img.length c'))) := (old.also k1 (fun c hc e => by omega)).also k2 (fun c hc e => by omega)
    generalize g1.set m7 (S'.cells (.slice a' S'.img.length c')) = g2 at *
    have e36 : CD 36 [ptr d 0] g2 = some (.bool D'.down, g2) := CD_known (by rw [X36]; exact s36_at x2)
    have l1 : ld1 (ptr m7 1) g2 = some (.bool S'.down, g2) := ld1_at g72 rfl
    have e50 : CD 50 [ptr d 0] g2 = some (i64n D'.n, g2) := CD_known (by rw [X50]; exact s50_at x2)
    have ld72 := rf_ld g72 rfl (cells_hole _ _ _ _)
    have hlen' := x2.len
    obtain ⟨g3, e51, o3⟩ := r51 r2 (by rw [q1.img]; omega)
    have hSn := q1.n hlen'
    unfold Rf.n at hSn
    rw [hSn] at e51
    have x3 := Old.dk o3 x2
    obtain ⟨a4, c4, g4, e25, s4, _, _, o4⟩ := r25 x3
    have cv4 := cvBS_at (c := c4) s4
    have g73 := Old.get o3 g72
    have g74 := Old.get o4 g73
    have l03 : ld1 (ptr m7 0) g3 = some (.slice a' S'.img.length c', g3) := ld1_at g73 rfl
    have l04 : ld1 (ptr m7 0) g4 = some (.slice a' S'.img.length c', g4) := ld1_at g74 rfl
    obtain ⟨a5, c5, he, t1', _, _⟩ := r2
    have hcells := congrArg Value.cells he
    have hsl : (.slice a' S'.img.length c' : Value) = .slice a5 S'.img.length c5 := by
      injection he with he
      have := congrArg (fun (z : Array Value) => z[0]?) he
      simpa [Rf.cells] using this
    injection hsl with hs1 hs2 hs3
    subst hs1 hs3
    have cv03 := cvBS_at (c := c') (Old.bytes o3 t1')
    have cv04 := cvBS_at (c := c') (Old.bytes (o3.trans o4) t1')
    have hck1 : chkR true (some (Value.bool S'.down, g2)) (.bool S'.down) = true := chk_at rfl (by simp [veq])
    have hck2 : chkR true (some (Value.agg (S'.cells (.slice a' S'.img.length c')).toArray, g2)) (.agg (S'.cells (.slice a' S'.img.length c')).toArray) = true := chk_at rfl (by simp [veq, veqL, Rf.cells])
    have hck3 : chkR true (some (Value.slice a' S'.img.length c', g3)) (.slice a' S'.img.length c') = true := chk_at rfl (by simp [veq])
    have hck4 : chkR true (some (Value.string (strOf S'.img), g3)) (.string (strOf S'.img)) = true := chk_at rfl (by simp [veq])
    have himg : (strOf D'.img) = strOf S'.img := by rw [q1.img]
    rw [himg] at cv4
    have hdw : (D'.down != S'.down) = false := by rw [q1.down]; simp
    simp -implicitDefEqProofs only [decide_eq_true hi, thenV_some, y5, y7, ld7, e2, e3, pu_some, e49, xt20, xt21, st7, unA_not, Bool.not_true, bOf_bool, beq_self_eq_true, guardK_true, e36, addP_ptr, Nat.zero_add, Nat.add_zero, l1, bin4n, hdw, Bool.false_eq_true, if_false, e50, ld72, e51, bin3n, e25, cv4, l04, cv04, bin_str_neq, str_ne', hck1, hck2, l03, hck3, cv03, hck4, Bool.and_true, y9, add31 (show i + 1 ≤ 9223372036854775807 by omega)]
    refine Rnd.next (k - 1) (by omega) ⟨i + 1, D', S', a', c', by omega, rfl, y1, y5, y7, Old.dk o4 x3, n1.trans hDn, b1.trans hDb, q1, g74, ?_, (o2.trans o3).trans o4⟩
    rw [← hDb]
    exact r2c.old (o3.trans o4)
  · simp -implicitDefEqProofs only [decide_eq_false hi]
    exact Rnd.out 0 rfl
end
theorem eqd_new (h : Heap) (n : Nat) : Eqd (Dk.new h n) (Rf.new n) := ⟨rfl, rfl, rfl, fun h => (by cases h), fun h => (by cases h), rfl, ⟨Int.le_refl 0, by show (0 : Int) ≤ 128; omega⟩⟩
set_option maxRecDepth 100000 in
theorem dev12 (a : Int) {h : Heap} {v : Value} {ops : List OpD} (O : OpsV h v ops) : ∃ h', CD 12 [.int .i64 a, v] h = some (.bool true, h') := by
  have e17 : CD 17 [.int .i64 a, v] h = some (.bool (heavyB a ops), h) := CD_known (by rw [X17]; exact s17_at a O)
  have key : ∃ h', t12 CD (.int .i64 a) v h = some (.bool true, h') := by
    unfold t12
    cases hh : heavyB a ops with
    | true =>
      rw [hh] at e17
      simp -implicitDefEqProofs only [thenV_some, e17, r14]
      exact ⟨_, rfl⟩
    | false =>
      rw [hh] at e17
      obtain ⟨hl1, hl2, hl3⟩ := light hh
      have hbad : bin Try.prog .neq 28 (.int .i64 2) (.int .i64 2) = some (.bool false) := by kernel_rfl
      by_cases ha : 4 ≤ a ∧ a ≤ 4096
      · obtain ⟨n, rfl⟩ : ∃ n : Nat, a = n := ⟨a.toNat, by omega⟩
        obtain ⟨e18, x1, o1⟩ := r18 h (n := n) (by omega) (by omega)
        have hn1 : (newDk h n).next = h.next + 2 := rfl
        have hbb : (Dk.new h n).bb = h.next := rfl
        obtain ⟨rv, g2, e35, r2, o2⟩ := r35 (newDk h n) (n := n) (by omega) (by omega)
        have q := eqd_new h n
        have hDn : (Dk.new h n).n = n := rfl
        have x2 := Old.dk o2 x1
        have o02 : Old h g2 := o1.trans o2
        have hng2 := o2.next
        generalize newDk h n = g1 at *
        generalize Dk.new h n = D at *
        have r2 := r2.mono (G := fun c => c = h.next + 1 ∨ c = h.next) (fun b hb => by show b < g1.next; omega)
        obtain ⟨ra, rc, rfl, t1, t2, t3⟩ := r2
        have e7 : newC [(.slice none 0 0), (.bool false), (.bool false), (.int .i64 0), (.int .i64 0), (.int .i64 0)] g2 = some (ptr g2.next 0, g2.alloc zero6) := rfl
        have z7 : (g2.alloc zero6).get g2.next = some zero6 := by rw [Heap.get_alloc, if_pos rfl]
        have o3 : Old h (g2.alloc zero6) := o02.trans (Kept.alloc _ _ _)
        have o23 : Old g2 (g2.alloc zero6) := Kept.alloc _ _ _
        generalize g2.alloc zero6 = g3 at *
        have hn3 : g3.n0 ≤ g2.next := by rw [o3.n0]; have := h.n0_le_next; omega
        have st7 := rf_st (k' := (Rf.new n).cells (.slice ra (Rf.new n).img.length rc)) z7 hn3 rfl rfl (cells_one _ _ _ _)
        have g74 : (g3.set g2.next ((Rf.new n).cells (.slice ra (Rf.new n).img.length rc))).get g2.next = some ((Rf.new n).cells (.slice ra (Rf.new n).img.length rc)) := Heap.get_set_same hn3 z7 _
        have k4 : Kept g3 (g3.set g2.next ((Rf.new n).cells (.slice ra (Rf.new n).img.length rc))) (fun c => c = g2.next) := Kept.set hn3 z7 (.inr rfl)
        have o24 : Old g2 (g3.set g2.next ((Rf.new n).cells (.slice ra (Rf.new n).img.length rc))) := o23.also k4 (fun c hc e => by omega)
        generalize g3.set g2.next ((Rf.new n).cells (.slice ra (Rf.new n).img.length rc)) = g4 at *
        have o4 : Old h g4 := o02.trans o24
        have x4 := Old.dk o24 x2
        have run : ∀ Z : Nat → Value, Z 1 = v → Z 5 = ptr (h.next + 1) 0 → Z 7 = ptr g2.next 0 → Z 9 = i64n 0 → ∃ h', endL (iter (codeA Try.prog CD (partOf Try.f12 [1, 1, 1, 1, 1, 1, 0, 1, 0, 0])) rounds (mkF 80 Z) g4) (resultsA Try.prog Try.f12.results.toList) (b12_14 CD) = some (.bool true, h') := by
          intro Z z1 z5 z7' z9
          refine endL_fin (Q := fun o : Out => ∃ h', o = some (Value.bool true, h'))
            (loop_fin (t12l12_111111010_eq CD) (dev_round O (fun op hop => (hl3 op hop).2.1) hl2 (d := h.next + 1) (bb := h.next) (m7 := g2.next) (n := n) (by omega) (by omega) (by omega) (Nat.le_refl _) (by omega) (by omega) (by omega)) ops.length (by have : rounds = 18446744073709551616 := rfl; omega)
              ⟨0, D, Rf.new n, ra, rc, Nat.zero_add _, z9, z1, z5, z7', x4, hDn, hbb, q, g74, ⟨ra, rc, rfl, Old.bytes o24 t1, t2, t3⟩, o4⟩) ?_
          rintro ex z g rfl
          simp -implicitDefEqProofs only [endL_exit, b12_14, if_true, t12k12_12_eq]
          unfold t12k12_12
          simp -implicitDefEqProofs only [r14, thenV_some]
          exact ⟨_, rfl⟩
        simp -implicitDefEqProofs only [thenV_some, e17, e18, xt20, xt21, pu_some, e35, e7, st7, bin28n, bne_self_eq_false, bOf_bool, beq_self_eq_true, guardK_true, nil27e, bin28n0, bin4n, Bool.false_eq_true, if_false]
        exact run _ rfl rfl rfl rfl
      · obtain ⟨g2, e35, o2⟩ := r35_bad h ha
        have e18 : CD 18 [.int .i64 a] h = some (.tuple #[.pointer none, .int .i64 2], h) := CD_known (by
          rw [X18]
          unfold s18
          simp only
          rw [if_neg ha])
        have e7 : newC [(.slice none 0 0), (.bool false), (.bool false), (.int .i64 0), (.int .i64 0), (.int .i64 0)] g2 = some (ptr g2.next 0, g2.alloc zero6) := rfl
        have z7 : (g2.alloc zero6).get g2.next = some zero6 := by rw [Heap.get_alloc, if_pos rfl]
        have hn3 : (g2.alloc zero6).n0 ≤ g2.next := g2.n0_le_next
        have st7 := rf_st (k' := zero6) z7 hn3 rfl rfl rfl
        have t2 : ((2 : Int) != 0) = true := rfl
        simp -implicitDefEqProofs only [thenV_some, e17, e18, xt20, xt21, pu_some, e35, e7, st7, hbad, bOf_bool, beq_self_eq_true, guardK_true, nil27e', bin28n0, t2, bin4n, bne_self_eq_false, Bool.false_eq_true, if_false, r14]
        exact ⟨_, rfl⟩
  obtain ⟨h', e⟩ := key
  exact ⟨h', CD_body is12 rfl ((t12_eq _ _ _ _).trans e)⟩
end Go.Proofs.Ytcmfgmhadeeieaa

