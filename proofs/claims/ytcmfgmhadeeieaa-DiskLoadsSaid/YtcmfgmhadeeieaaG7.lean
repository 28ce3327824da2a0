/-
  The numbers of blocks of a record: what both functions answer; the small disk's known run.
  Conditions: as each theorem states.
  The disk in the heap: what stands where, and what the small functions of the device answer.
  Conditions: as each theorem states.
  The device: loss and return of power, Arm, Write, Read.
  Conditions: as each theorem states.
  The device: Down, Blocks, Arm, Write, Read.
  Conditions: as each theorem states.
  The device: Write, Read, NewDisk, Image.
  Conditions: as each theorem states.
  The device: NewDisk, Image.
  Conditions: as each theorem states.
  Strings out of bytes; bytes stored one by one; booleans compared.
  Conditions: as each theorem states.
  DiskTorn: its loops.
  Conditions: as each theorem states.
  DiskTorn: its round.
  Conditions: as each theorem states.
  DiskTorn: what it answers.
  Conditions: as each theorem states.
  Arguments that lead into memory: slices of bytes, lists of records, lists of calls, as the machine sees them.
  Conditions: the argument can be read as data.
  heavy: whether a script is more than the statements look at.
  Conditions: the script can be read.
  DiskReadsBack: the rows that the statement keeps beside the disk.
  Conditions: as each theorem states.
  DiskReadsBack: its loops.
  Conditions: as each theorem states.
  DiskReadsBack: every block is read and compared.
  Conditions: as each theorem states.
  DiskReadsBack: helpers: a block laid and read; a row of the list set anew; bytes appended to nothing.
  Conditions: as each theorem states.
  DiskReadsBack: its round.
  Conditions: as each theorem states.
  DiskReadsBack: what it answers.
  Conditions: as each theorem states.
  DiskReadsBack: its contract.
  Conditions: as each theorem states.
  The journal: one evaluator of the seat's calls; bytes that are copied, and the Reader.
  Conditions: as each theorem states.
  The journal: numbers read, the checksum of a block, superblocks.
  Conditions: as each theorem states.
  The journal: log blocks.
  Conditions: as each theorem states.
-/
import Derived.Test.YtcmfgmhadeeieaaG6
namespace Go.Proofs.Ytcmfgmhadeeieaa
open Go Go.Abs

def inI64 (n : Int) : Bool := decide (-9223372036854775808 ≤ n) && decide (n ≤ 9223372036854775807)
def cost (n : Int) : Int := if n ≤ 106 then 1 else (n - 1) / 106 + 1
def sCost : List Value → Heap → Out
  | [.int .i64 n], h => if inI64 n then some (.int .i64 (cost n), h) else none
  | _, _ => none
theorem sCost_inv {args : List Value} {h h' : Heap} {v : Value} (e : sCost args h = some (v, h')) : ∃ n, args = [.int .i64 n] ∧ inI64 n = true ∧ v = .int .i64 (cost n) ∧ h' = h := by
  unfold sCost at e
  split at e
  · split at e
    · cases e; exact ⟨_, rfl, by assumption, rfl, rfl⟩
    · cases e
  · cases e

theorem t15_is (C : CallF) (n : Int) (h : Heap) (hn : inI64 n = true) : t15 C (.int .i64 n) h = some (.int .i64 (cost n), h) := by
  simp only [inI64, Bool.and_eq_true, decide_eq_true_eq] at hn
  unfold t15 cost
  simp -implicitDefEqProofs only [bin_leq, pu_some, thenV_some]
  by_cases h1 : n ≤ 106
  · simp -implicitDefEqProofs only [h1, decide_true, if_true, thenV_some]
  · simp -implicitDefEqProofs only [h1, decide_false, if_false, bin_sub, pu_some, thenV_some, bin_quo, bin_add, ne_eq, Int.reduceEq, not_false_eq_true, not_true]
    rw [wrap_i64 (x := n - 1) (by omega) (by omega), Int.tdiv_eq_ediv_of_nonneg (by omega), wrap_i64 (x := (n-1)/106) (by omega) (by omega), wrap_i64 (by omega) (by omega)]
theorem is15 : IsFn Try.prog 15 Try.f15 := ⟨by kernel_rfl, by kernel_rfl, by kernel_rfl, by kernel_rfl⟩
theorem c15 : Contract Try.prog 15 sCost := by
  refine .quiet (callL_sound [] (by simp)) mixed is15 ?_ ?_
  · intro args h v h' e
    obtain ⟨n, rfl, hn, rfl, rfl⟩ := sCost_inv e
    exact ⟨rfl, fun _ => rfl⟩
  · intro args h v h' e _ _
    obtain ⟨n, rfl, hn, rfl, rfl⟩ := sCost_inv e
    exact ⟨h', (t15_eq _ _ _).trans (t15_is _ _ _ hn), fun _ _ h => h⟩

theorem t16_is (C : CallF) (n : Int) (h : Heap) (hn : inI64 n = true) : t16 C (.int .i64 n) h = some (.int .i64 (cost n), h) := by
  simp only [inI64, Bool.and_eq_true, decide_eq_true_eq] at hn
  unfold t16
  simp -implicitDefEqProofs only [thenV_some]
  obtain ⟨ex, x', h', h1, rfl, rfl, h2⟩ := loop_inv (t16l16_11010_eq C)
    (Inv := fun k y h1 => h = h1 ∧ ∃ s c, y 4 = .int .i64 s ∧ y 3 = .int .i64 c ∧ s ≤ n ∧ -9223372036854775808 ≤ s ∧ 1 ≤ c ∧ c + cost s = cost n + 1 ∧ (k : Int) = cost s - 1)
    (fin := fun ex y h1 => ex = .exit 0 ∧ h1 = h ∧ y 3 = .int .i64 (cost n))
    (by
      rintro k y _ ⟨rfl, s, c, i4, i3, hs1, hs2, hc1, hc2, hk⟩
      unfold t16l16_11010
      unfold cost at *
      simp -implicitDefEqProofs only [i4, i3, thenV_some, bin_gtr, pu_some]
      by_cases hz : s > 106
      · simp -implicitDefEqProofs only [hz, decide_true, thenV_some, bin_add, bin_sub, pu_some]
        refine ⟨_, _, _, rfl, .inl ⟨rfl, k - 1, ?_, rfl, s - 106, c + 1, ?_, ?_, by omega, by omega, by omega, ?_, ?_⟩⟩
        · omega
        · simp only [up_cons, up_nil, Nat.reduceEqDiff, if_false, if_true]
          rw [wrap_i64 (by omega) (by omega)]
        · simp only [up_cons, up_nil, Nat.reduceEqDiff, if_false, if_true]
          rw [wrap_i64 (by omega) (by omega)]
        · omega
        · omega
      · simp -implicitDefEqProofs only [hz, decide_false, thenV_some]
        refine ⟨_, _, _, rfl, .inr ⟨by simp, rfl, rfl, ?_⟩⟩
        simp only [up_cons, up_nil, Nat.reduceEqDiff, if_false, i3]
        congr 1
        omega)
    (k := (cost n - 1).toNat) (x := up (bs [.int .i64 n]) [(2, .int .i64 0), (3, .int .i64 1), (4, .int .i64 n), (5, .int .i64 n)]) (h := h)
    (by have : rounds = 18446744073709551616 := rfl; unfold cost; omega)
    ⟨rfl, n, 1, rfl, rfl, by omega, by omega, by omega, by omega, by unfold cost; omega⟩
  rw [h1]
  simp -implicitDefEqProofs only [endL_exit, b16_4, if_true, t16k16_2_eq]
  unfold t16k16_2
  simp -implicitDefEqProofs only [h2, thenV_some]
theorem is16 : IsFn Try.prog 16 Try.f16 := ⟨by kernel_rfl, by kernel_rfl, by kernel_rfl, by kernel_rfl⟩
theorem c16 : Contract Try.prog 16 sCost := by
  refine .quiet (callL_sound [] (by simp)) mixed is16 ?_ ?_
  · intro args h v h' e
    obtain ⟨n, rfl, hn, rfl, rfl⟩ := sCost_inv e
    exact ⟨rfl, fun _ => rfl⟩
  · intro args h v h' e _ _
    obtain ⟨n, rfl, hn, rfl, rfl⟩ := sCost_inv e
    exact ⟨h', (t16_eq _ _ _).trans (t16_is _ _ _ hn), fun _ _ h => h⟩

/-- The known run, by the kernel. -/
noncomputable def okF (f : FuncId) : Bool := match Try.prog.funcs[f]? with | some fn => fnOk Try.prog fn | none => false
theorem okF_ok : ∀ f fn, okF f = true → Try.prog.funcs[f]? = some fn → fnOk Try.prog fn = true := by
  intro f fn h1 h2
  unfold okF at h1
  rw [h2] at h1; exact h1
noncomputable def runX : CallF := callF Try.prog okF (callL [(95, s95)]) (fun f => Nat.beq f 95) 100000 20
theorem runX_sound : CSound Try.prog runX :=
  callF_sound (callL_sound _ (by intro p hp; rcases List.mem_singleton.1 hp with rfl; exact c95)) (by decide) mixed okF_ok 20
noncomputable def isTrue (o : Out) : Bool := match o with | some (.bool true, _) => true | _ => false
theorem isTrue_eq {o : Out} (h : isTrue o = true) : ∃ h1, o = some (.bool true, h1) := by
  unfold isTrue at h
  split at h
  · exact ⟨_, rfl⟩
  · cases h
theorem known_runs : isTrue (runX 14 [] (bare Try.prog)) = true := by kernel_rfl
def s14 : List Value → Heap → Out := fun args h => match args with | [] => some (.bool true, h) | _ => none
theorem c14 : Contract Try.prog 14 s14 := Contract.closed runX_sound rfl (isTrue_eq known_runs)

def s3 : List Value → Heap → Out
  | [.int .i64 n], h => if inI64 n then some (.bool true, h) else none
  | _, _ => none
theorem s3_inv {args : List Value} {h h' : Heap} {v : Value} (e : s3 args h = some (v, h')) : ∃ n, args = [.int .i64 n] ∧ inI64 n = true ∧ v = .bool true ∧ h' = h := by
  unfold s3 at e
  split at e
  · split at e
    · cases e; exact ⟨_, rfl, by assumption, rfl, rfl⟩
    · cases e
  · cases e
abbrev C3 : CallF := callL [(14, s14), (15, sCost), (16, sCost)]
theorem t3_is (n : Int) (h : Heap) (hn : inI64 n = true) : t3 C3 (.int .i64 n) h = some (.bool true, h) := by
  have h14 : C3 14 [] h = some (.bool true, h) := rfl
  have h15 : C3 15 [.int .i64 n] h = some (.int .i64 (cost n), h) := by simp [C3, callL, sCost, hn]
  have h16 : C3 16 [.int .i64 n] h = some (.int .i64 (cost n), h) := by simp [C3, callL, sCost, hn]
  simp only [inI64, Bool.and_eq_true, decide_eq_true_eq] at hn
  unfold t3
  generalize C3 = C at *
  simp -implicitDefEqProofs only [bin_gtr, pu_some, thenV_some]
  by_cases h1 : n > 16777216
  · simp -implicitDefEqProofs only [h1, decide_true, h14, thenV_some]
  · have hc : cost n ≥ 1 := by unfold cost; omega
    simp -implicitDefEqProofs only [h1, decide_false, h15, thenV_some, bin_geq, pu_some, hc, decide_true, bOf_bool, beq_self_eq_true, guardK_true, h16, bin_eql, if_true, bin_leq]
    by_cases h2 : n ≤ 106
    · simp -implicitDefEqProofs only [h2, decide_true, thenV_some, bOf_bool, show (some true == some false) = false from rfl, guardK_false, bOf_undef, show ((none : Option Bool) == some true) = false from rfl, if_true, beq_self_eq_true, guardK_true, h14]
    · have hcv : cost n = (n - 1) / 106 + 1 := by unfold cost; rw [if_neg h2]
      have w1 : IntKind.wrap .i64 (106 * cost n) = 106 * cost n := wrap_i64 (by omega) (by omega)
      have w2 : IntKind.wrap .i64 (cost n - 1) = cost n - 1 := wrap_i64 (by omega) (by omega)
      have w3 : IntKind.wrap .i64 (106 * (cost n - 1)) = 106 * (cost n - 1) := wrap_i64 (by omega) (by omega)
      have g1 : 106 * cost n ≥ n := by omega
      have g2 : 106 * (cost n - 1) < n := by omega
      simp -implicitDefEqProofs only [h2, decide_false, thenV_some, bOf_bool, beq_self_eq_true, guardK_true, bin_mul, bin_geq, bin_sub, bin_lss, pu_some, w1, w2, w3, g1, g2, decide_true, if_true, Bool.false_eq_true, if_false, h14]
theorem is3 : IsFn Try.prog 3 Try.f3 := ⟨by kernel_rfl, by kernel_rfl, by kernel_rfl, by kernel_rfl⟩
theorem C3_sound : CSound Try.prog C3 := callL_sound _ (by
  intro p hp
  simp only [List.mem_cons, List.not_mem_nil, or_false] at hp
  rcases hp with rfl | rfl | rfl
  · exact c14
  · exact c15
  · exact c16)
theorem c3 : Contract Try.prog 3 s3 := by
  refine .quiet C3_sound mixed is3 ?_ ?_
  · intro args h v h' e
    obtain ⟨n, rfl, hn, rfl, rfl⟩ := s3_inv e
    exact ⟨rfl, fun _ => rfl⟩
  · intro args h v h' e _ _
    obtain ⟨n, rfl, hn, rfl, rfl⟩ := s3_inv e
    exact ⟨h', (t3_eq _ _ _).trans (t3_is _ _ hn), fun _ _ h => h⟩
end Go.Proofs.Ytcmfgmhadeeieaa

namespace Go.Proofs.Ytcmfgmhadeeieaa
open Go Go.Abs

/-- A disk. -/
structure Dk where
  bb : Nat
  n : Nat
  img : List Nat
  down : Bool
  armed : Bool
  after : Int
  keep : Int
  turn : Int

def Dk.hdr (D : Dk) : Blk := [.slice (some ⟨D.bb, 0, none⟩) D.n D.n, .bool D.down, .bool D.armed, .int .i64 D.after, .int .i64 D.keep, .int .i64 D.turn]

structure IsDk (h : Heap) (d : Nat) (D : Dk) : Prop where
  hdr : h.get d = some D.hdr
  img : h.get D.bb = some (D.img.map u8)
  len : D.img.length = 128 * D.n
  byte : ∀ x ∈ D.img, x < 256
  dn : h.n0 ≤ d
  bn : h.n0 ≤ D.bb
  ne : d ≠ D.bb
  small : D.n ≤ 4096
  after : 0 ≤ D.after ∧ D.after ≤ 9223372036854775807
  keep : 0 ≤ D.keep ∧ D.keep ≤ 128

theorem u8_inj : ∀ {l m : List Nat}, l.map u8 = m.map u8 → l = m
  | [], [], _ => rfl
  | [], _ :: _, h => by simp at h
  | _ :: _, [], h => by simp at h
  | a :: l, b :: m, h => by
    simp only [List.map_cons, List.cons.injEq, Value.int.injEq, true_and, Int.natCast_inj] at h
    rw [h.1, u8_inj h.2]

theorem IsDk.uniq {h : Heap} {d : Nat} {D E : Dk} (a : IsDk h d D) (b : IsDk h d E) : D = E := by
  have h1 := a.hdr.symm.trans b.hdr
  cases D with
  | mk bb n img down armed after keep turn =>
  cases E with
  | mk bb' n' img' down' armed' after' keep' turn' =>
    simp only [Dk.hdr, Option.some.injEq, List.cons.injEq, Value.slice.injEq, Addr.mk.injEq, Value.bool.injEq, Value.int.injEq, true_and, and_true] at h1
    obtain ⟨⟨rfl, rfl, _⟩, rfl, rfl, rfl, rfl, rfl⟩ := h1
    have h2 := a.img.symm.trans b.img
    have h3 : img = img' := u8_inj (Option.some.inj h2)
    rw [h3]

open Classical in
noncomputable def dkOf (h : Heap) (d : Nat) : Option Dk := if hx : ∃ D, IsDk h d D then some hx.choose else none
theorem IsDk.of {h : Heap} {d : Nat} {D : Dk} (a : IsDk h d D) : dkOf h d = some D := by
  have hx : ∃ D, IsDk h d D := ⟨D, a⟩
  unfold dkOf
  rw [dif_pos hx]
  exact congrArg some (hx.choose_spec.uniq a)
theorem dkOf_spec {h : Heap} {d : Nat} {D : Dk} (e : dkOf h d = some D) : IsDk h d D := by
  unfold dkOf at e
  split at e
  · rename_i hx
    cases e; exact hx.choose_spec
  · cases e

theorem IsDk.mono {h h' : Heap} {d : Nat} {D : Dk} (a : IsDk h d D) (hn : h'.n0 = h.n0) (hg : h'.get d = h.get d) (hb : h'.get D.bb = h.get D.bb) : IsDk h' d D :=
  ⟨hg.trans a.hdr, hb.trans a.img, a.len, a.byte, hn ▸ a.dn, hn ▸ a.bn, a.ne, a.small, a.after, a.keep⟩

section
variable {h : Heap} {d : Nat} {D : Dk}
theorem IsDk.lt (a : IsDk h d D) : d < h.next := h.lt_of_get a.hdr
theorem IsDk.blt (a : IsDk h d D) : D.bb < h.next := h.lt_of_get a.img
theorem IsDk.l0 (a : IsDk h d D) : ld1 (ptr d 0) h = some (.slice (some ⟨D.bb, 0, none⟩) D.n D.n, h) := ld1_at a.hdr rfl
theorem IsDk.l1 (a : IsDk h d D) : ld1 (ptr d 1) h = some (.bool D.down, h) := ld1_at a.hdr rfl
theorem IsDk.l2 (a : IsDk h d D) : ld1 (ptr d 2) h = some (.bool D.armed, h) := ld1_at a.hdr rfl
theorem IsDk.l3 (a : IsDk h d D) : ld1 (ptr d 3) h = some (.int .i64 D.after, h) := ld1_at a.hdr rfl
theorem IsDk.l4 (a : IsDk h d D) : ld1 (ptr d 4) h = some (.int .i64 D.keep, h) := ld1_at a.hdr rfl
theorem IsDk.l5 (a : IsDk h d D) : ld1 (ptr d 5) h = some (.int .i64 D.turn, h) := ld1_at a.hdr rfl
theorem IsDk.s1 (a : IsDk h d D) (b : Bool) : stN 1 (ptr d 1) (.bool b) h = some (undef, h.set d { D with down := b }.hdr) := stN1_at a.hdr (by simp [Dk.hdr]) a.dn rfl rfl
theorem IsDk.s2 (a : IsDk h d D) (b : Bool) : stN 1 (ptr d 2) (.bool b) h = some (undef, h.set d { D with armed := b }.hdr) := stN1_at a.hdr (by simp [Dk.hdr]) a.dn rfl rfl
theorem IsDk.s3 (a : IsDk h d D) (n : Int) : stN 1 (ptr d 3) (.int .i64 n) h = some (undef, h.set d { D with after := n }.hdr) := stN1_at a.hdr (by simp [Dk.hdr]) a.dn rfl rfl
theorem IsDk.s4 (a : IsDk h d D) (n : Int) : stN 1 (ptr d 4) (.int .i64 n) h = some (undef, h.set d { D with keep := n }.hdr) := stN1_at a.hdr (by simp [Dk.hdr]) a.dn rfl rfl
theorem IsDk.s5 (a : IsDk h d D) (n : Int) : stN 1 (ptr d 5) (.int .i64 n) h = some (undef, h.set d { D with turn := n }.hdr) := stN1_at a.hdr (by simp [Dk.hdr]) a.dn rfl rfl
end

/-- The same disk but for what its first block says. -/
structure Like (D E : Dk) : Prop where
  bb : E.bb = D.bb
  n : E.n = D.n
  img : E.img = D.img
theorem IsDk.setHdr {h : Heap} {d : Nat} {D E : Dk} (a : IsDk h d D) (l : Like D E) (ha : 0 ≤ E.after ∧ E.after ≤ 9223372036854775807) (hk : 0 ≤ E.keep ∧ E.keep ≤ 128) : IsDk (h.set d E.hdr) d E := by
  have hb : (h.set d E.hdr).get E.bb = some (E.img.map u8) := by
    rw [Heap.get_set_other a.dn a.lt _ (by rw [l.bb]; exact a.ne.symm), l.bb, l.img]; exact a.img
  exact ⟨Heap.get_set_same a.dn a.hdr _, hb, by rw [l.img, l.n]; exact a.len, by rw [l.img]; exact a.byte, a.dn, by rw [l.bb]; exact a.bn, by rw [l.bb]; exact a.ne, by rw [l.n]; exact a.small, ha, hk⟩

/-- The heap with another disk in the place of one. -/
def putDk (h : Heap) (d : Nat) (E : Dk) : Heap := (h.set d E.hdr).set E.bb (E.img.map u8)
theorem putDk_get {h : Heap} {d : Nat} {D E : Dk} (a : IsDk h d D) (hb : E.bb = D.bb) (c : Nat) : (putDk h d E).get c = if c = E.bb then some (E.img.map u8) else if c = d then some E.hdr else h.get c := by
  unfold putDk
  by_cases h1 : c = E.bb
  · subst h1
    rw [if_pos rfl]
    refine Heap.get_set_same (by rw [hb]; exact a.bn) (k := D.img.map u8) ?_ _
    rw [Heap.get_set_other a.dn a.lt _ (by rw [hb]; exact a.ne.symm), hb]; exact a.img
  · rw [if_neg h1, Heap.get_set_other (by rw [hb]; exact a.bn) (by rw [hb]; exact a.blt) _ h1]
    by_cases h2 : c = d
    · subst h2; rw [if_pos rfl]; exact Heap.get_set_same a.dn a.hdr _
    · rw [if_neg h2]; exact Heap.get_set_other a.dn a.lt _ h2
structure Okd (D E : Dk) : Prop where
  bb : E.bb = D.bb
  n : E.n = D.n
  len : E.img.length = D.img.length
  byte : ∀ x ∈ E.img, x < 256
  after : 0 ≤ E.after ∧ E.after ≤ 9223372036854775807
  keep : 0 ≤ E.keep ∧ E.keep ≤ 128
theorem IsDk.put {h : Heap} {d : Nat} {D E : Dk} (a : IsDk h d D) (l : Okd D E) : IsDk (putDk h d E) d E := by
  refine ⟨?_, ?_, by rw [l.len, l.n]; exact a.len, l.byte, a.dn, by rw [l.bb]; exact a.bn, by rw [l.bb]; exact a.ne, by rw [l.n]; exact a.small, l.after, l.keep⟩
  · rw [putDk_get a l.bb, if_neg (by rw [l.bb]; exact a.ne), if_pos rfl]
  · rw [putDk_get a l.bb, if_pos rfl]
theorem bd_u8 (n : Nat) : ∀ l : List Nat, bdL n (l.map u8) = true
  | [] => rfl
  | x :: l => by
    have := bd_u8 n l
    simp only [List.map_cons, bdL, bdV, Bool.true_and]; exact this
theorem bd_hdr {D : Dk} {n : Nat} (hb : D.bb < n) : bdL n D.hdr = true := by simp [Dk.hdr, bdL, bdV, hb]
theorem IsDk.put_bd {h : Heap} {d : Nat} {D E : Dk} (a : IsDk h d D) (hb : E.bb = D.bb) (hh : HeapBd h) : HeapBd (putDk h d E) := by
  intro c k hc
  rw [putDk_get a hb] at hc
  have hn : (putDk h d E).next = h.next := rfl
  rw [hn]
  split at hc
  · cases hc; exact bd_u8 _ _
  · split at hc
    · cases hc; exact bd_hdr (by rw [hb]; exact a.blt)
    · exact hh c k hc
theorem IsDk.put_grow {h : Heap} {d : Nat} {E : Dk} : Grow h (putDk h d E) := ⟨Nat.le_refl _, rfl, rfl⟩

/-- A function that answers a value without memory, and leaves the disk as told. -/
theorem onDisk {C : CallF} (hC : CSound Try.prog C) {f : FuncId} {fn : Func} (i : IsFn Try.prog f fn) {s : List Value → Heap → Out}
    (told : ∀ args h v h', s args h = some (v, h') → (∀ n, bdV n v = true) ∧ (h' = h ∨ ∃ d D E, IsDk h d D ∧ E.bb = D.bb ∧ h' = putDk h d E))
    (body : ∀ args h v h', s args h = some (v, h') → bdL h.next args = true → HeapBd h → ∃ h1, bodyK Try.prog C fn args h = some (v, h1) ∧ ∀ b k, h'.n0 ≤ b → h'.get b = some k → h1.get b = some k) : Contract Try.prog f s := by
  refine .mk' hC mixed i ?_ ?_
  · intro args h v h' e
    obtain ⟨h2, rfl | ⟨d, D, E, h3, h4, rfl⟩⟩ := told _ _ _ _ e
    · exact ⟨Grow.refl _, fun _ h5 => ⟨h2 _, h5⟩⟩
    · exact ⟨IsDk.put_grow, fun _ h5 => ⟨h2 _, h3.put_bd h4 h5⟩⟩
  · intro args h v h' e h1 h2
    obtain ⟨g, h4, h5⟩ := body _ _ _ _ e h1 h2
    obtain ⟨h6, rfl | ⟨d, D, E, h7, h8, rfl⟩⟩ := told _ _ _ _ e
    · exact ⟨v, g, id, h4, .sub (h6 _) h2 h5⟩
    · exact ⟨v, g, id, h4, .sub (h6 _) (h7.put_bd h8 h2) h5⟩

@[simp] theorem nil27e (b o : Nat) : bin Try.prog .eql 27 (ptr b o) (.pointer none) = some (.bool false) := by kernel_rfl
@[simp] theorem nil27e' : bin Try.prog .eql 27 (.pointer none) (.pointer none) = some (.bool true) := by kernel_rfl
@[simp] theorem nil27n (b o : Nat) : bin Try.prog .neq 27 (ptr b o) (.pointer none) = some (.bool true) := by kernel_rfl
@[simp] theorem nil27n' : bin Try.prog .neq 27 (.pointer none) (.pointer none) = some (.bool false) := by kernel_rfl
theorem sf : (some true == some false) = false := rfl
theorem fs : (some false == some true) = false := rfl
/-- The numbers of errors. -/
def Dk.fault (D : Dk) (i : Int) : Int := if D.down then 9 else if i < 0 ∨ (D.n : Int) ≤ i then 2 else 0

noncomputable def s53 : List Value → Heap → Out
  | [.pointer none, .int .i64 _], h => some (.int .i64 1, h)
  | [.pointer (some ⟨d, 0, none⟩), .int .i64 i], h => match dkOf h d with
    | some D => some (.int .i64 (D.fault i), h)
    | none => none
  | _, _ => none
theorem t53_nil (C : CallF) (i : Int) (h : Heap) : t53 C (.pointer none) (.int .i64 i) h = some (.int .i64 1, h) := by
  unfold t53
  simp -implicitDefEqProofs only [thenV_some, nil27e', pu_some]
theorem t53_is (C : CallF) {d : Nat} {D : Dk} (i : Int) {h : Heap} (a : IsDk h d D) : t53 C (ptr d 0) (.int .i64 i) h = some (.int .i64 (D.fault i), h) := by
  unfold t53 Dk.fault
  simp -implicitDefEqProofs only [thenV_some, nil27e, pu_some, nilCheck_ptr, addP_ptr, Nat.zero_add, a.l1]
  cases D.down with
  | true => rfl
  | false =>
    simp -implicitDefEqProofs only [thenV_some, pu_some, bin_lss, bOf_bool, Bool.false_eq_true, if_false]
    by_cases h1 : i < 0
    · simp -implicitDefEqProofs only [h1, decide_true, sf, guardK_false, thenV_some, if_true, true_or]
    · simp -implicitDefEqProofs only [h1, decide_false, beq_self_eq_true, guardK_true, thenV_some, pu_some, nilCheck_ptr, addP_ptr, Nat.zero_add, a.l0, lenL_slice, bin_geq, false_or, Bool.false_eq_true, if_false]
      by_cases h2 : (D.n : Int) ≤ i
      · simp -implicitDefEqProofs only [h2, ge_iff_le, decide_true, if_true]
      · simp -implicitDefEqProofs only [h2, ge_iff_le, decide_false, if_false]
theorem is53 : IsFn Try.prog 53 Try.f53 := ⟨by kernel_rfl, by kernel_rfl, by kernel_rfl, by kernel_rfl⟩
theorem c53 : Contract Try.prog 53 s53 := by
  have key : ∀ args h v h', s53 args h = some (v, h') → (∃ i, args = [.pointer none, .int .i64 i] ∧ v = .int .i64 1 ∧ h' = h) ∨ (∃ d D i, args = [ptr d 0, .int .i64 i] ∧ IsDk h d D ∧ v = .int .i64 (D.fault i) ∧ h' = h) := by
    intro args h v h' e
    unfold s53 at e
    split at e
    · cases e; exact .inl ⟨_, rfl, rfl, rfl⟩
    · split at e
      · cases e; exact .inr ⟨_, _, _, rfl, dkOf_spec (by assumption), rfl, rfl⟩
      · cases e
    · cases e
  refine onDisk (callL_sound [] (by simp)) is53 ?_ ?_
  · intro args h v h' e
    rcases key _ _ _ _ e with ⟨i, rfl, rfl, rfl⟩ | ⟨d, D, i, rfl, a, rfl, rfl⟩
    · exact ⟨fun _ => rfl, .inl rfl⟩
    · exact ⟨fun _ => rfl, .inl rfl⟩
  · intro args h v h' e _ _
    rcases key _ _ _ _ e with ⟨i, rfl, rfl, rfl⟩ | ⟨d, D, i, rfl, a, rfl, rfl⟩
    · exact ⟨h', (t53_eq _ _ _ _).trans (t53_nil _ _ _), fun _ _ _ h => h⟩
    · exact ⟨h', (t53_eq _ _ _ _).trans (t53_is _ _ a), fun _ _ _ h => h⟩

end Go.Proofs.Ytcmfgmhadeeieaa

namespace Go.Proofs.Ytcmfgmhadeeieaa
open Go Go.Abs

/-- A heap that differs from another in one disk's first block alone. -/
structure Upd (h : Heap) (d : Nat) (D E : Dk) (g : Heap) : Prop where
  n0 : g.n0 = h.n0
  next : g.next = h.next
  was : IsDk h d D
  is : IsDk g d E
  like : Like D E
  get : ∀ c, c ≠ d → g.get c = h.get c
theorem Upd.refl {h : Heap} {d : Nat} {D : Dk} (a : IsDk h d D) : Upd h d D D h := ⟨rfl, rfl, a, a, ⟨rfl, rfl, rfl⟩, fun _ _ => rfl⟩
theorem Upd.step {h g : Heap} {d : Nat} {D E F : Dk} (u : Upd h d D E g) (l : Like E F) (ha : 0 ≤ F.after ∧ F.after ≤ 9223372036854775807) (hk : 0 ≤ F.keep ∧ F.keep ≤ 128) : Upd h d D F (g.set d F.hdr) where
  n0 := u.n0
  next := u.next
  was := u.was
  is := u.is.setHdr l ha hk
  like := ⟨l.bb.trans u.like.bb, l.n.trans u.like.n, l.img.trans u.like.img⟩
  get c hc := (Heap.get_set_other u.is.dn u.is.lt _ hc).trans (u.get c hc)
theorem Upd.told {h g : Heap} {d : Nat} {D E : Dk} (u : Upd h d D E g) : ∀ b k, (putDk h d E).n0 ≤ b → (putDk h d E).get b = some k → g.get b = some k := by
  intro b k _ hb
  rw [putDk_get u.was u.like.bb] at hb
  split at hb
  · cases hb; rename_i e; rw [e]; exact u.is.img
  · split at hb
    · cases hb; rename_i e; rw [e]; exact u.is.hdr
    · rw [u.get b (by assumption)]; exact hb
theorem putDk_self {h : Heap} {d : Nat} {D : Dk} (a : IsDk h d D) : ∀ b k, h.get b = some k ↔ (putDk h d D).get b = some k := by
  intro b k
  rw [putDk_get a rfl]
  split
  · rename_i e; rw [e, a.img]
  · split
    · rename_i e; rw [e, a.hdr]
    · exact Iff.rfl

section bytes
/-- Numbers laid over others. -/
def spliceN (l : List Nat) (off : Nat) (xs : List Nat) : List Nat := l.take off ++ xs ++ l.drop (off + xs.length)
theorem spliceN_map (l : List Nat) (off : Nat) (xs : List Nat) : splice (l.map u8) off (xs.map u8) = (spliceN l off xs).map u8 := by
  simp [splice, spliceN]
theorem spliceN_length {l : List Nat} {off : Nat} {xs : List Nat} (h : off + xs.length ≤ l.length) : (spliceN l off xs).length = l.length := by
  simp [spliceN]; omega
theorem spliceN_byte {l : List Nat} {off : Nat} {xs : List Nat} (hl : ∀ x ∈ l, x < 256) (hx : ∀ x ∈ xs, x < 256) : ∀ x ∈ spliceN l off xs, x < 256 := by
  intro x h
  simp only [spliceN, List.mem_append] at h
  rcases h with (h | h) | h
  · exact hl x (List.mem_of_mem_take h)
  · exact hx x h
  · exact hl x (List.mem_of_mem_drop h)
theorem one_u8 : ∀ l : List Nat, oneCells (l.map u8) = true
  | [] => rfl
  | x :: l => by
    have := one_u8 l
    simp only [oneCells, List.map_cons, List.all_cons] at this ⊢
    rw [this]; rfl

theorem firstA_of {a : Option Addr} {n c : Nat} {h : Heap} {l : List Nat} (e : sliceBytes a n h = some l) {m : Nat} (hm : m ≤ n) : firstA 1 m (.slice a n c) h = some ((l.take m).map u8) := by
  unfold sliceBytes at e
  rw [Option.bind_eq_some_iff] at e
  obtain ⟨cs, h1, h2⟩ := e
  obtain ⟨rfl, h3⟩ := bytesOf_eq h2
  cases a with
  | none =>
    simp only [firstA] at h1 ⊢
    split at h1
    · cases l with
      | nil => simp; omega
      | cons => simp at h1
    · cases h1
  | some x =>
    obtain ⟨b, off, s⟩ := x
    simp only [firstA, Nat.mul_one] at h1 ⊢
    by_cases hm0 : m = 0
    · subst hm0; simp
    · rw [if_neg hm0]
      rw [if_neg (by omega)] at h1
      cases hk : h.get b with
      | none => rw [hk] at h1; cases h1
      | some k =>
        rw [hk] at h1
        simp only at h1 ⊢
        split at h1
        · rename_i hl0
          have hl1 := hl0.1
          simp only [Option.some.injEq] at h1
          have hk2 : List.take m (List.drop off k) = (l.take m).map u8 := by rw [List.map_take, ← h1, List.take_take, Nat.min_eq_left hm]
          rw [if_pos ⟨by omega, by rw [hk2]; exact noHoles_u8 _⟩, hk2]
        · cases h1

/-- Bytes copied into a block of bytes. -/
theorem copy_bytes {h : Heap} {b off dl dc n c : Nat} {s : Option Nat} {a : Option Addr} {img l : List Nat} (hb : h.get b = some (img.map u8)) (h0 : h.n0 ≤ b) (hs : sliceBytes a n h = some l) (hlen : off + min n dl ≤ img.length) :
    ∃ g, copyA 1 (.slice (some ⟨b, off, s⟩) dl dc) (.slice a n c) h = some (i64n (min n dl), g) ∧ g.n0 = h.n0 ∧ g.next = h.next ∧ g.get b = some ((spliceN img off (l.take (min n dl))).map u8) ∧ (∀ e, e ≠ b → g.get e = h.get e) := by
  have hl := (sliceBytes_spec hs).1
  unfold copyA
  simp only [lenA]
  rw [firstA_of hs (Nat.min_le_left n dl)]
  simp only
  by_cases h1 : min n dl = 0
  · rw [if_pos h1]
    refine ⟨h, rfl, rfl, rfl, ?_, fun _ _ => rfl⟩
    rw [h1, hb]; simp [spliceN]
  · rw [if_neg h1]
    refine ⟨h.set b ((spliceN img off (l.take (min n dl))).map u8), ?_, rfl, rfl, Heap.get_set_same h0 hb _, fun e he => Heap.get_set_other h0 (h.lt_of_get hb) _ he⟩
    unfold stL
    simp only [hb]
    rw [if_pos (by simp only [one_u8, List.length_map, List.length_take, Bool.and_true, Bool.and_eq_true, decide_eq_true_eq]; exact ⟨h0, by omega⟩), spliceN_map]
    rfl
end bytes

theorem s53_at {h : Heap} {d : Nat} {D : Dk} (i : Int) (a : IsDk h d D) : s53 [ptr d 0, .int .i64 i] h = some (.int .i64 (D.fault i), h) := by
  unfold s53 ptr
  simp only [a.of]

/-- PowerOff. -/
def Dk.off (D : Dk) : Dk := if D.down then D else { D with down := true, armed := false, turn := IntKind.wrap .i64 (D.turn + 1) }
theorem Dk.off_like (D : Dk) : Like D D.off := by unfold Dk.off; split <;> exact ⟨rfl, rfl, rfl⟩
noncomputable def s32 : List Value → Heap → Out
  | [.pointer none], h => some (.tuple #[], h)
  | [.pointer (some ⟨d, 0, none⟩)], h => match dkOf h d with
    | some D => some (.tuple #[], putDk h d D.off)
    | none => none
  | _, _ => none
theorem t32_nil (C : CallF) (h : Heap) : t32 C (.pointer none) h = some (.tuple #[], h) := by
  unfold t32
  simp -implicitDefEqProofs only [thenV_some, nil27e', pu_some, bOf_bool, sf, guardK_false, if_true]
theorem t32_is (C : CallF) {d : Nat} {D : Dk} {h : Heap} (a : IsDk h d D) : ∃ g, t32 C (ptr d 0) h = some (.tuple #[], g) ∧ Upd h d D D.off g := by
  unfold t32 Dk.off
  simp -implicitDefEqProofs only [thenV_some, nil27e, pu_some, bOf_bool, beq_self_eq_true, guardK_true, nilCheck_ptr, addP_ptr, Nat.zero_add, a.l1, Bool.false_eq_true, if_false]
  cases hd : D.down with
  | true => exact ⟨h, rfl, by rw [if_pos rfl]; exact .refl a⟩
  | false =>
    have u1 : Upd h d D { D with down := true } _ := (Upd.refl a).step ⟨rfl, rfl, rfl⟩ a.after a.keep
    have u2 : Upd h d D { D with down := true, armed := false } _ := u1.step ⟨rfl, rfl, rfl⟩ a.after a.keep
    have u3 : Upd h d D { D with down := true, armed := false, turn := IntKind.wrap .i64 (D.turn + 1) } _ := u2.step ⟨rfl, rfl, rfl⟩ a.after a.keep
    simp -implicitDefEqProofs only [a.s1, u1.is.s2, u2.is.l5, u2.is.s5, thenV_some, bin_add, pu_some, Bool.false_eq_true, if_false]
    exact ⟨_, rfl, u3⟩
theorem is32 : IsFn Try.prog 32 Try.f32 := ⟨by kernel_rfl, by kernel_rfl, by kernel_rfl, by kernel_rfl⟩
theorem s32_inv {args : List Value} {h h' : Heap} {v : Value} (e : s32 args h = some (v, h')) : (args = [.pointer none] ∧ v = .tuple #[] ∧ h' = h) ∨ ∃ d D, args = [ptr d 0] ∧ IsDk h d D ∧ v = .tuple #[] ∧ h' = putDk h d D.off := by
  unfold s32 at e
  split at e
  · cases e; exact .inl ⟨rfl, rfl, rfl⟩
  · split at e
    · cases e; exact .inr ⟨_, _, rfl, dkOf_spec (by assumption), rfl, rfl⟩
    · cases e
  · cases e
theorem c32 : Contract Try.prog 32 s32 := by
  refine onDisk (callL_sound [] (by simp)) is32 ?_ ?_
  · intro args h v h' e
    rcases s32_inv e with ⟨rfl, rfl, rfl⟩ | ⟨d, D, rfl, a, rfl, rfl⟩
    · exact ⟨fun _ => rfl, .inl rfl⟩
    · exact ⟨fun _ => rfl, .inr ⟨d, D, _, a, D.off_like.bb, rfl⟩⟩
  · intro args h v h' e _ _
    rcases s32_inv e with ⟨rfl, rfl, rfl⟩ | ⟨d, D, rfl, a, rfl, rfl⟩
    · exact ⟨h', (t32_eq _ _ _).trans (t32_nil _ _), fun _ _ _ h => h⟩
    · obtain ⟨g, h1, u⟩ := t32_is (callL []) a
      exact ⟨g, (t32_eq _ _ _).trans h1, u.told⟩

/-- PowerOn. -/
def Dk.on (D : Dk) : Dk := { D with down := false, armed := false }
noncomputable def s33 : List Value → Heap → Out
  | [.pointer none], h => some (.tuple #[], h)
  | [.pointer (some ⟨d, 0, none⟩)], h => match dkOf h d with
    | some D => some (.tuple #[], putDk h d D.on)
    | none => none
  | _, _ => none
theorem t33_nil (C : CallF) (h : Heap) : t33 C (.pointer none) h = some (.tuple #[], h) := by
  unfold t33
  simp -implicitDefEqProofs only [thenV_some, nil27n', pu_some]
theorem t33_is (C : CallF) {d : Nat} {D : Dk} {h : Heap} (a : IsDk h d D) : ∃ g, t33 C (ptr d 0) h = some (.tuple #[], g) ∧ Upd h d D D.on g := by
  unfold t33 Dk.on
  have u1 : Upd h d D { D with down := false } _ := (Upd.refl a).step ⟨rfl, rfl, rfl⟩ a.after a.keep
  have u2 : Upd h d D { D with down := false, armed := false } _ := u1.step ⟨rfl, rfl, rfl⟩ a.after a.keep
  simp -implicitDefEqProofs only [thenV_some, nil27n, pu_some, nilCheck_ptr, addP_ptr, Nat.zero_add, a.s1, u1.is.s2]
  exact ⟨_, rfl, u2⟩
theorem is33 : IsFn Try.prog 33 Try.f33 := ⟨by kernel_rfl, by kernel_rfl, by kernel_rfl, by kernel_rfl⟩
theorem s33_inv {args : List Value} {h h' : Heap} {v : Value} (e : s33 args h = some (v, h')) : (args = [.pointer none] ∧ v = .tuple #[] ∧ h' = h) ∨ ∃ d D, args = [ptr d 0] ∧ IsDk h d D ∧ v = .tuple #[] ∧ h' = putDk h d D.on := by
  unfold s33 at e
  split at e
  · cases e; exact .inl ⟨rfl, rfl, rfl⟩
  · split at e
    · cases e; exact .inr ⟨_, _, rfl, dkOf_spec (by assumption), rfl, rfl⟩
    · cases e
  · cases e
theorem c33 : Contract Try.prog 33 s33 := by
  refine onDisk (callL_sound [] (by simp)) is33 ?_ ?_
  · intro args h v h' e
    rcases s33_inv e with ⟨rfl, rfl, rfl⟩ | ⟨d, D, rfl, a, rfl, rfl⟩
    · exact ⟨fun _ => rfl, .inl rfl⟩
    · exact ⟨fun _ => rfl, .inr ⟨d, D, D.on, a, rfl, rfl⟩⟩
  · intro args h v h' e _ _
    rcases s33_inv e with ⟨rfl, rfl, rfl⟩ | ⟨d, D, rfl, a, rfl, rfl⟩
    · exact ⟨h', (t33_eq _ _ _).trans (t33_nil _ _), fun _ _ _ h => h⟩
    · obtain ⟨g, h1, u⟩ := t33_is (callL []) a
      exact ⟨g, (t33_eq _ _ _).trans h1, u.told⟩

end Go.Proofs.Ytcmfgmhadeeieaa

namespace Go.Proofs.Ytcmfgmhadeeieaa
open Go Go.Abs

/-- Down. -/
noncomputable def s36 : List Value → Heap → Out
  | [.pointer none], h => some (.bool false, h)
  | [.pointer (some ⟨d, 0, none⟩)], h => match dkOf h d with
    | some D => some (.bool D.down, h)
    | none => none
  | _, _ => none
theorem t36_nil (C : CallF) (h : Heap) : t36 C (.pointer none) h = some (.bool false, h) := by
  unfold t36
  simp -implicitDefEqProofs only [thenV_some, nil27n', pu_some, bOf_bool, fs, guardK_false, Bool.false_eq_true, if_false]
theorem t36_is (C : CallF) {d : Nat} {D : Dk} {h : Heap} (a : IsDk h d D) : t36 C (ptr d 0) h = some (.bool D.down, h) := by
  unfold t36
  simp -implicitDefEqProofs only [thenV_some, nil27n, pu_some, bOf_bool, beq_self_eq_true, guardK_true, nilCheck_ptr, addP_ptr, Nat.zero_add, a.l1, if_true]
theorem is36 : IsFn Try.prog 36 Try.f36 := ⟨by kernel_rfl, by kernel_rfl, by kernel_rfl, by kernel_rfl⟩
theorem c36 : Contract Try.prog 36 s36 := by
  have key : ∀ args h v h', s36 args h = some (v, h') → (args = [.pointer none] ∧ v = .bool false ∧ h' = h) ∨ ∃ d D, args = [ptr d 0] ∧ IsDk h d D ∧ v = .bool D.down ∧ h' = h := by
    intro args h v h' e
    unfold s36 at e
    split at e
    · cases e; exact .inl ⟨rfl, rfl, rfl⟩
    · split at e
      · cases e; exact .inr ⟨_, _, rfl, dkOf_spec (by assumption), rfl, rfl⟩
      · cases e
    · cases e
  refine onDisk (callL_sound [] (by simp)) is36 ?_ ?_
  · intro args h v h' e
    rcases key _ _ _ _ e with ⟨rfl, rfl, rfl⟩ | ⟨d, D, rfl, a, rfl, rfl⟩
    · exact ⟨fun _ => rfl, .inl rfl⟩
    · exact ⟨fun _ => rfl, .inl rfl⟩
  · intro args h v h' e _ _
    rcases key _ _ _ _ e with ⟨rfl, rfl, rfl⟩ | ⟨d, D, rfl, a, rfl, rfl⟩
    · exact ⟨h', (t36_eq _ _ _).trans (t36_nil _ _), fun _ _ _ h => h⟩
    · exact ⟨h', (t36_eq _ _ _).trans (t36_is _ a), fun _ _ _ h => h⟩

/-- Blocks. -/
noncomputable def s50 : List Value → Heap → Out
  | [.pointer none], h => some (.int .i64 0, h)
  | [.pointer (some ⟨d, 0, none⟩)], h => match dkOf h d with
    | some D => some (i64n D.n, h)
    | none => none
  | _, _ => none
theorem t50_nil (C : CallF) (h : Heap) : t50 C (.pointer none) h = some (.int .i64 0, h) := by
  unfold t50
  simp -implicitDefEqProofs only [thenV_some, nil27e', pu_some]
theorem t50_is (C : CallF) {d : Nat} {D : Dk} {h : Heap} (a : IsDk h d D) : t50 C (ptr d 0) h = some (i64n D.n, h) := by
  unfold t50
  simp -implicitDefEqProofs only [thenV_some, nil27e, pu_some, nilCheck_ptr, addP_ptr, Nat.zero_add, a.l0, lenL_slice]
theorem is50 : IsFn Try.prog 50 Try.f50 := ⟨by kernel_rfl, by kernel_rfl, by kernel_rfl, by kernel_rfl⟩
theorem c50 : Contract Try.prog 50 s50 := by
  have key : ∀ args h v h', s50 args h = some (v, h') → (args = [.pointer none] ∧ v = .int .i64 0 ∧ h' = h) ∨ ∃ d D, args = [ptr d 0] ∧ IsDk h d D ∧ v = i64n D.n ∧ h' = h := by
    intro args h v h' e
    unfold s50 at e
    split at e
    · cases e; exact .inl ⟨rfl, rfl, rfl⟩
    · split at e
      · cases e; exact .inr ⟨_, _, rfl, dkOf_spec (by assumption), rfl, rfl⟩
      · cases e
    · cases e
  refine onDisk (callL_sound [] (by simp)) is50 ?_ ?_
  · intro args h v h' e
    rcases key _ _ _ _ e with ⟨rfl, rfl, rfl⟩ | ⟨d, D, rfl, a, rfl, rfl⟩
    · exact ⟨fun _ => rfl, .inl rfl⟩
    · exact ⟨fun _ => rfl, .inl rfl⟩
  · intro args h v h' e _ _
    rcases key _ _ _ _ e with ⟨rfl, rfl, rfl⟩ | ⟨d, D, rfl, a, rfl, rfl⟩
    · exact ⟨h', (t50_eq _ _ _).trans (t50_nil _ _), fun _ _ _ h => h⟩
    · exact ⟨h', (t50_eq _ _ _).trans (t50_is _ a), fun _ _ _ h => h⟩

/-- Arm. -/
def Dk.arm (D : Dk) (after keep : Int) : Int × Dk :=
  if D.down then (9, D) else if after < 0 ∨ keep < 0 ∨ 128 < keep then (2, D) else (0, { D with armed := true, after := after, keep := keep })
theorem Dk.arm_like (D : Dk) (a k : Int) : Like D (D.arm a k).2 := by
  unfold Dk.arm
  split
  · exact ⟨rfl, rfl, rfl⟩
  · split <;> exact ⟨rfl, rfl, rfl⟩
noncomputable def s48 : List Value → Heap → Out
  | [.pointer none, .int .i64 _, .int .i64 _], h => some (.int .i64 1, h)
  | [.pointer (some ⟨d, 0, none⟩), .int .i64 a, .int .i64 k], h => match dkOf h d with
    | some D => if a ≤ 9223372036854775807 then some (.int .i64 (D.arm a k).1, putDk h d (D.arm a k).2) else none
    | none => none
  | _, _ => none
theorem t48_nil (C : CallF) (a k : Int) (h : Heap) : t48 C (.pointer none) (.int .i64 a) (.int .i64 k) h = some (.int .i64 1, h) := by
  unfold t48
  simp -implicitDefEqProofs only [thenV_some, nil27e', pu_some]
theorem t48_is (C : CallF) {d : Nat} {D : Dk} {h : Heap} (a k : Int) (ha : a ≤ 9223372036854775807) (x : IsDk h d D) : ∃ g, t48 C (ptr d 0) (.int .i64 a) (.int .i64 k) h = some (.int .i64 (D.arm a k).1, g) ∧ Upd h d D (D.arm a k).2 g := by
  unfold t48 Dk.arm
  simp -implicitDefEqProofs only [thenV_some, nil27e, pu_some, nilCheck_ptr, addP_ptr, Nat.zero_add, x.l1]
  cases hd : D.down with
  | true => exact ⟨h, rfl, .refl x⟩
  | false =>
    simp -implicitDefEqProofs only [thenV_some, pu_some, bin_lss, bOf_bool, Bool.false_eq_true, if_false]
    by_cases h1 : a < 0
    · simp -implicitDefEqProofs only [h1, decide_true, sf, guardK_false, thenV_some, if_true, bOf_bool, true_or]
      exact ⟨h, rfl, .refl x⟩
    · simp -implicitDefEqProofs only [h1, decide_false, beq_self_eq_true, guardK_true, thenV_some, pu_some, bin_lss, bOf_bool, false_or, Bool.false_eq_true, if_false]
      by_cases h2 : k < 0
      · simp -implicitDefEqProofs only [h2, decide_true, sf, guardK_false, thenV_some, if_true, bOf_bool, true_or]
        exact ⟨h, rfl, .refl x⟩
      · simp -implicitDefEqProofs only [h2, decide_false, beq_self_eq_true, guardK_true, thenV_some, pu_some, bin_gtr, bOf_bool, false_or, Bool.false_eq_true, if_false]
        by_cases h3 : k > 128
        · simp -implicitDefEqProofs only [h3, decide_true, if_true, thenV_some]
          exact ⟨h, rfl, .refl x⟩
        · have u1 : Upd h d D { D with armed := true } _ := (Upd.refl x).step ⟨rfl, rfl, rfl⟩ x.after x.keep
          have u2 : Upd h d D { D with armed := true, after := a } _ := u1.step ⟨rfl, rfl, rfl⟩ ⟨by show 0 ≤ a; omega, ha⟩ x.keep
          have u3 : Upd h d D { D with armed := true, after := a, keep := k } _ := u2.step ⟨rfl, rfl, rfl⟩ ⟨by show 0 ≤ a; omega, ha⟩ ⟨by show 0 ≤ k; omega, by show k ≤ 128; omega⟩
          simp -implicitDefEqProofs only [h3, decide_false, if_false, thenV_some, pu_some, nilCheck_ptr, addP_ptr, Nat.zero_add, x.s2, u1.is.s3, u2.is.s4]
          refine ⟨_, rfl, ?_⟩
          rw [← hd]
          exact u3
theorem is48 : IsFn Try.prog 48 Try.f48 := ⟨by kernel_rfl, by kernel_rfl, by kernel_rfl, by kernel_rfl⟩
theorem s48_inv {args : List Value} {h h' : Heap} {v : Value} (e : s48 args h = some (v, h')) : (∃ a k, args = [.pointer none, .int .i64 a, .int .i64 k] ∧ v = .int .i64 1 ∧ h' = h) ∨
    ∃ d D a k, args = [ptr d 0, .int .i64 a, .int .i64 k] ∧ IsDk h d D ∧ a ≤ 9223372036854775807 ∧ v = .int .i64 (D.arm a k).1 ∧ h' = putDk h d (D.arm a k).2 := by
  unfold s48 at e
  split at e
  · cases e; exact .inl ⟨_, _, rfl, rfl, rfl⟩
  · split at e
    · split at e
      · cases e; exact .inr ⟨_, _, _, _, rfl, dkOf_spec (by assumption), by assumption, rfl, rfl⟩
      · cases e
    · cases e
  · cases e
theorem c48 : Contract Try.prog 48 s48 := by
  refine onDisk (callL_sound [] (by simp)) is48 ?_ ?_
  · intro args h v h' e
    rcases s48_inv e with ⟨_, _, rfl, rfl, rfl⟩ | ⟨d, D, a, k, rfl, x, ha, rfl, rfl⟩
    · exact ⟨fun _ => rfl, .inl rfl⟩
    · exact ⟨fun _ => rfl, .inr ⟨d, D, (D.arm a k).2, x, (D.arm_like a k).bb, rfl⟩⟩
  · intro args h v h' e _ _
    rcases s48_inv e with ⟨_, _, rfl, rfl, rfl⟩ | ⟨d, D, a, k, rfl, x, ha, rfl, rfl⟩
    · exact ⟨h', (t48_eq _ _ _ _ _).trans (t48_nil _ _ _ _), fun _ _ _ h => h⟩
    · obtain ⟨g, h1, u⟩ := t48_is (callL []) a k ha x
      exact ⟨g, (t48_eq _ _ _ _ _).trans h1, u.told⟩

/-- Write. -/
def Dk.lay (D : Dk) (i : Int) (l : List Nat) : Dk := { D with img := spliceN D.img (i.toNat * 128) l }
def Dk.write (D : Dk) (i : Int) (l : List Nat) : Int × Dk :=
  if D.fault i = 0 then
    if l.length = 128 then
      if D.armed then
        if D.after = 0 then (9, (D.lay i (l.take D.keep.toNat)).off)
        else (0, { D.lay i l with after := D.after - 1 })
      else (0, D.lay i l)
    else (10, D)
  else (D.fault i, D)
theorem Dk.fault_zero {D : Dk} {i : Int} (h : D.fault i = 0) : D.down = false ∧ 0 ≤ i ∧ i < D.n := by
  unfold Dk.fault at h
  split at h
  · cases h
  · split at h
    · cases h
    · rename_i h1 h2
      refine ⟨by simpa using h1, by omega, by omega⟩
theorem Dk.lay_okd {h : Heap} {d : Nat} {D : Dk} (a : IsDk h d D) {i : Int} {l : List Nat} (hi : D.fault i = 0) (hl : l.length ≤ 128) (hb : ∀ x ∈ l, x < 256) : Okd D (D.lay i l) := by
  obtain ⟨_, h1, h2⟩ := Dk.fault_zero hi
  refine ⟨rfl, rfl, ?_, ?_, a.after, a.keep⟩
  · exact spliceN_length (by have := a.len; omega)
  · exact spliceN_byte a.byte hb
theorem Dk.write_okd {h : Heap} {d : Nat} {D : Dk} (a : IsDk h d D) (i : Int) {l : List Nat} (hb : ∀ x ∈ l, x < 256) : Okd D (D.write i l).2 := by
  have r : Okd D D := ⟨rfl, rfl, rfl, a.byte, a.after, a.keep⟩
  unfold Dk.write
  split
  · rename_i hf
    split
    · rename_i hl
      have o1 := Dk.lay_okd a hf (by omega) hb
      split
      · split
        · have o := Dk.lay_okd a (l := l.take D.keep.toNat) hf (by simp; omega) (fun x hx => hb x (List.mem_of_mem_take hx))
          have lk := (D.lay i (l.take D.keep.toNat)).off_like
          refine ⟨lk.bb.trans o.bb, lk.n.trans o.n, by rw [lk.img]; exact o.len, by rw [lk.img]; exact o.byte, ?_, ?_⟩
          · unfold Dk.off; split <;> exact a.after
          · unfold Dk.off; split <;> exact a.keep
        · rename_i h1
          refine ⟨o1.bb, o1.n, o1.len, o1.byte, ?_, a.keep⟩
          have := a.after
          show 0 ≤ D.after - 1 ∧ D.after - 1 ≤ _
          omega
      · exact o1
    · exact r
  · exact r
/-- A slice of bytes as they come. -/
def goodS (a : Option Addr) (n c : Nat) : Bool := Nat.ble n c && (match a with | some ⟨_, _, some s⟩ => s == 1 | _ => true)
theorem goodS_le {a : Option Addr} {n c : Nat} (h : goodS a n c = true) : n ≤ c := by
  unfold goodS at h
  rw [Bool.and_eq_true] at h
  exact Nat.le_of_ble_eq_true h.1
theorem sliceBytes_sub {b off n lo hi : Nat} {s s' : Option Nat} {h : Heap} {l : List Nat} (e : sliceBytes (some ⟨b, off, s⟩) n h = some l) (h1 : lo ≤ hi) (h2 : hi ≤ n) :
    sliceBytes (some ⟨b, off + lo, s'⟩) (hi - lo) h = some ((l.drop lo).take (hi - lo)) := by
  obtain ⟨hl, hb, hat⟩ := sliceBytes_spec e
  unfold sliceBytes
  rw [Option.bind_eq_some_iff]
  refine ⟨((l.drop lo).take (hi - lo)).map u8, ?_, bytesOf_map (fun x hx => hb x (List.mem_of_mem_drop (List.mem_of_mem_take hx)))⟩
  simp only [firstA, Nat.mul_one]
  by_cases h0 : hi - lo = 0
  · rw [if_pos h0, h0]; rfl
  · rw [if_neg h0]
    obtain ⟨b', off', s'', k, hx, hk, hkl, hk2⟩ := hat (by omega)
    cases hx
    simp only [hk]
    have hcells : (k.drop (off + lo)).take (hi - lo) = ((l.drop lo).take (hi - lo)).map u8 := by
      apply List.ext_getElem?
      intro i
      rw [List.getElem?_take, List.getElem?_map, List.getElem?_take, List.getElem?_drop, List.getElem?_drop]
      by_cases hi2 : i < hi - lo
      · rw [if_pos hi2, if_pos hi2, Nat.add_assoc, hk2 (lo + i) (by omega), List.getD_eq_getElem?_getD, List.getElem?_eq_getElem (by omega)]
        rfl
      · rw [if_neg hi2, if_neg hi2]; rfl
    rw [hcells, if_pos ⟨by omega, noHoles_u8 _⟩]
/-- A part of a slice of bytes. -/
theorem slR_bytes {a : Option Addr} {n c lo hi : Nat} {vl vh : Option Value} {h : Heap} {l : List Nat} (g : goodS a n c = true) (e : sliceBytes a n h = some l) (h1 : lo ≤ hi) (h2 : hi ≤ n) (hh : boundA n c vh = some hi) (hl : boundA 0 hi vl = some lo) :
    ∃ a' c', slR 1 (.slice a n c) vl vh none = some (.slice a' (hi - lo) c') ∧ sliceBytes a' (hi - lo) h = some ((l.drop lo).take (hi - lo)) ∧ goodS a' (hi - lo) c' = true := by
  have hn := goodS_le g
  have hb : boundsA n c vl vh none = some (lo, hi, c) := by
    unfold boundsA
    have : boundA c c none = some c := rfl
    rw [this]
    simp only [hh, hl]
  have hble : Nat.ble (hi - lo) (c - lo) = true := Nat.ble_eq_true_of_le (by omega)
  cases a with
  | none =>
    have hl0 : l = [] := by
      unfold sliceBytes firstA at e
      by_cases hz : n = 0
      · subst hz
        obtain ⟨h3, _⟩ := sliceBytes_spec (a := none) (n := 0) (h := h) (l := l) (by unfold sliceBytes firstA; exact e)
        exact List.length_eq_zero_iff.1 h3
      · simp only [hz, if_false, Option.bind_none] at e; cases e
    have hn0 : n = 0 := by
      have := (sliceBytes_spec e).1
      rw [hl0] at this; exact this.symm
    subst hn0
    have : hi = 0 := by omega
    subst this
    have : lo = 0 := by omega
    subst this
    refine ⟨none, c - 0, ?_, ?_, ?_⟩
    · unfold slR sliceSl
      simp only [hb]
    · subst hl0; rfl
    · unfold goodS; simp
  | some x =>
    obtain ⟨b, off, s⟩ := x
    cases s with
    | none =>
      refine ⟨some ⟨b, if c = lo then off else off + lo * 1, none⟩, c - lo, ?_, ?_, ?_⟩
      · unfold slR sliceSl
        simp only [hb]
      · by_cases hc : c = lo
        · have h3 : hi - lo = 0 := by omega
          rw [if_pos hc, h3]
          have : (l.drop lo).take 0 = [] := rfl
          rw [this]
          unfold sliceBytes firstA; simp; rfl
        · rw [if_neg hc, Nat.mul_one]
          exact sliceBytes_sub e h1 h2
      · unfold goodS; rw [hble]; rfl
    | some s =>
      have hs : s = 1 := by
        unfold goodS at g
        rw [Bool.and_eq_true] at g
        exact eq_of_beq g.2
      subst hs
      refine ⟨some ⟨b, off + lo * 1, some 1⟩, c - lo, ?_, ?_, ?_⟩
      · unfold slR sliceSl
        simp [hb]
      · rw [Nat.mul_one]; exact sliceBytes_sub e h1 h2
      · unfold goodS; rw [hble]; rfl

noncomputable def s19 : List Value → Heap → Out
  | [.pointer none, .int .i64 _, .slice _ _ _], h => some (.int .i64 1, h)
  | [.pointer (some ⟨d, 0, none⟩), .int .i64 i, .slice a n c], h => match dkOf h d, sliceBytes a n h with
    | some D, some l => if goodS a n c then some (.int .i64 (D.write i l).1, putDk h d (D.write i l).2) else none
    | _, _ => none
  | _, _ => none
theorem s19_at {h : Heap} {d : Nat} {D : Dk} (x : IsDk h d D) (i : Int) {a : Option Addr} {n c : Nat} {l : List Nat} (hl : sliceBytes a n h = some l) (hg : goodS a n c = true) :
    s19 [ptr d 0, .int .i64 i, .slice a n c] h = some (.int .i64 (D.write i l).1, putDk h d (D.write i l).2) := by
  unfold s19 ptr
  simp only [x.of, hl, hg, if_true]
theorem s19_inv {args : List Value} {h h' : Heap} {v : Value} (e : s19 args h = some (v, h')) : (∃ i a n c, args = [.pointer none, .int .i64 i, .slice a n c] ∧ v = .int .i64 1 ∧ h' = h) ∨
    ∃ d D i a n c l, args = [ptr d 0, .int .i64 i, .slice a n c] ∧ IsDk h d D ∧ sliceBytes a n h = some l ∧ goodS a n c = true ∧ v = .int .i64 (D.write i l).1 ∧ h' = putDk h d (D.write i l).2 := by
  unfold s19 at e
  split at e
  · cases e; exact .inl ⟨_, _, _, _, rfl, rfl, rfl⟩
  · split at e
    · split at e
      · cases e; exact .inr ⟨_, _, _, _, _, _, _, rfl, dkOf_spec (by assumption), by assumption, by assumption, rfl, rfl⟩
      · cases e
    · cases e
  · cases e

theorem sliceBytes_congr {a : Option Addr} {n : Nat} {h h' : Heap} (e : ∀ x, a = some x → h'.get x.block = h.get x.block) : sliceBytes a n h' = sliceBytes a n h := by
  unfold sliceBytes firstA
  cases a with
  | none => rfl
  | some x => simp only [e x rfl]
theorem IsDk.bytes_off {h : Heap} {d : Nat} {D : Dk} (x : IsDk h d D) {a : Option Addr} {n : Nat} {l : List Nat} (e : sliceBytes a n h = some l) (hn : 6 < n) : ∀ y, a = some y → y.block ≠ d := by
  rintro y rfl rfl
  obtain ⟨_, _, hat⟩ := sliceBytes_spec e
  obtain ⟨b, off, s, k, hx, hk, hkl, _⟩ := hat (by omega)
  cases hx
  have h1 : h.get b = some D.hdr := x.hdr
  rw [hk] at h1
  cases h1
  simp [Dk.hdr] at hkl
  omega

theorem s32_at {h : Heap} {d : Nat} {D : Dk} (a : IsDk h d D) : s32 [ptr d 0] h = some (.tuple #[], putDk h d D.off) := by
  unfold s32 ptr
  simp only [a.of]

theorem arr128 (b off : Nat) : sliceArr 128 1 (ptr b off) none none none = some (.slice (some ⟨b, off, none⟩) 128 128) := by
  unfold sliceArr ptr
  have : boundsA 128 128 none none none = some (0, 128, 128) := rfl
  simp only [this, Nat.zero_mul, Nat.add_zero, ite_self, Nat.sub_zero]

theorem bin28n (a b : Int) : bin Try.prog .neq 28 (.int .i64 a) (.int .i64 b) = some (.bool (a != b)) := bin_neq ..

/-- Bytes laid into one disk's block. -/
theorem lay_told {h g : Heap} {d : Nat} {D E : Dk} {i : Int} {l : List Nat} (u : Upd h d D E g) (hi : E.fault i = 0) (hl : l.length ≤ 128) (hb : ∀ x ∈ l, x < 256) {g' : Heap} (h0 : g'.n0 = g.n0) (_hn : g'.next = g.next)
    (hg : g'.get E.bb = some ((spliceN E.img (i.toNat * 128) l).map u8)) (ho : ∀ e, e ≠ E.bb → g'.get e = g.get e) :
    IsDk g' d (E.lay i l) ∧ (∀ c, c ≠ d → c ≠ D.bb → g'.get c = h.get c) := by
  have o := Dk.lay_okd u.is hi hl hb
  refine ⟨⟨?_, hg, by rw [o.len]; exact u.is.len, o.byte, by rw [h0]; exact u.is.dn, by rw [h0]; exact u.is.bn, u.is.ne, u.is.small, u.is.after, u.is.keep⟩, ?_⟩
  · rw [ho d u.is.ne]; exact u.is.hdr
  · intro c h1 h2
    rw [ho c (by rw [u.like.bb]; exact h2)]; exact u.get c h1
theorem told_of {h g : Heap} {d : Nat} {D E : Dk} (a : IsDk h d D) (b : IsDk g d E) (hb : E.bb = D.bb) (ho : ∀ c, c ≠ d → c ≠ D.bb → g.get c = h.get c) : ∀ b k, (putDk h d E).n0 ≤ b → (putDk h d E).get b = some k → g.get b = some k := by
  intro c k _ hc
  rw [putDk_get a hb] at hc
  split at hc
  · cases hc; rename_i e; rw [e]; exact b.img
  · split at hc
    · cases hc; rename_i e; rw [e]; exact b.hdr
    · rename_i e1 e2; rw [ho c e2 (by rw [← hb]; exact e1)]; exact hc

theorem t19_is (C : CallF) (H53 : ∀ args h, C 53 args h = s53 args h) (H32 : ∀ args h, C 32 args h = s32 args h) {d : Nat} {D : Dk} {h : Heap} (x : IsDk h d D) (i : Int) {a : Option Addr} {n c : Nat} {l : List Nat} (hl : sliceBytes a n h = some l) (hgd : goodS a n c = true) :
    ∃ g, t19 C (ptr d 0) (.int .i64 i) (.slice a n c) h = some (.int .i64 (D.write i l).1, g) ∧ ∀ b k, (putDk h d (D.write i l).2).n0 ≤ b → (putDk h d (D.write i l).2).get b = some k → g.get b = some k := by
  obtain ⟨hlen, hbyte, _⟩ := sliceBytes_spec hl
  unfold t19 Dk.write
  simp -implicitDefEqProofs only [thenV_some, H53, s53_at i x, bin28n, pu_some]
  by_cases hf : D.fault i = 0
  · obtain ⟨hdn, hi1, hi2⟩ := Dk.fault_zero hf
    have hix : idxS 128 (.slice (some ⟨D.bb, 0, none⟩) D.n D.n) (.int .i64 i) = some (ptr D.bb (i.toNat * 128)) := by
      unfold idxS
      simp only [hi1, hi2, and_self, if_true, Nat.zero_add]
    have hroom : i.toNat * 128 + 128 ≤ D.img.length := by have := x.len; omega
    simp -implicitDefEqProofs only [hf, bne_self_eq_false, thenV_some, lenL_slice, pu_some, bin_neq, if_true, hlen]
    by_cases hn : n = 128
    · subst hn
      simp -implicitDefEqProofs only [Int.cast_ofNat_Int, bne_self_eq_false, thenV_some, nilCheck_ptr, pu_some, addP_ptr, Nat.zero_add, x.l2, unA_not, if_true]
      cases har : D.armed with
      | false =>
        obtain ⟨g, hc, g0, gn, gb, go⟩ := copy_bytes (dl := 128) (dc := 128) (s := none) (c := c) x.img x.bn hl (off := i.toNat * 128) (by simpa using hroom)
        simp -implicitDefEqProofs only [Bool.not_false, thenV_some, nilCheck_ptr, pu_some, addP_ptr, Nat.zero_add, x.l0, hix, arr128, hc, Bool.false_eq_true, if_false]
        rw [Nat.min_self, List.take_of_length_le (by omega)] at gb
        obtain ⟨y, yo⟩ := lay_told (.refl x) hf (by omega) hbyte g0 gn gb go
        exact ⟨g, rfl, told_of x y rfl yo⟩
      | true =>
        simp -implicitDefEqProofs only [Bool.not_true, thenV_some, nilCheck_ptr, pu_some, addP_ptr, Nat.zero_add, x.l3, bin_eql, if_true]
        by_cases hz : D.after = 0
        · obtain ⟨kn, hk⟩ : ∃ kn : Nat, D.keep = (kn : Int) := ⟨D.keep.toNat, by have := x.keep; omega⟩
          have hk128 : kn ≤ 128 := by have := x.keep; omega
          have hcl := goodS_le hgd
          obtain ⟨a', c', e1, e2, e3⟩ := slR_bytes (vl := none) (vh := some (.int .i64 D.keep)) (lo := 0) (hi := kn) hgd hl (by omega) hk128 (by
            simp only [boundA]
            rw [if_pos (by omega), hk]; rfl) rfl
          obtain ⟨g, hc, g0, gn, gb, go⟩ := copy_bytes (dl := 128) (dc := 128) (s := none) (c := c') x.img x.bn e2 (off := i.toNat * 128) (by omega)
          have hkt : D.keep.toNat = kn := by omega
          rw [Nat.sub_zero, Nat.min_eq_left hk128] at gb hc
          rw [List.drop_zero, List.take_take, Nat.min_self] at gb
          obtain ⟨y, yo⟩ := lay_told (.refl x) hf (l := l.take kn) (by simp; omega) (fun q hq => hbyte q (List.mem_of_mem_take hq)) g0 gn gb go
          simp -implicitDefEqProofs only [hz, beq_self_eq_true, thenV_some, nilCheck_ptr, pu_some, addP_ptr, Nat.zero_add, x.l0, hix, arr128, x.l4, e1, Nat.sub_zero, hc, if_true]
          have hd2 : ld1 (ptr d 4) h = some (.int .i64 D.keep, h) := x.l4
          simp -implicitDefEqProofs only [H32, s32_at y, thenV_some, hkt]
          have hh := y.put (E := (D.lay i (l.take kn)).off) ⟨((D.lay i (l.take kn)).off_like).bb, ((D.lay i (l.take kn)).off_like).n, by rw [((D.lay i (l.take kn)).off_like).img], by rw [((D.lay i (l.take kn)).off_like).img]; exact y.byte, by unfold Dk.off; split <;> exact x.after, by unfold Dk.off; split <;> exact x.keep⟩
          refine ⟨_, rfl, told_of x hh ((D.lay i (l.take kn)).off_like).bb ?_⟩
          intro e h1 h2
          have hbb := ((D.lay i (l.take kn)).off_like).bb
          rw [putDk_get y hbb, if_neg (by rw [hbb]; exact h2), if_neg h1]
          exact yo e h1 h2
        · have hz2 : (D.after == 0) = false := by simpa using hz
          have hw : IntKind.wrap .i64 (D.after - 1) = D.after - 1 := wrap_i64 (by have := x.after; omega) (by have := x.after; omega)
          have u1 : Upd h d D { D with after := D.after - 1 } _ := (Upd.refl x).step ⟨rfl, rfl, rfl⟩ ⟨by have := x.after; show 0 ≤ D.after - 1; omega, by have := x.after; show D.after - 1 ≤ _; omega⟩ x.keep
          have hl2 : sliceBytes a 128 (h.set d { D with after := D.after - 1 }.hdr) = some l := by
            rw [sliceBytes_congr (h := h) (fun y hy => Heap.get_set_other x.dn x.lt _ (x.bytes_off hl (by omega) y hy))]; exact hl
          obtain ⟨g, hc, g0, gn, gb, go⟩ := copy_bytes (dl := 128) (dc := 128) (s := none) (c := c) u1.is.img u1.is.bn hl2 (off := i.toNat * 128) (by simpa using hroom)
          rw [Nat.min_self, List.take_of_length_le (by omega)] at gb
          obtain ⟨y, yo⟩ := lay_told u1 hf (by omega) hbyte g0 gn gb go
          have hc : copyA 1 (.slice (some ⟨D.bb, i.toNat * 128, none⟩) 128 128) (.slice a 128 c) (h.set d { D with after := D.after - 1 }.hdr) = some (i64n (min 128 128), g) := hc
          have l0 : ld1 (ptr d 0) (h.set d { D with after := D.after - 1 }.hdr) = some (.slice (some ⟨D.bb, 0, none⟩) D.n D.n, h.set d { D with after := D.after - 1 }.hdr) := u1.is.l0
          simp -implicitDefEqProofs only [hz2, thenV_some, nilCheck_ptr, pu_some, addP_ptr, Nat.zero_add, x.l3, bin_sub, hw, x.s3, l0, hix, arr128, hz, if_false, hc]
          exact ⟨g, rfl, told_of x y rfl yo⟩
    · have hn2 : ((n : Int) != 128) = true := by
        have : (n : Int) ≠ 128 := by omega
        simpa using this
      simp -implicitDefEqProofs only [hn2, thenV_some, hn, if_false]
      exact ⟨h, rfl, fun b k _ hb => (putDk_self x b k).2 hb⟩
  · have hf2 : (D.fault i != 0) = true := by simpa using hf
    simp -implicitDefEqProofs only [hf2, thenV_some, hf, if_false]
    exact ⟨h, rfl, fun b k _ hb => (putDk_self x b k).2 hb⟩

end Go.Proofs.Ytcmfgmhadeeieaa

namespace Go.Proofs.Ytcmfgmhadeeieaa
open Go Go.Abs

theorem is19 : IsFn Try.prog 19 Try.f19 := ⟨by kernel_rfl, by kernel_rfl, by kernel_rfl, by kernel_rfl⟩
theorem t19_nil (C : CallF) (H53 : ∀ args h, C 53 args h = s53 args h) (i : Int) (a : Option Addr) (n c : Nat) (h : Heap) : t19 C (.pointer none) (.int .i64 i) (.slice a n c) h = some (.int .i64 1, h) := by
  unfold t19
  have e : s53 [.pointer none, .int .i64 i] h = some (.int .i64 1, h) := rfl
  simp -implicitDefEqProofs only [thenV_some, H53, e, bin28n, pu_some, show ((1 : Int) != 0) = true from rfl]
theorem c19 : Contract Try.prog 19 s19 := by
  refine onDisk (C := callL [(53, s53), (32, s32)]) (callL_sound _ ?_) is19 ?_ ?_
  · intro p hp
    simp only [List.mem_cons, List.not_mem_nil, or_false] at hp
    rcases hp with rfl | rfl
    · exact c53
    · exact c32
  · intro args h v h' e
    rcases s19_inv e with ⟨i, a, n, c, rfl, rfl, rfl⟩ | ⟨d, D, i, a, n, c, l, rfl, x, hl, hg, rfl, rfl⟩
    · exact ⟨fun _ => rfl, .inl rfl⟩
    · exact ⟨fun _ => rfl, .inr ⟨d, D, (D.write i l).2, x, (Dk.write_okd x i (sliceBytes_spec hl).2.1).bb, rfl⟩⟩
  · intro args h v h' e _ _
    rcases s19_inv e with ⟨i, a, n, c, rfl, rfl, rfl⟩ | ⟨d, D, i, a, n, c, l, rfl, x, hl, hg, rfl, rfl⟩
    · exact ⟨h', (t19_eq _ _ _ _ _).trans (t19_nil _ (fun _ _ => rfl) _ _ _ _ _), fun _ _ _ h => h⟩
    · obtain ⟨g, h1, h2⟩ := t19_is (callL [(53, s53), (32, s32)]) (fun _ _ => rfl) (fun _ _ => rfl) x i (c := c) hl hg
      exact ⟨g, (t19_eq _ _ _ _ _).trans h1, h2⟩

/-- Read. -/
def Dk.read (D : Dk) (i : Int) : List Nat := (D.img.drop (i.toNat * 128)).take 128
def newSlice (h : Heap) (n : Nat) : Value := .slice (some ⟨h.next, 0, none⟩) n n
noncomputable def s20 : List Value → Heap → Out
  | [.pointer none, .int .i64 _], h => some (.tuple #[.slice none 0 0, .int .i64 1], h)
  | [.pointer (some ⟨d, 0, none⟩), .int .i64 i], h => match dkOf h d with
    | some D => if D.fault i = 0 then some (.tuple #[newSlice h 128, .int .i64 0], h.alloc ((D.read i).map u8)) else some (.tuple #[.slice none 0 0, .int .i64 (D.fault i)], h)
    | none => none
  | _, _ => none
theorem s20_at {h : Heap} {d : Nat} {D : Dk} (x : IsDk h d D) (i : Int) (hf : D.fault i = 0) : s20 [ptr d 0, .int .i64 i] h = some (.tuple #[newSlice h 128, .int .i64 0], h.alloc ((D.read i).map u8)) := by
  unfold s20 ptr
  simp only [x.of, hf, if_true]
theorem s20_inv {args : List Value} {h h' : Heap} {v : Value} (e : s20 args h = some (v, h')) : (∃ i, args = [.pointer none, .int .i64 i] ∧ v = .tuple #[.slice none 0 0, .int .i64 1] ∧ h' = h) ∨
    ∃ d D i, args = [ptr d 0, .int .i64 i] ∧ IsDk h d D ∧ ((D.fault i = 0 ∧ v = .tuple #[newSlice h 128, .int .i64 0] ∧ h' = h.alloc ((D.read i).map u8)) ∨ (D.fault i ≠ 0 ∧ v = .tuple #[.slice none 0 0, .int .i64 (D.fault i)] ∧ h' = h)) := by
  unfold s20 at e
  split at e
  · cases e; exact .inl ⟨_, rfl, rfl, rfl⟩
  · split at e
    · split at e
      · cases e; exact .inr ⟨_, _, _, rfl, dkOf_spec (by assumption), .inl ⟨by assumption, rfl, rfl⟩⟩
      · cases e; exact .inr ⟨_, _, _, rfl, dkOf_spec (by assumption), .inr ⟨by assumption, rfl, rfl⟩⟩
    · cases e
  · cases e
theorem Dk.read_length {h : Heap} {d : Nat} {D : Dk} (x : IsDk h d D) {i : Int} (hf : D.fault i = 0) : (D.read i).length = 128 := by
  obtain ⟨_, h1, h2⟩ := Dk.fault_zero hf
  have := x.len
  simp only [Dk.read, List.length_take, List.length_drop]
  omega
theorem Dk.read_byte {h : Heap} {d : Nat} {D : Dk} (x : IsDk h d D) (i : Int) : ∀ y ∈ D.read i, y < 256 := fun y hy => x.byte y (List.mem_of_mem_drop (List.mem_of_mem_take hy))

theorem stN_all {h : Heap} {k k' : Blk} (hk : k'.length = k.length) (ho : oneCells k' = true) : stN k.length (ptr h.next 0) (.agg k'.toArray) (h.alloc k) = some (undef, (h.alloc k).set h.next k') := by
  unfold stN ptr
  have hc : (Value.agg k'.toArray).cells = k'.toArray := rfl
  have hg : (h.alloc k).get h.next = some k := by rw [Heap.get_alloc, if_pos rfl]
  simp only [hc, List.size_toArray, hk, if_true]
  unfold stL
  simp only [hg]
  rw [if_pos (by simp [ho, hk, Heap.n0_le_next])]
  have : splice k 0 k' = k' := by simp [splice, hk]
  simp [this]

theorem set_new {h : Heap} {k k' : Blk} {b : Nat} {y : Blk} (hb : (h.alloc k').get b = some y) : ((h.alloc k).set h.next k').get b = some y := by
  rw [Heap.get_alloc] at hb
  have hg : (h.alloc k).get h.next = some k := by rw [Heap.get_alloc, if_pos rfl]
  have h0 : (h.alloc k).n0 ≤ h.next := h.n0_le_next
  split at hb
  · rename_i e; subst e
    rw [Heap.get_set_same h0 hg]; exact hb
  · rename_i e
    rw [Heap.get_set_other h0 (by simp) _ e, Heap.get_alloc, if_neg e]; exact hb

theorem t20_is (C : CallF) (H53 : ∀ args h, C 53 args h = s53 args h) {d : Nat} {D : Dk} {h : Heap} (x : IsDk h d D) (i : Int) (hf : D.fault i = 0) :
    ∃ k, t20 C (ptr d 0) (.int .i64 i) h = some (.tuple #[newSlice h 128, .int .i64 0], (h.alloc k).set h.next ((D.read i).map u8)) := by
  obtain ⟨hdn, hi1, hi2⟩ := Dk.fault_zero hf
  have hlen := Dk.read_length x hf
  have hix : idxS 128 (.slice (some ⟨D.bb, 0, none⟩) D.n D.n) (.int .i64 i) = some (ptr D.bb (i.toNat * 128)) := by
    unfold idxS
    simp only [hi1, hi2, and_self, if_true, Nat.zero_add]
  have hld : ldN 128 (ptr D.bb (i.toNat * 128)) h = some (.agg ((D.read i).map u8).toArray, h) := by
    rw [ldN_at x.img (by have := x.len; simp; omega) (noHoles_part _ _ _)]
    simp [Dk.read]
  have hst := stN_all (h := h) (k := List.replicate 128 (.int .u8 0)) (k' := (D.read i).map u8) (by simp [hlen]) (one_u8 _)
  rw [List.length_replicate] at hst
  unfold t20
  simp -implicitDefEqProofs only [thenV_some, H53, s53_at i x, bin28n, pu_some, hf, bne_self_eq_false, nilCheck_ptr, addP_ptr, Nat.zero_add, x.l0, hix, hld, newC, Abs.newRow, hst, arr128]
  exact ⟨_, rfl⟩
theorem t20_bad (C : CallF) (H53 : ∀ args h, C 53 args h = s53 args h) {p : Value} {h : Heap} (i n : Int) (hs : s53 [p, .int .i64 i] h = some (.int .i64 n, h)) (hn : n ≠ 0) :
    t20 C p (.int .i64 i) h = some (.tuple #[.slice none 0 0, .int .i64 n], h) := by
  have hf2 : (n != 0) = true := by simpa using hn
  unfold t20
  simp -implicitDefEqProofs only [thenV_some, H53, hs, bin28n, pu_some, hf2]
theorem is20 : IsFn Try.prog 20 Try.f20 := ⟨by kernel_rfl, by kernel_rfl, by kernel_rfl, by kernel_rfl⟩
theorem c20 : Contract Try.prog 20 s20 := by
  refine .mk' (C := callL [(53, s53)]) (callL_sound _ ?_) mixed is20 ?_ ?_
  · intro p hp
    simp only [List.mem_cons, List.not_mem_nil, or_false] at hp
    rcases hp with rfl
    exact c53
  · intro args h v h' e
    rcases s20_inv e with ⟨i, rfl, rfl, rfl⟩ | ⟨d, D, i, rfl, x, ⟨hf, rfl, rfl⟩ | ⟨hf, rfl, rfl⟩⟩
    · exact ⟨Grow.refl _, fun _ h => ⟨rfl, h⟩⟩
    · exact ⟨Grow.alloc _ _, fun _ h => ⟨by simp [newSlice, bdV, bdL], h.alloc (bd_u8 _ _)⟩⟩
    · exact ⟨Grow.refl _, fun _ h => ⟨rfl, h⟩⟩
  · intro args h v h' e _ hh
    rcases s20_inv e with ⟨i, rfl, rfl, rfl⟩ | ⟨d, D, i, rfl, x, ⟨hf, rfl, rfl⟩ | ⟨hf, rfl, rfl⟩⟩
    · exact ⟨_, h', id, (t20_eq _ _ _ _).trans (t20_bad _ (fun _ _ => rfl) i 1 rfl (by decide)), .none rfl hh (fun _ _ _ h => h)⟩
    · obtain ⟨k, h1⟩ := t20_is (callL [(53, s53)]) (fun _ _ => rfl) x i hf
      refine ⟨_, _, id, (t20_eq _ _ _ _).trans h1, .sub (by simp [newSlice, bdV, bdL]) (hh.alloc (bd_u8 _ _)) ?_⟩
      intro b k' _ hb
      exact set_new hb
    · exact ⟨_, h', id, (t20_eq _ _ _ _).trans (t20_bad _ (fun _ _ => rfl) i _ (s53_at i x) hf), .none rfl hh (fun _ _ _ h => h)⟩

/-- NewDisk. -/
def Dk.new (h : Heap) (n : Nat) : Dk := { bb := h.next, n := n, img := List.replicate (128 * n) 0, down := false, armed := false, after := 0, keep := 0, turn := 0 }
def newDk (h : Heap) (n : Nat) : Heap := (h.alloc ((Dk.new h n).img.map u8)).alloc (Dk.new h n).hdr
noncomputable def s18 : List Value → Heap → Out
  | [.int .i64 n], h => if 4 ≤ n ∧ n ≤ 4096 then some (.tuple #[ptr (h.next + 1) 0, .int .i64 0], newDk h n.toNat) else some (.tuple #[.pointer none, .int .i64 2], h)
  | _, _ => none
theorem s18_at {h : Heap} {n : Int} (hn : 4 ≤ n ∧ n ≤ 4096) : s18 [.int .i64 n] h = some (.tuple #[ptr (h.next + 1) 0, .int .i64 0], newDk h n.toNat) := by
  unfold s18
  simp only [hn, and_self, if_true]
theorem new_is (h : Heap) {n : Nat} (hn : n ≤ 4096) : IsDk (newDk h n) (h.next + 1) (Dk.new h n) := by
  have hn0 := h.n0_le_next
  refine ⟨?_, ?_, by simp [Dk.new], ?_, ?_, ?_, ?_, hn, by simp [Dk.new], by simp [Dk.new]⟩
  · unfold newDk; rw [Heap.get_alloc, if_pos (by simp)]
  · unfold newDk
    rw [Heap.get_alloc, if_neg (by simp [Dk.new]), Heap.get_alloc, show (Dk.new h n).bb = h.next from rfl, if_pos rfl]
  · intro y hy
    rw [show (Dk.new h n).img = List.replicate (128 * n) 0 from rfl] at hy
    rw [List.eq_of_mem_replicate hy]; decide
  · show h.n0 ≤ h.next + 1; omega
  · show h.n0 ≤ h.next; omega
  · show h.next + 1 ≠ h.next; omega
theorem new_kept (h : Heap) (n : Nat) (B : Nat → Prop) : Kept h (newDk h n) B := (Kept.alloc h _ B).trans (Kept.alloc _ _ B)
theorem zeros128 (n : Nat) : zeros (List.replicate 128 (.int .u8 0)) n = (List.replicate (128 * n) 0).map u8 := by
  unfold zeros
  rw [List.map_replicate]
  induction n with
  | zero => rfl
  | succ n ih =>
    rw [List.range_succ, List.flatMap_append, ih]
    simp only [List.flatMap_cons, List.flatMap_nil, List.append_nil, u8]
    rw [show ((0 : Nat) : Int) = 0 from rfl, List.replicate_append_replicate]
    congr 1
theorem mk128 {h : Heap} {n : Nat} (hn : n ≤ 4096) :
    mkR 128 128 (.agg (List.replicate 128 (Value.int .u8 0)).toArray) (i64n n) (i64n n) h = some (newSlice h n, h.alloc ((List.replicate (128 * n) 0).map u8)) := by
  have hc : (Value.agg (List.replicate 128 (Value.int .u8 0)).toArray).cells = (List.replicate 128 (Value.int .u8 0)).toArray := rfl
  unfold mkR
  simp only [hc]
  rw [if_pos (by
    simp only [Bool.and_eq_true, decide_eq_true_eq, beq_iff_eq]
    refine ⟨⟨⟨⟨⟨⟨by omega, Int.le_refl _⟩, by omega⟩, by omega⟩, by simp [flatAll, flat]⟩, by simp⟩, by decide⟩)]
  rw [Int.toNat_natCast, zeros128]
  rfl

end Go.Proofs.Ytcmfgmhadeeieaa

namespace Go.Proofs.Ytcmfgmhadeeieaa
open Go Go.Abs

theorem t18_is (C : CallF) {h : Heap} {n : Nat} (h4 : 4 ≤ n) (hn : n ≤ 4096) : t18 C (i64n n) h = some (.tuple #[ptr (h.next + 1) 0, .int .i64 0], newDk h n) := by
  have e1 : ¬ ((n : Int) < 4) := by omega
  have e2 : ¬ ((n : Int) > 4096) := by omega
  have e3 : bldR [(.slice none 0 0), (.bool false), (.bool false), (.int .i64 0), (.int .i64 0), (.int .i64 0)] [(0, 1, newSlice h n)] = some (.agg (Dk.new h n).hdr.toArray) := rfl
  have e4 : box (.agg (Dk.new h n).hdr.toArray) (h.alloc ((List.replicate (128 * n) 0).map u8)) = some (ptr (h.next + 1) 0, newDk h n) := rfl
  unfold t18
  simp -implicitDefEqProofs only [thenV_some, bin_lss, pu_some, e1, decide_false, bOf_bool, beq_self_eq_true, guardK_true, bin_gtr, e2, Bool.false_eq_true, if_false, mk128 hn, e3, e4]
theorem t18_bad (C : CallF) {h : Heap} {n : Int} (hn : ¬ (4 ≤ n ∧ n ≤ 4096)) : t18 C (.int .i64 n) h = some (.tuple #[.pointer none, .int .i64 2], h) := by
  unfold t18
  simp -implicitDefEqProofs only [thenV_some, bin_lss, pu_some]
  by_cases h1 : n < 4
  · simp -implicitDefEqProofs only [h1, decide_true, bOf_bool, sf, guardK_false, thenV_some, if_true]
  · have h2 : n > 4096 := by omega
    simp -implicitDefEqProofs only [h1, decide_false, bOf_bool, beq_self_eq_true, guardK_true, thenV_some, pu_some, bin_gtr, h2, decide_true, Bool.false_eq_true, if_false]
theorem is18 : IsFn Try.prog 18 Try.f18 := ⟨by kernel_rfl, by kernel_rfl, by kernel_rfl, by kernel_rfl⟩
theorem s18_inv {args : List Value} {h h' : Heap} {v : Value} (e : s18 args h = some (v, h')) : ∃ n : Int, args = [.int .i64 n] ∧ (((4 ≤ n ∧ n ≤ 4096) ∧ v = .tuple #[ptr (h.next + 1) 0, .int .i64 0] ∧ h' = newDk h n.toNat) ∨ (¬ (4 ≤ n ∧ n ≤ 4096) ∧ v = .tuple #[.pointer none, .int .i64 2] ∧ h' = h)) := by
  unfold s18 at e
  split at e
  · split at e
    · cases e; exact ⟨_, rfl, .inl ⟨by assumption, rfl, rfl⟩⟩
    · cases e; exact ⟨_, rfl, .inr ⟨by assumption, rfl, rfl⟩⟩
  · cases e
theorem newDk_bd {h : Heap} (hh : HeapBd h) (n : Nat) : HeapBd (newDk h n) := (hh.alloc (bd_u8 _ _)).alloc (bd_hdr (D := Dk.new h n) (by simp [Dk.new]; omega))
theorem c18 : Contract Try.prog 18 s18 := by
  refine .mk' (C := callL []) (callL_sound [] (by simp)) mixed is18 ?_ ?_
  · intro args h v h' e
    obtain ⟨n, rfl, ⟨hn, rfl, rfl⟩ | ⟨hn, rfl, rfl⟩⟩ := s18_inv e
    · exact ⟨(Grow.alloc _ _).trans (Grow.alloc _ _), fun _ h => ⟨by simp [newDk, bdV, bdL, ptr], newDk_bd h _⟩⟩
    · exact ⟨Grow.refl _, fun _ h => ⟨rfl, h⟩⟩
  · intro args h v h' e _ hh
    obtain ⟨n, rfl, ⟨hn, rfl, rfl⟩ | ⟨hn, rfl, rfl⟩⟩ := s18_inv e
    · obtain ⟨m, rfl⟩ : ∃ m : Nat, n = m := ⟨n.toNat, by omega⟩
      exact ⟨_, _, id, (t18_eq _ _ _).trans (t18_is _ (by omega) (by omega)), .sub (by simp [newDk, bdV, bdL, ptr]) (newDk_bd hh _) (fun b k _ hb => hb)⟩
    · exact ⟨_, _, id, (t18_eq _ _ _).trans (t18_bad _ hn), .none rfl hh (fun _ _ _ h => h)⟩

/-- Bytes appended where there is room. -/
theorem append_bytes {h : Heap} {b off len cap n c : Nat} {s : Option Nat} {a : Option Addr} {img l : List Nat} (hb : h.get b = some (img.map u8)) (h0 : h.n0 ≤ b) (hs : sliceBytes a n h = some l)
    (hroom : len + n ≤ cap) (hlen : off + len + n ≤ img.length) (hcap : cap ≤ 140737488355328) :
    ∃ g, appendA 1 1 (.slice (some ⟨b, off, s⟩) len cap) (.slice a n c) h = some (.slice (some ⟨b, off, s⟩) (len + n) cap, g) ∧ g.n0 = h.n0 ∧ g.next = h.next ∧ g.get b = some ((spliceN img (off + len) l).map u8) ∧ (∀ e, e ≠ b → g.get e = h.get e) := by
  have hl := (sliceBytes_spec hs).1
  have hf := firstA_of hs (Nat.le_refl n) (c := c)
  rw [List.take_of_length_le (by omega)] at hf
  unfold appendA
  simp only [lenA]
  rw [hf]
  simp only [one_u8, Bool.not_true, Bool.false_or]
  rw [if_neg (by
    simp only [List.length_map, Bool.or_eq_true, Bool.not_eq_true', decide_eq_false_iff_not, decide_eq_true_eq, not_or, Nat.not_le]
    exact ⟨⟨by omega, by omega⟩, by omega⟩), if_pos hroom]
  by_cases h1 : n = 0
  · subst h1
    have : l = [] := List.length_eq_zero_iff.1 hl
    subst this
    rw [if_pos rfl]
    exact ⟨h, rfl, rfl, rfl, by rw [hb]; simp [spliceN], fun _ _ => rfl⟩
  · rw [if_neg h1]
    refine ⟨h.set b ((spliceN img (off + len) l).map u8), ?_, rfl, rfl, Heap.get_set_same h0 hb _, fun e he => Heap.get_set_other h0 (h.lt_of_get hb) _ he⟩
    unfold stL
    simp only [hb]
    rw [if_pos (by simp only [one_u8, List.length_map, Bool.and_true, Bool.and_eq_true, decide_eq_true_eq]; exact ⟨h0, by omega⟩), Nat.mul_one, spliceN_map]
    rfl

theorem zeros1 (n : Nat) : zeros [.int .u8 0] n = (List.replicate n 0).map u8 := by
  unfold zeros
  rw [List.map_replicate]
  induction n with
  | zero => rfl
  | succ n ih => rw [List.range_succ, List.flatMap_append, ih, List.replicate_succ']; rfl
theorem mk1 {h : Heap} {n c : Nat} (hn : n ≤ c) (hc : c ≤ 281474976710656) :
    mkR 1 1 (.int .u8 0) (i64n n) (i64n c) h = some (.slice (some ⟨h.next, 0, none⟩) n c, h.alloc ((List.replicate c 0).map u8)) := by
  have e : (Value.int .u8 0).cells = #[.int .u8 0] := rfl
  unfold mkR
  simp only [e]
  rw [if_pos (by
    simp only [Bool.and_eq_true, decide_eq_true_eq, beq_iff_eq]
    refine ⟨⟨⟨⟨⟨⟨by omega, by omega⟩, by omega⟩, by omega⟩, rfl⟩, rfl⟩, by decide⟩)]
  rw [Int.toNat_natCast, Int.toNat_natCast, zeros1]

/-- Image. -/
noncomputable def s25 : List Value → Heap → Out
  | [.pointer none], h => some (.slice none 0 0, h)
  | [.pointer (some ⟨d, 0, none⟩)], h => match dkOf h d with
    | some D => some (newSlice h (128 * D.n), h.alloc (D.img.map u8))
    | none => none
  | _, _ => none
theorem s25_at {h : Heap} {d : Nat} {D : Dk} (x : IsDk h d D) : s25 [ptr d 0] h = some (newSlice h (128 * D.n), h.alloc (D.img.map u8)) := by
  unfold s25 ptr
  simp only [x.of]
theorem t25_nil (C : CallF) (h : Heap) : t25 C (.pointer none) h = some (.slice none 0 0, h) := by
  unfold t25
  simp -implicitDefEqProofs only [thenV_some, nil27e', pu_some]

theorem blockBytes {h : Heap} {d : Nat} {D : Dk} (x : IsDk h d D) {i : Nat} (hi : i < D.n) : sliceBytes (some ⟨D.bb, i * 128, none⟩) 128 h = some ((D.img.drop (i * 128)).take 128) := by
  unfold sliceBytes
  rw [Option.bind_eq_some_iff]
  refine ⟨((D.img.drop (i * 128)).take 128).map u8, ?_, bytesOf_map (fun y hy => x.byte y (List.mem_of_mem_drop (List.mem_of_mem_take hy)))⟩
  simp only [firstA, x.img]
  rw [if_neg (by decide), if_pos ⟨by have := x.len; simp; omega, noHoles_part _ _ _⟩]
  simp

theorem t25_is (C : CallF) {d : Nat} {D : Dk} {h : Heap} (x : IsDk h d D) : ∃ g, t25 C (ptr d 0) h = some (newSlice h (128 * D.n), g) ∧ ∀ b k, (h.alloc (D.img.map u8)).get b = some k → g.get b = some k := by
  have hw : IntKind.wrap .i64 ((D.n : Int) * 128) = ((128 * D.n : Nat) : Int) := by
    rw [wrap_i64 (by omega) (by have := x.small; omega)]
    omega
  have hmk := mk1 (h := h) (n := 0) (c := 128 * D.n) (by omega) (by have := x.small; omega)
  have x0 : IsDk (h.alloc ((List.replicate (128 * D.n) 0).map u8)) d D := x.mono rfl (by rw [Heap.get_alloc, if_neg (by have := x.lt; omega)]) (by rw [Heap.get_alloc, if_neg (by have := x.blt; omega)])
  have hg0 : (h.alloc ((List.replicate (128 * D.n) 0).map u8)).get h.next = some ((List.replicate (128 * D.n) 0).map u8) := by rw [Heap.get_alloc, if_pos rfl]
  unfold t25
  simp -implicitDefEqProofs only [thenV_some, nil27e, pu_some, nilCheck_ptr, addP_ptr, Nat.zero_add, x.l0, lenL_slice, bin_mul, hw]
  rw [show (Value.int .i64 0) = i64n 0 from rfl, hmk]
  simp -implicitDefEqProofs only [thenV_some, pu_some, nilCheck_ptr, addP_ptr, Nat.zero_add, x0.l0, lenL_slice]
  obtain ⟨ex, y, g, h1, rfl, r3, rg, rk⟩ := loop_inv (t25l25_111010_eq C)
    (Inv := fun k y g => k ≤ D.n ∧ y 0 = ptr d 0 ∧ y 3 = .slice (some ⟨h.next, 0, none⟩) (128 * (D.n - k)) (128 * D.n) ∧ y 18 = i64n D.n ∧ y 19 = i64n (D.n - k) ∧
      g.get h.next = some ((D.img.take (128 * (D.n - k)) ++ List.replicate (128 * k) 0).map u8) ∧ g.n0 = h.n0 ∧ g.next = h.next + 1 ∧ ∀ c, c ≠ h.next → g.get c = h.get c)
    (fin := fun ex y g => ex = .exit 0 ∧ y 3 = newSlice h (128 * D.n) ∧ g.get h.next = some (D.img.map u8) ∧ ∀ c, c ≠ h.next → g.get c = h.get c)
    (by
      rintro k y g ⟨hk, i0, i3, i18, i19, ig, in0, inx, io⟩
      have hlen := x.len
      have hsm := x.small
      have xg : IsDk g d D := x.mono in0 (io d (by have := x.lt; omega)) (io D.bb (by have := x.blt; omega))
      unfold t25l25_111010
      simp -implicitDefEqProofs only [i18, i19, bin_lss, pu_some, thenV_some]
      by_cases hz : k = 0
      · subst hz
        simp -implicitDefEqProofs only [Nat.sub_zero, Int.lt_irrefl, decide_false]
        refine ⟨_, _, _, rfl, .inr ⟨by simp, rfl, ?_, ?_, io⟩⟩
        · simp only [up_cons, up_nil, Nat.reduceEqDiff, if_false, i3, Nat.sub_zero]; rfl
        · rw [ig, Nat.sub_zero, List.take_of_length_le (by omega)]; simp
      · have hlt : ((D.n - k : Nat) : Int) < (D.n : Int) := by omega
        have hix : idxS 128 (.slice (some ⟨D.bb, 0, none⟩) D.n D.n) (i64n (D.n - k)) = some (ptr D.bb ((D.n - k) * 128)) := by
          unfold idxS
          simp only [i64n]
          rw [if_pos (by omega), Int.toNat_natCast, Nat.zero_add]
        obtain ⟨g', ha, q1, q2, q3, q4⟩ := append_bytes (b := h.next) (off := 0) (len := 128 * (D.n - k)) (cap := 128 * D.n) (s := none) (c := 128) ig (by rw [in0]; exact h.n0_le_next) (blockBytes xg (i := D.n - k) (by omega))
          (by omega) (by simp; omega) (by omega)
        simp -implicitDefEqProofs only [decide_eq_true hlt, thenV_some, i3, i0, nilCheck_ptr, pu_some, addP_ptr, Nat.zero_add, xg.l0, hix, arr128, ha, bin_add]
        refine ⟨_, _, _, rfl, .inl ⟨rfl, k - 1, by omega, by omega, ?_⟩⟩
        have e1 : D.n - (k - 1) = D.n - k + 1 := by omega
        simp only [up_cons, up_nil, Nat.reduceEqDiff, if_false, if_true, i0, i18, true_and, e1]
        refine ⟨by rw [Nat.mul_add], ?_, ?_, q1.trans in0, q2.trans inx, fun c hc => (q4 c hc).trans (io c hc)⟩
        · rw [wrap_i64 (by omega) (by omega)]; rfl
        · rw [q3]
          refine congrArg (fun q => some (List.map u8 q)) ?_
          have m1 : (D.img.take (128 * (D.n - k))).length = 128 * (D.n - k) := by simp; omega
          have m2 : ((D.img.drop ((D.n - k) * 128)).take 128).length = 128 := by simp; omega
          unfold spliceN
          rw [Nat.zero_add, m2, List.take_left' m1, List.drop_append, m1]
          have m3 : List.drop (128 * (D.n - k) + 128) (List.take (128 * (D.n - k)) D.img) = [] := List.drop_eq_nil_of_le (by rw [m1]; omega)
          have m4 : 128 * k - (128 * (D.n - k) + 128 - 128 * (D.n - k)) = 128 * (k - 1) := by omega
          have m5 : 128 * (D.n - k + 1) = 128 * (D.n - k) + 128 := by omega
          rw [m3, List.nil_append, List.drop_replicate, m4, m5, List.take_add, Nat.mul_comm 128 (D.n - k)])
    (k := D.n) (by have : rounds = 18446744073709551616 := rfl; have := x.small; omega)
    (x := up (bs [ptr d 0]) [(2, .slice none 0 0), (3, .slice (some ⟨h.next, 0, none⟩) 0 (128 * D.n)), (5, ptr d 0), (6, .bool false), (7, ptr d 0), (8, ptr d 0), (9, ptr d 0), (10, .slice (some ⟨D.bb, 0, none⟩) D.n D.n), (11, i64n D.n), (12, i64n (128 * D.n)), (13, .slice (some ⟨h.next, 0, none⟩) 0 (128 * D.n)), (14, ptr d 0), (15, ptr d 0), (16, ptr d 0), (17, .slice (some ⟨D.bb, 0, none⟩) D.n D.n), (18, i64n D.n), (19, i64n 0)])
    (h := h.alloc ((List.replicate (128 * D.n) 0).map u8))
    ⟨Nat.le_refl _, rfl, by rw [Nat.sub_self]; rfl, rfl, by rw [Nat.sub_self]; rfl, by rw [Nat.sub_self, hg0]; simp, rfl, rfl, fun c hc => by rw [Heap.get_alloc, if_neg hc]⟩
  rw [h1]
  simp -implicitDefEqProofs only [endL_exit, b25_7, if_true, t25k25_5_eq]
  unfold t25k25_5
  simp -implicitDefEqProofs only [r3, thenV_some]
  refine ⟨g, rfl, ?_⟩
  intro b k hb
  rw [Heap.get_alloc] at hb
  split at hb
  · rename_i e; subst e; rw [rg]; exact hb
  · rw [rk b (by assumption)]; exact hb
theorem is25 : IsFn Try.prog 25 Try.f25 := ⟨by kernel_rfl, by kernel_rfl, by kernel_rfl, by kernel_rfl⟩
theorem c25 : Contract Try.prog 25 s25 := by
  have key : ∀ args h v h', s25 args h = some (v, h') → (args = [.pointer none] ∧ v = .slice none 0 0 ∧ h' = h) ∨ ∃ d D, args = [ptr d 0] ∧ IsDk h d D ∧ v = newSlice h (128 * D.n) ∧ h' = h.alloc (D.img.map u8) := by
    intro args h v h' e
    unfold s25 at e
    split at e
    · cases e; exact .inl ⟨rfl, rfl, rfl⟩
    · split at e
      · cases e; exact .inr ⟨_, _, rfl, dkOf_spec (by assumption), rfl, rfl⟩
      · cases e
    · cases e
  refine .mk' (C := callL []) (callL_sound [] (by simp)) mixed is25 ?_ ?_
  · intro args h v h' e
    rcases key _ _ _ _ e with ⟨rfl, rfl, rfl⟩ | ⟨d, D, rfl, x, rfl, rfl⟩
    · exact ⟨Grow.refl _, fun _ h => ⟨rfl, h⟩⟩
    · exact ⟨Grow.alloc _ _, fun _ h => ⟨by simp [newSlice, bdV], h.alloc (bd_u8 _ _)⟩⟩
  · intro args h v h' e _ hh
    rcases key _ _ _ _ e with ⟨rfl, rfl, rfl⟩ | ⟨d, D, rfl, x, rfl, rfl⟩
    · exact ⟨_, _, id, (t25_eq _ _ _).trans (t25_nil _ _), .none rfl hh (fun _ _ _ h => h)⟩
    · obtain ⟨g, h1, h2⟩ := t25_is (callL []) x
      exact ⟨_, g, id, (t25_eq _ _ _).trans h1, .sub (by simp [newSlice, bdV]) (hh.alloc (bd_u8 _ _)) (fun b k _ hb => h2 b k hb)⟩

end Go.Proofs.Ytcmfgmhadeeieaa

namespace Go.Proofs.Ytcmfgmhadeeieaa
open Go Go.Abs

def strOf (l : List Nat) : ByteArray := ⟨(l.map UInt8.ofNat).toArray⟩
theorem mapM_asByte : ∀ {l : List Nat}, (l.map u8).mapM asByte = some (l.map UInt8.ofNat)
  | [] => rfl
  | n :: l => by
    have ih := mapM_asByte (l := l)
    rw [List.map_cons, List.mapM_cons, ih]
    rfl
theorem cvBS_at {a : Option Addr} {n c : Nat} {h : Heap} {l : List Nat} (e : sliceBytes a n h = some l) : cvBS (.slice a n c) h = some (.string (strOf l), h) := by
  have hl := (sliceBytes_spec e).1
  have hf := firstA_of e (Nat.le_refl n) (c := c)
  rw [List.take_of_length_le (by omega)] at hf
  unfold cvBS bsR
  simp only [hf, mapM_asByte]
  rfl
theorem bin_str_neq (t : TypeId) (a b : ByteArray) : bin Try.prog .neq t (.string a) (.string b) = some (.bool (!(a.toList == b.toList))) := by
  unfold bin binA
  rfl

theorem sliceBytes_at {h : Heap} {b off n : Nat} {s : Option Nat} {l : List Nat} (hg : h.get b = some (l.map u8)) (hl : off + n ≤ l.length) (hb : ∀ x ∈ l, x < 256) : sliceBytes (some ⟨b, off, s⟩) n h = some ((l.drop off).take n) := by
  unfold sliceBytes
  rw [Option.bind_eq_some_iff]
  refine ⟨((l.drop off).take n).map u8, ?_, bytesOf_map (fun y hy => hb y (List.mem_of_mem_drop (List.mem_of_mem_take hy)))⟩
  simp only [firstA, hg, Nat.mul_one]
  by_cases h0 : n = 0
  · rw [if_pos h0, h0]; rfl
  · rw [if_neg h0, if_pos ⟨by simpa using hl, noHoles_part _ _ _⟩]
    simp
end Go.Proofs.Ytcmfgmhadeeieaa

namespace Go.Proofs.Ytcmfgmhadeeieaa
open Go Go.Abs

def partB (f : Nat → Nat) (m : Nat) : List Nat := (List.range 128).map fun j => if j < m then f j else 0
section
variable (C : CallF)
end
end Go.Proofs.Ytcmfgmhadeeieaa

namespace Go.Proofs.Ytcmfgmhadeeieaa
open Go Go.Abs

theorem bin4n (a b : Bool) : bin Try.prog .neq 4 (.bool a) (.bool b) = some (.bool (a != b)) := by
  cases a <;> cases b <;> kernel_rfl
theorem bin28e (a b : Int) : bin Try.prog .eql 28 (.int .i64 a) (.int .i64 b) = some (.bool (a == b)) := bin_eql ..

def fb (i : Nat) : List Nat := partB (fun j => (i + j + 1) % 256) 128
section
variable (C : CallF) (H19 : ∀ args h, C 19 args h = s19 args h)
include H19
end
end Go.Proofs.Ytcmfgmhadeeieaa

namespace Go.Proofs.Ytcmfgmhadeeieaa
open Go Go.Abs

section
variable (C : CallF) (H14 : ∀ args h, C 14 args h = s14 args h) (H18 : ∀ args h, C 18 args h = s18 args h) (H48 : ∀ args h, C 48 args h = s48 args h) (H19 : ∀ args h, C 19 args h = s19 args h)
  (H20 : ∀ args h, C 20 args h = s20 args h) (H36 : ∀ args h, C 36 args h = s36 args h) (H25 : ∀ args h, C 25 args h = s25 args h) (H33 : ∀ args h, C 33 args h = s33 args h)
include H19
include H14 H20 H36 H25 H33
include H18 H48
end

end Go.Proofs.Ytcmfgmhadeeieaa

namespace Go.Proofs.Ytcmfgmhadeeieaa
open Go Go.Abs
open Go.ChangeShapes Go.WideShapes Go.ChangeAt Go.RowKit

/-- A value that is a slice of bytes with these bytes. -/
def BytesV (h : Heap) (v : Value) (l : List Nat) : Prop := ∃ a n c, v = .slice a n c ∧ sliceBytes a n h = some l ∧ n ≤ maxLen
/-- A value that is a list of records. -/
def RecsV (h : Heap) (v : Value) (ls : List (List Nat)) : Prop :=
  ∃ a n c, v = .slice a n c ∧ ls.length = n ∧ n ≤ maxLen ∧ ∀ i, i < n → ∃ b off s k rv, a = some ⟨b, off, s⟩ ∧ h.get b = some k ∧ k[off + i]? = some rv ∧ isHole rv = false ∧ BytesV h rv (ls.getD i [])

/-- A call on a disk, as the statements have it. -/
structure OpD where
  kind : Int
  A : Int
  B : Int
  mask : Nat
  data : List Nat
  recs : List (List Nat)
structure OpV (h : Heap) (k : Blk) (o : Nat) (op : OpD) : Prop where
  kind : k[o]? = some (.int .i64 op.kind)
  A : k[o + 1]? = some (.int .i64 op.A)
  B : k[o + 2]? = some (.int .i64 op.B)
  mask : k[o + 3]? = some (u8 op.mask)
  data : ∃ v, k[o + 4]? = some v ∧ isHole v = false ∧ BytesV h v op.data
  recs : ∃ v, k[o + 5]? = some v ∧ isHole v = false ∧ RecsV h v op.recs
  wf : inI64 op.kind = true ∧ inI64 op.A = true ∧ inI64 op.B = true ∧ op.mask < 256
def OpsV (h : Heap) (v : Value) (ops : List OpD) : Prop :=
  ∃ a n c, v = .slice a n c ∧ ops.length = n ∧ n ≤ maxLen ∧ ∀ i, i < n → ∃ b off s k, a = some ⟨b, off, s⟩ ∧ h.get b = some k ∧ ∃ op, ops[i]? = some op ∧ OpV h k (off + i * 6) op

section
variable {H : Type} {enc : TypeId × Value → H} {W : World} {base : Nat} {held : Bool}

theorem cells32 : Try.prog.cellsOf 5 = 1 := by kernel_rfl
theorem u8_lit {n : Int} (h : (Lit.int .u8 n).wf = true) : ∃ m : Nat, n = m ∧ m < 256 := by
  simp [Lit.wf, IntKind.min, IntKind.max, IntKind.signed, IntKind.bits] at h
  exact ⟨n.toNat, by omega, by omega⟩
theorem clean_flat {n : Nat} {v : Value} (h : nice n v = true) : clean n v = v := by unfold clean; rw [if_pos h]

/-- The value of a slice, cleaned: a slice with the same length that reads the same cells. -/
theorem clean_slice {a : Addr} {len cap : Nat} (hlc : len ≤ cap) (hc : 0 < cap → a.spot = none ∧ a.block < W.heap.size) :
    isHole (clean W.heap.size (.slice (some a) len cap)) = false ∧ ∃ a' , clean W.heap.size (.slice (some a) len cap) = .slice (some a') len cap ∧ (0 < cap → a' = a) := by
  obtain ⟨b, off, s⟩ := a
  by_cases h0 : 0 < cap
  · obtain ⟨h1, h2⟩ := hc h0
    have h1' : s = none := h1
    have h2' : b < W.heap.size := h2
    subst h1'
    have hn : nice W.heap.size (.slice (some ⟨b, off, none⟩) len cap) = true := by simpa [nice] using h2'
    rw [clean_flat hn]
    exact ⟨rfl, _, rfl, fun _ => rfl⟩
  · obtain rfl : cap = 0 := by omega
    obtain rfl : len = 0 := by omega
    by_cases hn : nice W.heap.size (.slice (some ⟨b, off, s⟩) 0 0) = true
    · rw [clean_flat hn]
      exact ⟨rfl, _, rfl, fun h => absurd h h0⟩
    · have : clean W.heap.size (.slice (some ⟨b, off, s⟩) 0 0) = .slice (some ⟨0, 0, some 0⟩) 0 0 := by unfold clean; rw [if_neg hn]; rfl
      rw [this]
      exact ⟨rfl, _, rfl, fun h => absurd h h0⟩

theorem bytes_of_cells {h : Heap} {b off len : Nat} {s : Option Nat} {k : Blk} {l : List Nat} (hk : h.get b = some k) (hlen : l.length = len) (hb : ∀ x ∈ l, x < 256) (hc : ∀ i, i < len → k[off + i]? = some (u8 (l.getD i 0))) :
    sliceBytes (some ⟨b, off, s⟩) len h = some l := by
  unfold sliceBytes
  rw [Option.bind_eq_some_iff]
  refine ⟨l.map u8, ?_, bytesOf_map hb⟩
  simp only [firstA, hk, Nat.mul_one]
  by_cases h0 : len = 0
  · subst h0
    have : l = [] := List.length_eq_zero_iff.1 hlen
    subst this; rfl
  · have hcells : (k.drop off).take len = l.map u8 := by
      apply List.ext_getElem?
      intro i
      rw [List.getElem?_take, List.getElem?_drop, List.getElem?_map]
      by_cases hi : i < len
      · rw [if_pos hi, hc i hi, List.getD_eq_getElem?_getD, List.getElem?_eq_getElem (by omega)]
        rfl
      · rw [if_neg hi, List.getElem?_eq_none (by omega)]; rfl
    have hl2 : off + len ≤ k.length := by
      have := hc (len - 1) (by omega)
      have := (List.getElem?_eq_some_iff.1 this).1
      omega
    rw [if_neg h0, if_pos ⟨hl2, by rw [hcells]; exact noHoles_u8 _⟩, hcells]

theorem trod_bytes {fuel : Nat} {v : Value} {x : DataW H × List MemPlace} (h : DataW.trod enc Try.prog W base (fun _ => true) held fuel 32 [v] = some x) :
    isHole (clean W.heap.size v) = false ∧ ∃ l, BytesV (topHeap W (view W)) (clean W.heap.size v) l := by
  rcases open_ints Try.underlying32 Try.underlying5 cells32 h with ⟨h1, _⟩ | ⟨a, len, cap, zs, h1, _, hlc, hcm, hzl, _, hcell, hwf⟩
  · cases h1
    exact ⟨rfl, [], none, 0, 0, rfl, rfl, Nat.zero_le _⟩
  · cases h1
    simp only [if_true] at hzl
    have hpos : 0 < cap → a.spot = none ∧ a.block < W.heap.size := by
      intro h0
      obtain ⟨e1, e2, _⟩ := view_cell (hcell 0 (by omega))
      exact ⟨e1, e2⟩
    obtain ⟨g1, a', g2, g3⟩ := clean_slice (W := W) hlc hpos
    refine ⟨g1, ((zs.take len).map Int.toNat), a', len, cap, g2, ?_, by omega⟩
    by_cases h0 : 0 < cap
    · have ha := g3 h0
      subst ha
      obtain ⟨b, off, s⟩ := a'
      obtain ⟨e1, _⟩ := hpos h0
      have e1' : s = none := e1
      subst e1'
      have get : ∀ i, i < cap → ∃ k, view W b = some k ∧ k[off + i]? = some (.int .u8 (zs.getD i 0)) := by
        intro i hi
        have g := hcell i (by omega)
        rw [Addr.add_lit] at g
        obtain ⟨_, _, k, hk, hc⟩ := view_cell g
        exact ⟨k, hk, hc⟩
      obtain ⟨k, hk, _⟩ := get 0 h0
      refine bytes_of_cells (k := k) (by rw [view_get]; exact hk) (by simp; omega) ?_ ?_
      · intro y hy
        obtain ⟨z, hz, rfl⟩ := List.mem_map.1 hy
        obtain ⟨m, rfl, hm⟩ := u8_lit (hwf z (List.mem_of_mem_take hz))
        simpa using hm
      · intro i hi
        obtain ⟨k', hk', hc⟩ := get i (by omega)
        rw [hk] at hk'; cases hk'
        rw [hc]
        have hz : zs[i]? = some (zs.getD i 0) := by
          rw [List.getD_eq_getElem?_getD, List.getElem?_eq_getElem (by omega)]; rfl
        obtain ⟨m, hm, _⟩ := u8_lit (hwf _ (List.mem_of_getElem? hz))
        have e2 : ((zs.take len).map Int.toNat).getD i 0 = m := by
          rw [List.getD_eq_getElem?_getD, List.getElem?_map, List.getElem?_take, if_pos hi, hz]
          simp only [Option.map_some, Option.getD_some, hm, Int.toNat_natCast]
        rw [e2, hm]
    · obtain rfl : len = 0 := by omega
      rfl

theorem OpV.move {h : Heap} {k k' : Blk} {o : Nat} {op : OpD} (x : OpV h k 0 op) (hk : ∀ i, i < 6 → k'[o + i]? = k[i]?) : OpV h k' o op where
  kind := (hk 0 (by decide)).trans x.kind
  A := (hk 1 (by decide)).trans x.A
  B := (hk 2 (by decide)).trans x.B
  mask := (hk 3 (by decide)).trans x.mask
  data := let ⟨v, h1, h2⟩ := x.data; ⟨v, (hk 4 (by decide)).trans h1, h2⟩
  recs := let ⟨v, h1, h2⟩ := x.recs; ⟨v, (hk 5 (by decide)).trans h1, h2⟩
  wf := x.wf

end
end Go.Proofs.Ytcmfgmhadeeieaa

namespace Go.Proofs.Ytcmfgmhadeeieaa
open Go Go.Abs

theorem BytesV.uniq {h : Heap} {v : Value} {l m : List Nat} (a : BytesV h v l) (b : BytesV h v m) : l = m := by
  obtain ⟨x, n, c, rfl, h1, _⟩ := a
  obtain ⟨x', n', c', he, h2, _⟩ := b
  cases he
  rw [h1] at h2
  exact Option.some.inj h2
theorem RecsV.uniq {h : Heap} {v : Value} {l m : List (List Nat)} (a : RecsV h v l) (b : RecsV h v m) : l = m := by
  obtain ⟨x, n, c, rfl, h1, _, h2⟩ := a
  obtain ⟨x', n', c', he, g1, _, g2⟩ := b
  cases he
  apply List.ext_getElem?
  intro i
  by_cases hi : i < n
  · obtain ⟨b1, o1, s1, k1, r1, e1, e2, e3, _, e4⟩ := h2 i hi
    obtain ⟨b2, o2, s2, k2, r2, f1, f2, f3, _, f4⟩ := g2 i hi
    rw [e1] at f1; cases f1
    rw [e2] at f2; cases f2
    rw [e3] at f3; cases f3
    have := e4.uniq f4
    rw [List.getD_eq_getElem?_getD, List.getD_eq_getElem?_getD, List.getElem?_eq_getElem (by omega), List.getElem?_eq_getElem (by omega)] at this
    rw [List.getElem?_eq_getElem (by omega), List.getElem?_eq_getElem (by omega)]
    exact congrArg some this
  · rw [List.getElem?_eq_none (by omega), List.getElem?_eq_none (by omega)]
theorem OpV.uniq {h : Heap} {k : Blk} {o : Nat} {p q : OpD} (a : OpV h k o p) (b : OpV h k o q) : p = q := by
  have e1 := a.kind.symm.trans b.kind
  have e2 := a.A.symm.trans b.A
  have e3 := a.B.symm.trans b.B
  have e4 := a.mask.symm.trans b.mask
  obtain ⟨v, d1, _, d2⟩ := a.data
  obtain ⟨v', f1, _, f2⟩ := b.data
  rw [d1] at f1; cases f1
  obtain ⟨w, g1, _, g2⟩ := a.recs
  obtain ⟨w', i1, _, i2⟩ := b.recs
  rw [g1] at i1; cases i1
  have e5 := d2.uniq f2
  have e6 := g2.uniq i2
  cases p; cases q
  simp only [Option.some.injEq, Value.int.injEq, true_and, u8, Int.natCast_inj] at e1 e2 e3 e4 e5 e6
  subst e1 e2 e3 e4 e5 e6
  rfl
theorem OpsV.uniq {h : Heap} {v : Value} {l m : List OpD} (a : OpsV h v l) (b : OpsV h v m) : l = m := by
  obtain ⟨x, n, c, rfl, h1, _, h2⟩ := a
  obtain ⟨x', n', c', he, g1, _, g2⟩ := b
  cases he
  apply List.ext_getElem?
  intro i
  by_cases hi : i < n
  · obtain ⟨b1, o1, s1, k1, e1, e2, p, e3, e4⟩ := h2 i hi
    obtain ⟨b2, o2, s2, k2, f1, f2, q, f3, f4⟩ := g2 i hi
    rw [e1] at f1; cases f1
    rw [e2] at f2; cases f2
    rw [e3, f3, e4.uniq f4]
  · rw [List.getElem?_eq_none (by omega), List.getElem?_eq_none (by omega)]

def heavyOp (o : OpD) : Bool := decide (40 < o.recs.length) || decide (21000 < o.data.length) || o.recs.any fun r => decide (21000 < r.length)
def heavyB (n : Int) (ops : List OpD) : Bool := (decide (64 < n) && decide (n ≤ 4096)) || decide (100 < ops.length) || ops.any heavyOp

open Classical in
noncomputable def opsOf (h : Heap) (v : Value) : Option (List OpD) := if hx : ∃ l, OpsV h v l then some hx.choose else none
theorem OpsV.of {h : Heap} {v : Value} {l : List OpD} (a : OpsV h v l) : opsOf h v = some l := by
  have hx : ∃ l, OpsV h v l := ⟨l, a⟩
  unfold opsOf
  rw [dif_pos hx]
  exact congrArg some (hx.choose_spec.uniq a)
theorem opsOf_spec {h : Heap} {v : Value} {l : List OpD} (e : opsOf h v = some l) : OpsV h v l := by
  unfold opsOf at e
  split at e
  · rename_i hx
    cases e; exact hx.choose_spec
  · cases e

section
variable (C : CallF)
/-- The inner loop: the records of call i. -/
theorem heavy_inner (X : Nat → Value) (h : Heap) (v : Value) (b off _s0 len c i : Nat) (s : Option Nat) (k : Blk) (op : OpD) (hv : v = .slice (some ⟨b, off, s⟩) len c) (hk : h.get b = some k) (hi : i < len) (hop : OpV h k (off + i * 6) op)
    (x1 : X 1 = v) (x5 : X 5 = i64n i) (x6 : X 6 = .int .i64 0) :
    Fin 60 (fun ex y g => g = h ∧ y 1 = v ∧ y 5 = i64n i ∧ ((ex = .ret ∧ y 4 = .bool true ∧ op.recs.any (fun r => decide (21000 < r.length)) = true) ∨ (ex = .exit 2 ∧ op.recs.any (fun r => decide (21000 < r.length)) = false)))
      (iter (codeA Try.prog C (partOf Try.f17 [1, 1, 0, 1, 0, 0, 1, 0, 0, 1, 1, 0, 0])) rounds (mkF 60 X) h) := by
  obtain ⟨rv, r1, r2, ra, rn, rc, rfl, r3, r4, r5⟩ := hop.recs
  have hix : idxS 6 v (i64n i) = some (ptr b (off + i * 6)) := by
    subst hv
    unfold idxS
    simp only [i64n]
    rw [if_pos (by omega), Int.toNat_natCast]
  have hrm : rn < rounds := by
    have h1 : rounds = 18446744073709551616 := rfl
    have h2 : maxLen = 9223372036854775807 := rfl
    omega
  have hld : ld1 (ptr b (off + i * 6 + 5)) h = some (.slice ra rn rc, h) := ld1_at hk r1 r2
  refine loop_fin (t17l17_110100100110_eq C) (Inv := fun q y g => q ≤ rn ∧ g = h ∧ y 1 = v ∧ y 5 = i64n i ∧ y 6 = i64n (rn - q) ∧ ∀ j, j < rn - q → ¬ 21000 < (op.recs.getD j []).length) ?_ rn hrm ⟨Nat.le_refl _, rfl, x1, x5, by rw [x6, Nat.sub_self]; rfl, fun j hj => by omega⟩
  rintro q y g ⟨hq, rfl, y1, y5, y6, hno⟩
  unfold t17l17_110100100110
  simp -implicitDefEqProofs only [y6, y1, y5, hix, thenV_some, pu_some, addP_ptr, hld, lenL_slice, bin_lss]
  by_cases hz : q = 0
  · subst hz
    simp -implicitDefEqProofs only [Nat.sub_zero, Int.lt_irrefl, decide_false]
    refine Rnd.out 2 ⟨rfl, ?_, ?_, .inr ⟨rfl, ?_⟩⟩
    · simp only [up_cons, up_nil, Nat.reduceEqDiff, if_false, y1]
    · simp only [up_cons, up_nil, Nat.reduceEqDiff, if_false, y5]
    · rw [List.any_eq_false]
      intro r hr
      obtain ⟨j, hj⟩ := List.getElem?_of_mem hr
      have hjl := (List.getElem?_eq_some_iff.1 hj).1
      have := hno j (by omega)
      rw [List.getD_eq_getElem?_getD, hj] at this
      simpa using this
  · have hlt : ((rn - q : Nat) : Int) < (rn : Int) := by omega
    obtain ⟨b', o', s', k', w, rfl, hk', hc', hh', wa, wn, wc, rfl, hb', hwm⟩ := r5 (rn - q) (by omega)
    have hwl := (sliceBytes_spec hb').1
    have hix2 : idxS 1 (.slice (some ⟨b', o', s'⟩) rn rc) (i64n (rn - q)) = some (ptr b' (o' + (rn - q))) := by
      unfold idxS
      simp only [i64n]
      rw [if_pos (by omega), Int.toNat_natCast, Nat.mul_one]
    have hld2 : ld1 (ptr b' (o' + (rn - q))) g = some (.slice wa wn wc, g) := ld1_at hk' hc' hh'
    simp -implicitDefEqProofs only [decide_eq_true hlt, hix2, hld2, thenV_some, pu_some, lenL_slice, bin_gtr]
    by_cases hbig : (wn : Int) > 21000
    · simp -implicitDefEqProofs only [hbig, decide_true, thenV_some]
      refine Rnd.ret ⟨rfl, ?_, ?_, .inl ⟨rfl, ?_, ?_⟩⟩
      · simp only [up_cons, up_nil, Nat.reduceEqDiff, if_false, y1]
      · simp only [up_cons, up_nil, Nat.reduceEqDiff, if_false, y5]
      · simp only [up_cons, up_nil, Nat.reduceEqDiff, if_true]
      · rw [List.any_eq_true]
        have hj : op.recs[rn - q]? = some (op.recs.getD (rn - q) []) := by
          rw [List.getD_eq_getElem?_getD, List.getElem?_eq_getElem (by omega)]; rfl
        exact ⟨_, List.mem_of_getElem? hj, by rw [decide_eq_true_eq, hwl]; omega⟩
    · simp -implicitDefEqProofs only [hbig, decide_false, thenV_some, bin_add, pu_some]
      refine Rnd.next (q - 1) (by omega) ⟨by omega, rfl, ?_, ?_, ?_, ?_⟩
      · simp only [up_cons, up_nil, Nat.reduceEqDiff, if_false, y1]
      · simp only [up_cons, up_nil, Nat.reduceEqDiff, if_false, y5]
      · simp only [up_cons, up_nil, Nat.reduceEqDiff, if_false, if_true]
        have h2 : maxLen = 9223372036854775807 := rfl
        rw [wrap_i64 (by omega) (by omega)]
        exact congrArg (Value.int .i64) (by omega)
      · intro j hj
        by_cases e : j = rn - q
        · subst e; rw [hwl]; omega
        · exact hno j (by omega)
theorem heavy_round {v : Value} {h : Heap} {ops : List OpD} {a : Option Addr} {len c : Nat} (hv : v = .slice a len c) (hlen : ops.length = len) (hm : len ≤ 100)
    (hat : ∀ i, i < len → ∃ b off s k, a = some ⟨b, off, s⟩ ∧ h.get b = some k ∧ ∃ op, ops[i]? = some op ∧ OpV h k (off + i * 6) op) (X : Nat → Value) (x1 : X 1 = v) (x5 : X 5 = .int .i64 0) :
    Fin 60 (fun ex y g => g = h ∧ ((ex = .ret ∧ y 4 = .bool true ∧ ops.any heavyOp = true) ∨ (ex = .exit 0 ∧ ops.any heavyOp = false))) (iter (codeA Try.prog C (partOf Try.f17 [1, 1, 0, 1, 0, 0])) rounds (mkF 60 X) h) := by
  have hrm : len < rounds := by
    have h1 : rounds = 18446744073709551616 := rfl
    omega
  refine loop_fin (t17l17_11010_eq C) (Inv := fun q y g => q ≤ len ∧ g = h ∧ y 1 = v ∧ y 5 = i64n (len - q) ∧ ∀ j o, j < len - q → ops[j]? = some o → heavyOp o = false) ?_ len hrm ⟨Nat.le_refl _, rfl, x1, by rw [x5, Nat.sub_self]; rfl, fun j o hj => by omega⟩
  rintro q y g ⟨hq, rfl, y1, y5, hno⟩
  unfold t17l17_11010
  simp -implicitDefEqProofs only [y5, y1, hv, thenV_some, pu_some, lenL_slice, bin_lss]
  by_cases hz : q = 0
  · subst hz
    simp -implicitDefEqProofs only [Nat.sub_zero, Int.lt_irrefl, decide_false]
    refine Rnd.out 0 ⟨rfl, .inr ⟨rfl, ?_⟩⟩
    rw [List.any_eq_false]
    intro r hr
    obtain ⟨j, hj⟩ := List.getElem?_of_mem hr
    have hjl := (List.getElem?_eq_some_iff.1 hj).1
    rw [hno j r (by omega) hj]; decide
  · have hlt : ((len - q : Nat) : Int) < (len : Int) := by omega
    obtain ⟨b, off, s, k, rfl, hk, op, hop1, hop⟩ := hat (len - q) (by omega)
    have hix : idxS 6 (.slice (some ⟨b, off, s⟩) len c) (i64n (len - q)) = some (ptr b (off + (len - q) * 6)) := by
      unfold idxS
      simp only [i64n]
      rw [if_pos (by omega), Int.toNat_natCast]
    obtain ⟨dv, d1, d2, da, dn, dc, rfl, d3, d4⟩ := hop.data
    obtain ⟨rv, r1, r2, hrv⟩ := hop.recs
    have hrv2 := hrv
    obtain ⟨ra, rn, rc, rfl, r3, r4, r5⟩ := hrv2
    have hdl := (sliceBytes_spec d3).1
    have ld4 : ld1 (ptr b (off + (len - q) * 6 + 4)) g = some (.slice da dn dc, g) := ld1_at hk d1 d2
    have ld5 : ld1 (ptr b (off + (len - q) * 6 + 5)) g = some (.slice ra rn rc, g) := ld1_at hk r1 r2
    have hmem : op ∈ ops := List.mem_of_getElem? hop1
    simp -implicitDefEqProofs only [decide_eq_true hlt, hix, thenV_some, pu_some, addP_ptr, ld5, lenL_slice, bin_gtr, bOf_bool]
    by_cases c1 : (rn : Int) > 40
    · simp -implicitDefEqProofs only [c1, decide_true, sf, guardK_false, thenV_some, if_true]
      refine Rnd.ret ⟨rfl, .inl ⟨rfl, ?_, ?_⟩⟩
      · simp only [up_cons, up_nil, Nat.reduceEqDiff, if_true]
      · rw [List.any_eq_true]
        refine ⟨op, hmem, ?_⟩
        unfold heavyOp
        rw [decide_eq_true (by omega : 40 < op.recs.length)]; rfl
    simp -implicitDefEqProofs only [c1, decide_false, beq_self_eq_true, guardK_true, thenV_some, pu_some, hix, addP_ptr, ld4, lenL_slice, bin_gtr, Bool.false_eq_true, if_false]
    by_cases c2 : (dn : Int) > 21000
    · simp -implicitDefEqProofs only [c2, decide_true, thenV_some]
      refine Rnd.ret ⟨rfl, .inl ⟨rfl, ?_, ?_⟩⟩
      · simp only [up_cons, up_nil, Nat.reduceEqDiff, if_true]
      · rw [List.any_eq_true]
        refine ⟨op, hmem, ?_⟩
        unfold heavyOp
        rw [decide_eq_true (by omega : 21000 < op.data.length), Bool.or_true]; rfl
    simp -implicitDefEqProofs only [c2, decide_false, thenV_some]
    refine endL_fin (heavy_inner C _ g (.slice (some ⟨b, off, s⟩) len c) b off 0 len c (len - q) s k op rfl hk (by omega) hop ?_ ?_ ?_) ?_
    · simp only [up_cons, up_nil, Nat.reduceEqDiff, if_false, y1, hv]
    · simp only [up_cons, up_nil, Nat.reduceEqDiff, if_false, y5]
    · simp only [up_cons, up_nil, Nat.reduceEqDiff, if_true]
    · rintro ex z g' ⟨rfl, z1, z5, ⟨rfl, z4, hr⟩ | ⟨rfl, hr⟩⟩
      · rw [endL_ret]
        refine Rnd.ret ⟨rfl, .inl ⟨rfl, z4, ?_⟩⟩
        rw [List.any_eq_true]
        refine ⟨op, hmem, ?_⟩
        unfold heavyOp
        rw [hr, Bool.or_true]
      · simp -implicitDefEqProofs only [endL_exit, b17_16, if_true, t17k17_10_eq]
        unfold t17k17_10
        simp -implicitDefEqProofs only [z5, thenV_some, bin_add, pu_some]
        refine Rnd.next (q - 1) (by omega) ⟨by omega, rfl, ?_, ?_, ?_⟩
        · simp only [up_cons, up_nil, Nat.reduceEqDiff, if_false, z1, hv]
        · simp only [up_cons, up_nil, Nat.reduceEqDiff, if_false, if_true]
          rw [wrap_i64 (by omega) (by omega)]
          exact congrArg (Value.int .i64) (by omega)
        · intro j o hj ho
          by_cases e : j = len - q
          · subst e
            rw [hop1] at ho; cases ho
            unfold heavyOp
            rw [hr, decide_eq_false (by omega : ¬ 40 < op.recs.length), decide_eq_false (by omega : ¬ 21000 < op.data.length)]; rfl
          · exact hno j o (by omega) ho

theorem t17_is (n : Int) {v : Value} {h : Heap} {ops : List OpD} (ho : OpsV h v ops) : t17 C (.int .i64 n) v h = some (.bool (heavyB n ops), h) := by
  obtain ⟨a, len, c, rfl, hlen, hmx, hat⟩ := ho
  unfold t17 heavyB
  simp -implicitDefEqProofs only [thenV_some, bin_gtr, pu_some, bOf_bool]
  have key : ∀ X : Nat → Value, X 1 = .slice a len c → X 5 = .int .i64 0 → ¬ (len : Int) > 100 → endL (iter (codeA Try.prog C (partOf Try.f17 [1, 1, 0, 1, 0, 0])) rounds (mkF 60 X) h) (resultsA Try.prog Try.f17.results.toList) (b17_6 C) = some (.bool (ops.any heavyOp), h) := by
    intro X x1 x5 h100
    refine endL_fin (Q := fun o : Out => o = some (Value.bool (ops.any heavyOp), h)) (heavy_round C rfl hlen (by omega) hat X x1 x5) ?_
    rintro ex z g ⟨rfl, ⟨rfl, z4, hr⟩ | ⟨rfl, hr⟩⟩
    · rw [endL_ret, res_one (t := 4) (by kernel_rfl) (by decide), z4, hr]
    · simp -implicitDefEqProofs only [endL_exit, b17_6, if_true, t17k17_4_eq]
      unfold t17k17_4
      rw [thenV_some, hr]
  have hl100 : (100 < ops.length) ↔ ((len : Int) > 100) := by omega
  by_cases c1 : n > 64
  · have c1' : 64 < n := c1
    simp -implicitDefEqProofs only [c1, c1', decide_true, beq_self_eq_true, guardK_true, thenV_some, bin_leq, pu_some, if_true, bOf_bool, Bool.true_and]
    by_cases c2 : n ≤ 4096
    · simp -implicitDefEqProofs only [c2, decide_true, sf, guardK_false, thenV_some, if_true, Bool.true_or]
    · simp -implicitDefEqProofs only [c2, decide_false, beq_self_eq_true, guardK_true, thenV_some, pu_some, lenL_slice, bin_gtr, Bool.false_eq_true, if_false, Bool.false_or]
      by_cases c3 : (len : Int) > 100
      · simp -implicitDefEqProofs only [c3, decide_true, thenV_some, hl100, Bool.true_or]
      · simp -implicitDefEqProofs only [c3, decide_false, thenV_some, hl100, Bool.false_or]
        exact key _ rfl rfl c3
  · have c1' : ¬ 64 < n := c1
    simp -implicitDefEqProofs only [c1, c1', decide_false, fs, guardK_false, thenV_some, bOf_bool, Bool.false_eq_true, if_false, Bool.false_and, beq_self_eq_true, guardK_true, pu_some, lenL_slice, bin_gtr, Bool.false_or]
    by_cases c3 : (len : Int) > 100
    · simp -implicitDefEqProofs only [c3, decide_true, thenV_some, hl100, Bool.true_or]
    · simp -implicitDefEqProofs only [c3, decide_false, thenV_some, hl100, Bool.false_or]
      exact key _ rfl rfl c3
end

noncomputable def s17 : List Value → Heap → Out
  | [.int .i64 n, v], h => match opsOf h v with
    | some ops => some (.bool (heavyB n ops), h)
    | none => none
  | _, _ => none
theorem s17_at {h : Heap} {v : Value} {ops : List OpD} (n : Int) (ho : OpsV h v ops) : s17 [.int .i64 n, v] h = some (.bool (heavyB n ops), h) := by
  unfold s17
  simp only [ho.of]
theorem is17 : IsFn Try.prog 17 Try.f17 := ⟨by kernel_rfl, by kernel_rfl, by kernel_rfl, by kernel_rfl⟩
theorem c17 : Contract Try.prog 17 s17 := by
  have key : ∀ args h v h', s17 args h = some (v, h') → ∃ n x ops, args = [.int .i64 n, x] ∧ OpsV h x ops ∧ v = .bool (heavyB n ops) ∧ h' = h := by
    intro args h v h' e
    unfold s17 at e
    split at e
    · split at e
      · cases e; exact ⟨_, _, _, rfl, opsOf_spec (by assumption), rfl, rfl⟩
      · cases e
    · cases e
  refine .quiet (C := callL []) (callL_sound [] (by simp)) mixed is17 ?_ ?_
  · intro args h v h' e
    obtain ⟨n, x, ops, rfl, ho, rfl, rfl⟩ := key _ _ _ _ e
    exact ⟨rfl, fun _ => rfl⟩
  · intro args h v h' e _ _
    obtain ⟨n, x, ops, rfl, ho, rfl, rfl⟩ := key _ _ _ _ e
    exact ⟨h', (t17_eq _ _ _ _).trans (t17_is _ n ho), fun _ _ h => h⟩
end Go.Proofs.Ytcmfgmhadeeieaa

namespace Go.Proofs.Ytcmfgmhadeeieaa
open Go Go.Abs

/-- Rows of 128 bytes each, at blocks that are not among some. -/
def Rows (h : Heap) (F : Nat → Prop) (rows : List Value) (vals : List (List Nat)) : Prop :=
  rows.length = vals.length ∧ ∀ j, j < vals.length → ∃ B off s c, rows[j]? = some (.slice (some ⟨B, off, s⟩) 128 c) ∧ sliceBytes (some ⟨B, off, s⟩) 128 h = some (vals.getD j []) ∧ ¬ F B
theorem Rows.noHoles {h : Heap} {F : Nat → Prop} {rows : List Value} {vals : List (List Nat)} (r : Rows h F rows vals) : noHoles rows = true := by
  unfold Abs.noHoles
  rw [List.all_eq_true]
  intro v hv
  obtain ⟨j, hj⟩ := List.getElem?_of_mem hv
  have hl := (List.getElem?_eq_some_iff.1 hj).1
  obtain ⟨B, off, s, c, h1, _⟩ := r.2 j (by rw [← r.1]; exact hl)
  rw [hj] at h1; cases h1; rfl
theorem Rows.one {h : Heap} {F : Nat → Prop} {rows : List Value} {vals : List (List Nat)} (r : Rows h F rows vals) : oneCells rows = true := by
  unfold oneCells
  rw [List.all_eq_true]
  intro v hv
  obtain ⟨j, hj⟩ := List.getElem?_of_mem hv
  have hl := (List.getElem?_eq_some_iff.1 hj).1
  obtain ⟨B, off, s, c, h1, _⟩ := r.2 j (by rw [← r.1]; exact hl)
  rw [hj] at h1; cases h1; rfl
theorem sliceBytes_lt {a : Option Addr} {n : Nat} {h : Heap} {l : List Nat} (e : sliceBytes a n h = some l) (hn : 0 < n) : ∃ b off s, a = some ⟨b, off, s⟩ ∧ b < h.next := by
  obtain ⟨_, _, hat⟩ := sliceBytes_spec e
  obtain ⟨b, off, s, k, rfl, hk, _⟩ := hat hn
  exact ⟨b, off, s, rfl, h.lt_of_get hk⟩
theorem Rows.move {h h' : Heap} {F F' : Nat → Prop} {rows : List Value} {vals : List (List Nat)} (r : Rows h F rows vals) (hf : ∀ b, b < h.next → F' b → F b) (hg : ∀ b, b < h.next → ¬ F b → h'.get b = h.get b) : Rows h' F' rows vals := by
  refine ⟨r.1, fun j hj => ?_⟩
  obtain ⟨B, off, s, c, h1, h2, h3⟩ := r.2 j hj
  have hlt : B < h.next := by
    obtain ⟨b, o, s', e, hb⟩ := sliceBytes_lt h2 (by decide)
    cases e; exact hb
  refine ⟨B, off, s, c, h1, ?_, fun h => h3 (hf B hlt h)⟩
  rw [sliceBytes_congr (h := h) (fun y hy => by cases hy; exact hg B hlt h3)]
  exact h2
theorem Rows.snoc {h : Heap} {F : Nat → Prop} {rows : List Value} {vals : List (List Nat)} (r : Rows h F rows vals) {B off c : Nat} {s : Option Nat} {l : List Nat} (hl : sliceBytes (some ⟨B, off, s⟩) 128 h = some l) (hF : ¬ F B) :
    Rows h F (rows ++ [.slice (some ⟨B, off, s⟩) 128 c]) (vals ++ [l]) := by
  refine ⟨by simp [r.1], fun j hj => ?_⟩
  by_cases e : j < vals.length
  · obtain ⟨B', off', s', c', h1, h2, h3⟩ := r.2 j e
    refine ⟨B', off', s', c', by rw [List.getElem?_append_left (by rw [r.1]; exact e)]; exact h1, ?_, h3⟩
    rw [h2, List.getD_eq_getElem?_getD, List.getD_eq_getElem?_getD, List.getElem?_append_left e]
  · have hj2 : j = vals.length := by simp at hj; omega
    subst hj2
    refine ⟨B, off, s, c, by rw [List.getElem?_append_right (by rw [r.1]; exact Nat.le_refl _), r.1, Nat.sub_self]; rfl, ?_, hF⟩
    rw [hl, List.getD_eq_getElem?_getD, List.getElem?_append_right (Nat.le_refl _), Nat.sub_self]; rfl

/-- The list that the statement keeps: its block lies behind N, apart from the disk's blocks. -/
structure Last (h : Heap) (N d bb n : Nat) (v : Value) (vals : List (List Nat)) (L : Nat) (sp : Option Nat) (rows : List Value) : Prop where
  v : v = .slice (some ⟨L, 0, sp⟩) n n
  sp : n = 0 ∧ sp = none ∨ sp = some 1
  get : h.get L = some rows
  len : rows.length = n
  vlen : vals.length = n
  n0 : h.n0 ≤ N
  NL : N ≤ L
  Ld : L ≠ d
  Lb : L ≠ bb
  rows : Rows h (fun b => b = d ∨ b = bb ∨ b = L) rows vals

theorem get_kill {h : Heap} {L : Nat} (h0 : h.n0 ≤ L) (hn : L < h.next) {c : Nat} (hc : c ≠ L) : (h.kill L).get c = h.get c := by
  unfold Heap.kill
  rw [Heap.get_put _ h0 hn, if_neg hc]

theorem append_row {g : Heap} {N d bb m : Nat} {v : Value} {vals : List (List Nat)} {L : Nat} {sp : Option Nat} {rows : List Value} (hl : Last g N d bb m v vals L sp rows) (hm : m ≤ 4096) (hd : d < g.next) (hbb : bb < g.next) (_dN : N ≤ d) (_bN : N ≤ bb)
    {X B off c : Nat} {s : Option Nat} {l : List Nat} (hX : g.get X = some [.slice (some ⟨B, off, s⟩) 128 c]) (hB : sliceBytes (some ⟨B, off, s⟩) 128 g = some l) (B1 : B ≠ d) (B2 : B ≠ bb) (B3 : B ≠ L) :
    ∃ g' , appendA 1 24 v (.slice (some ⟨X, 0, none⟩) 1 1) g = some (.slice (some ⟨g.next, 0, some 1⟩) (m + 1) (m + 1), g') ∧
      Last g' N d bb (m + 1) (.slice (some ⟨g.next, 0, some 1⟩) (m + 1) (m + 1)) (vals ++ [l]) g.next (some 1) (rows ++ [.slice (some ⟨B, off, s⟩) 128 c]) ∧
      g'.n0 = g.n0 ∧ g'.next = g.next + 1 ∧ (∀ b, b < g.next → b ≠ L → g'.get b = g.get b) := by
  have hLn : L < g.next := g.lt_of_get hl.get
  have hBlt : B < g.next := by
    obtain ⟨b, o, s', e, hb⟩ := sliceBytes_lt hB (by decide)
    cases e; exact hb
  have hnh := hl.rows.noHoles
  have hone := hl.rows.one
  have f1 : firstA 1 1 (.slice (some ⟨X, 0, none⟩) 1 1) g = some [.slice (some ⟨B, off, s⟩) 128 c] := by
    simp only [firstA, hX]
    rw [if_neg (by decide), if_pos ⟨Nat.le_refl _, rfl⟩]; rfl
  have f2 : firstA 1 m (.slice (some ⟨L, 0, sp⟩) m m) g = some rows := by
    simp only [firstA, Nat.mul_one, hl.get, List.drop_zero]
    by_cases h0 : m = 0
    · rw [if_pos h0]
      have : rows = [] := List.length_eq_zero_iff.1 (hl.len.trans h0)
      rw [this]
    · rw [if_neg h0, List.take_of_length_le (by rw [hl.len]; exact Nat.le_refl _), if_pos ⟨by rw [hl.len]; omega, hnh⟩]
  -- the heap behind
  have main : ∀ g1 : Heap, g1.n0 = g.n0 → g1.next = g.next → (∀ b, b ≠ L → g1.get b = g.get b) →
      Last (g1.alloc (rows ++ [.slice (some ⟨B, off, s⟩) 128 c])) N d bb (m + 1) (.slice (some ⟨g.next, 0, some 1⟩) (m + 1) (m + 1)) (vals ++ [l]) g.next (some 1) (rows ++ [.slice (some ⟨B, off, s⟩) 128 c]) ∧
      (g1.alloc (rows ++ [.slice (some ⟨B, off, s⟩) 128 c])).n0 = g.n0 ∧ (g1.alloc (rows ++ [.slice (some ⟨B, off, s⟩) 128 c])).next = g.next + 1 ∧ (∀ b, b < g.next → b ≠ L → (g1.alloc (rows ++ [.slice (some ⟨B, off, s⟩) 128 c])).get b = g.get b) := by
    intro g1 e1 e2 e3
    have hget : ∀ b, b < g.next → b ≠ L → (g1.alloc (rows ++ [.slice (some ⟨B, off, s⟩) 128 c])).get b = g.get b := by
      intro b hb hbl
      rw [Heap.get_alloc, if_neg (by omega), e3 b hbl]
    refine ⟨⟨rfl, .inr rfl, by rw [Heap.get_alloc, e2, if_pos rfl], by simp [hl.len], by simp [hl.vlen], by rw [Heap.n0_alloc, e1]; exact hl.n0, Nat.le_trans hl.NL (Nat.le_of_lt hLn), by omega, by omega, ?_⟩, e1, by rw [Heap.next_alloc, e2], hget⟩
    refine Rows.snoc (hl.rows.move ?_ ?_) ?_ ?_
    · rintro b hb (h1 | h1 | h1)
      · exact .inl h1
      · exact .inr (.inl h1)
      · omega
    · intro b hb hF
      exact hget b hb (fun e => hF (.inr (.inr e)))
    · rw [sliceBytes_congr (h := g) (fun y hy => by cases hy; exact hget B hBlt B3)]; exact hB
    · rintro (h1 | h1 | h1)
      · exact B1 h1
      · exact B2 h1
      · omega
  have hcond : (!(oneCells [Value.slice (some ⟨B, off, s⟩) 128 c]) || !(decide ((m + 1) * 24 ≤ 140737488355328)) || !(decide (m + 1 ≤ 4611686018427387904)) || decide ([Value.slice (some ⟨B, off, s⟩) 128 c].length ≠ 1 * 1)) = false := by
    rw [decide_eq_true (by omega : (m + 1) * 24 ≤ 140737488355328), decide_eq_true (by omega : m + 1 ≤ 4611686018427387904)]; rfl
  rw [hl.v]
  unfold appendA
  simp only [lenA, f1]
  rw [if_neg (by rw [hcond]; decide), if_neg (by omega)]
  simp only [f2]
  rw [if_neg (by rw [hl.len]; simp)]
  rcases hl.sp with ⟨h0, rfl⟩ | rfl
  · obtain ⟨q1, q2, q3, q4⟩ := main g rfl rfl (fun _ _ => rfl)
    exact ⟨_, rfl, q1, q2, q3, q4⟩
  · have hlive : (g.get L).isSome = true := by rw [hl.get]; rfl
    have hn0L : g.n0 ≤ L := Nat.le_trans hl.n0 hl.NL
    simp only [hlive, decide_true, Bool.and_true, decide_eq_true hn0L, if_true]
    obtain ⟨q1, q2, q3, q4⟩ := main (g.kill L) rfl rfl (fun b hb => get_kill hn0L hLn hb)
    exact ⟨_, rfl, q1, q2, q3, q4⟩
end Go.Proofs.Ytcmfgmhadeeieaa

namespace Go.Proofs.Ytcmfgmhadeeieaa
open Go Go.Abs

theorem Last.move {h h' : Heap} {N d bb n : Nat} {v : Value} {vals : List (List Nat)} {L : Nat} {sp : Option Nat} {rows : List Value} (l : Last h N d bb n v vals L sp rows) (h0 : h'.n0 = h.n0)
    (hg : ∀ b, b < h.next → b ≠ d → b ≠ bb → h'.get b = h.get b) : Last h' N d bb n v vals L sp rows where
  v := l.v
  sp := l.sp
  get := by rw [hg L (h.lt_of_get l.get) l.Ld l.Lb]; exact l.get
  len := l.len
  vlen := l.vlen
  n0 := by rw [h0]; exact l.n0
  NL := l.NL
  Ld := l.Ld
  Lb := l.Lb
  rows := l.rows.move (fun _ _ h => h) (fun b hb hF => hg b hb (fun e => hF (.inl e)) (fun e => hF (.inr (.inl e))))

theorem bsl_row (h : Heap) (B off c : Nat) (s : Option Nat) : bslR 1 (.slice none 0 0) 1 [(0, .slice (some ⟨B, off, s⟩) 128 c)] h = some (.slice (some ⟨h.next, 0, none⟩) 1 1, h.alloc [.slice (some ⟨B, off, s⟩) 128 c]) := by
  unfold bslR
  rw [if_pos (by rfl)]
  rfl
theorem bsl_empty (h : Heap) : bslR 1 (.slice none 0 0) 0 [] h = some (.slice (some ⟨h.next, 0, none⟩) 0 0, h.alloc []) := rfl
theorem bsl_bytes (h : Heap) : bslR 1 (.int .u8 0) 0 [] h = some (.slice (some ⟨h.next, 0, none⟩) 0 0, h.alloc []) := rfl

theorem sliceBytes_set {g : Heap} {b off m i v : Nat} {s : Option Nat} {k : Blk} {l : List Nat} (h0 : g.n0 ≤ b) (hk : g.get b = some k) (hl : sliceBytes (some ⟨b, off, s⟩) m g = some l) (hi : i < m) (hv : v < 256) :
    sliceBytes (some ⟨b, off, s⟩) m (g.set b (k.set (off + i) (u8 v))) = some (l.set i v) := by
  obtain ⟨hlen, hb, hat⟩ := sliceBytes_spec hl
  obtain ⟨b', off', s', k', he, hk', hkl, hc⟩ := hat (by omega)
  cases he
  rw [hk] at hk'; cases hk'
  refine bytes_of_cells (Heap.get_set_same h0 hk _) (by simpa using hlen) ?_ ?_
  · intro y hy
    rcases List.mem_or_eq_of_mem_set hy with h1 | h1
    · exact hb y h1
    · omega
  · intro j hj
    rw [List.getElem?_set]
    by_cases e : i = j
    · subst e
      rw [if_pos rfl, if_pos (by omega), List.getD_eq_getElem?_getD, List.getElem?_set, if_pos rfl, if_pos (by omega)]
      rfl
    · rw [if_neg (by omega), hc j hj, List.getD_eq_getElem?_getD, List.getD_eq_getElem?_getD, List.getElem?_set, if_neg e]
theorem xor255 {v : Nat} (hv : v < 256) : bin Try.prog .xor 5 (u8 v) (.int .u8 255) = some (u8 (v ^^^ 255)) ∧ v ^^^ 255 < 256 :=
  ⟨bin_xor_nat Try.prog 5 (k := .u8) rfl (a := v) (b := 255) hv (by decide), Nat.xor_lt_two_pow (n := 8) hv (by decide)⟩

section
variable (C : CallF)
theorem rb_build (x : Nat → Value) (h : Heap) (N d bb n : Nat) (hn : n ≤ 4096) (hd : d < h.next) (hbb : bb < h.next) (dN : N ≤ d) (bN : N ≤ bb) (_hN : N ≤ h.next) (x0 : x 0 = i64n n) (x8 : x 8 = .int .i64 0)
    (hl : ∃ L sp rows, Last h N d bb 0 (x 7) [] L sp rows) :
    Fin 135 (fun ex y g => ex = .exit 0 ∧ y 0 = i64n n ∧ y 1 = x 1 ∧ y 5 = x 5 ∧ (∃ L sp rows, Last g N d bb n (y 7) (List.replicate n (List.replicate 128 0)) L sp rows) ∧ g.n0 = h.n0 ∧ h.next ≤ g.next ∧ (∀ b, b < N ∨ b = d ∨ b = bb → g.get b = h.get b))
      (iter (codeA Try.prog C (partOf Try.f4 [1, 1, 1, 1, 1, 0, 1, 0, 0])) rounds (mkF 135 x) h) := by
  have hrm : n < rounds := by
    have h1 : rounds = 18446744073709551616 := rfl
    omega
  refine loop_fin (t4l4_11111010_eq C) (Inv := fun q y g => q ≤ n ∧ y 0 = i64n n ∧ y 1 = x 1 ∧ y 5 = x 5 ∧ y 8 = i64n (n - q) ∧ (∃ L sp rows, Last g N d bb (n - q) (y 7) (List.replicate (n - q) (List.replicate 128 0)) L sp rows) ∧ g.n0 = h.n0 ∧ h.next ≤ g.next ∧ (∀ b, b < N ∨ b = d ∨ b = bb → g.get b = h.get b)) ?_ n hrm
    ⟨Nat.le_refl _, x0, rfl, rfl, by rw [x8, Nat.sub_self]; rfl, by rw [Nat.sub_self]; exact hl, rfl, Nat.le_refl _, fun _ _ => rfl⟩
  rintro q y g ⟨hq, y0, y1, y5, y8, ⟨L, sp, rows, hL⟩, gn, gx, go⟩
  unfold t4l4_11111010
  simp -implicitDefEqProofs only [y8, y0, thenV_some, pu_some, bin_lss]
  by_cases hz : q = 0
  · subst hz
    simp -implicitDefEqProofs only [Nat.sub_zero, Int.lt_irrefl, decide_false]
    refine Rnd.out 0 ⟨rfl, ?_, ?_, ?_, ⟨L, sp, rows, ?_⟩, gn, gx, go⟩
    · simp only [up_cons, up_nil, Nat.reduceEqDiff, if_false, y0]
    · simp only [up_cons, up_nil, Nat.reduceEqDiff, if_false, y1]
    · simp only [up_cons, up_nil, Nat.reduceEqDiff, if_false, y5]
    · simp only [up_cons, up_nil, Nat.reduceEqDiff, if_false]; exact hL
  · have hlt : ((n - q : Nat) : Int) < (n : Int) := by omega
    have hmk := mk1 (h := g) (n := 128) (c := 128) (Nat.le_refl _) (by decide)
    have hbs := bsl_row (g.alloc ((List.replicate 128 0).map u8)) g.next 0 128 none
    have g2get : ∀ b, b < g.next → ((g.alloc ((List.replicate 128 0).map u8)).alloc [.slice (some ⟨g.next, 0, none⟩) 128 128]).get b = g.get b := by
      intro b hb
      rw [Heap.get_alloc, if_neg (by simp; omega), Heap.get_alloc, if_neg (by omega)]
    have hB : sliceBytes (some ⟨g.next, 0, none⟩) 128 ((g.alloc ((List.replicate 128 0).map u8)).alloc [.slice (some ⟨g.next, 0, none⟩) 128 128]) = some (List.replicate 128 0) := by
      rw [sliceBytes_at (l := List.replicate 128 0) (by rw [Heap.get_alloc, if_neg (by simp), Heap.get_alloc, if_pos rfl]) (by simp) (by intro y hy; rw [List.eq_of_mem_replicate hy]; decide)]
      rfl
    have hX : ((g.alloc ((List.replicate 128 0).map u8)).alloc [.slice (some ⟨g.next, 0, none⟩) 128 128]).get (g.alloc ((List.replicate 128 0).map u8)).next = some [.slice (some ⟨g.next, 0, none⟩) 128 128] := by
      rw [Heap.get_alloc, if_pos rfl]
    have hL2 : Last ((g.alloc ((List.replicate 128 0).map u8)).alloc [.slice (some ⟨g.next, 0, none⟩) 128 128]) N d bb (n - q) (y 7) (List.replicate (n - q) (List.replicate 128 0)) L sp rows := hL.move rfl (fun b hb _ _ => g2get b hb)
    have hLlt : L < g.next := g.lt_of_get hL.get
    obtain ⟨g', a1, a2, a3, a4, a5⟩ := append_row hL2 (by omega) (by simp; omega) (by simp; omega) dN bN hX hB (by omega) (by omega) (by omega)
    simp -implicitDefEqProofs only [decide_eq_true hlt, thenV_some]
    rw [show (Value.int .i64 128) = i64n 128 from rfl, hmk]
    simp -implicitDefEqProofs only [thenV_some, hbs, a1, bin_add, pu_some]
    have e1 : n - (q - 1) = n - q + 1 := by omega
    refine Rnd.next (q - 1) (by omega) ⟨by omega, ?_, ?_, ?_, ?_, ?_, a3.trans gn, by rw [a4]; simp; omega, ?_⟩
    · simp only [up_cons, up_nil, Nat.reduceEqDiff, if_false, y0]
    · simp only [up_cons, up_nil, Nat.reduceEqDiff, if_false, y1]
    · simp only [up_cons, up_nil, Nat.reduceEqDiff, if_false, y5]
    · simp only [up_cons, up_nil, Nat.reduceEqDiff, if_false, if_true]
      rw [wrap_i64 (by omega) (by omega)]
      exact congrArg (Value.int .i64) (by omega)
    · rw [e1, List.replicate_succ' (n := n - q) (a := List.replicate 128 0)]
      exact ⟨_, _, _, a2⟩
    · intro b hb
      have hblt : b < g.next := by omega
      have hbL : b ≠ L := by
        have := hL.NL; have := hL.Ld; have := hL.Lb
        rcases hb with h1 | h1 | h1 <;> omega
      rw [a5 b (by simp; omega) hbL, g2get b hblt]; exact go b hb

/-- The bytes that were written are changed behind the write. -/
theorem rb_flip (x : Nat → Value) (h : Heap) (a : Option Addr) (m c : Nat) (l : List Nat) (hm : m ≤ 21000) (hl : sliceBytes a m h = some l) (ha : ∀ y, a = some y → h.n0 ≤ y.block) (x11 : x 11 = .slice a m c) (x13 : x 13 = .int .i64 0) :
    Fin 135 (fun ex y g => ex = .exit 4 ∧ y 0 = x 0 ∧ y 1 = x 1 ∧ y 5 = x 5 ∧ y 7 = x 7 ∧ y 9 = x 9 ∧ y 10 = x 10 ∧ y 12 = x 12 ∧ g.n0 = h.n0 ∧ g.next = h.next ∧ (∀ b, (∀ y, a = some y → b ≠ y.block) → g.get b = h.get b))
      (iter (codeA Try.prog C (partOf Try.f4 [1, 1, 1, 1, 1, 1, 0, 1, 0, 0, 1, 0, 0, 1, 1, 1, 0, 1, 0, 0])) rounds (mkF 135 x) h) := by
  have hrm : m < rounds := by
    have h1 : rounds = 18446744073709551616 := rfl
    omega
  refine loop_fin (t4l4_1111110100100111010_eq C) (Inv := fun q y g => q ≤ m ∧ (y 0 = x 0 ∧ y 1 = x 1 ∧ y 5 = x 5 ∧ y 7 = x 7 ∧ y 9 = x 9 ∧ y 10 = x 10 ∧ y 12 = x 12) ∧ y 11 = .slice a m c ∧ y 13 = i64n (m - q) ∧ g.n0 = h.n0 ∧ g.next = h.next ∧ (∃ l2, sliceBytes a m g = some l2) ∧ (∀ b, (∀ y, a = some y → b ≠ y.block) → g.get b = h.get b)) ?_ m hrm
    ⟨Nat.le_refl _, ⟨rfl, rfl, rfl, rfl, rfl, rfl, rfl⟩, x11, by rw [x13, Nat.sub_self]; rfl, rfl, rfl, ⟨l, hl⟩, fun _ _ => rfl⟩
  rintro q y g ⟨hq, ⟨y0, y1, y5, y7, y9, y10, y12⟩, y11, y13, gn, gx, ⟨l2, hl2⟩, go⟩
  unfold t4l4_1111110100100111010
  simp -implicitDefEqProofs only [y13, y11, thenV_some, pu_some, lenL_slice, bin_lss]
  by_cases hz : q = 0
  · subst hz
    simp -implicitDefEqProofs only [Nat.sub_zero, Int.lt_irrefl, decide_false]
    refine Rnd.out 4 ⟨rfl, ?_, ?_, ?_, ?_, ?_, ?_, ?_, gn, gx, go⟩
    · simp only [up_cons, up_nil, Nat.reduceEqDiff, if_false, y0]
    · simp only [up_cons, up_nil, Nat.reduceEqDiff, if_false, y1]
    · simp only [up_cons, up_nil, Nat.reduceEqDiff, if_false, y5]
    · simp only [up_cons, up_nil, Nat.reduceEqDiff, if_false, y7]
    · simp only [up_cons, up_nil, Nat.reduceEqDiff, if_false, y9]
    · simp only [up_cons, up_nil, Nat.reduceEqDiff, if_false, y10]
    · simp only [up_cons, up_nil, Nat.reduceEqDiff, if_false, y12]
  · have hlt : ((m - q : Nat) : Int) < (m : Int) := by omega
    obtain ⟨hlen, hb, hat⟩ := sliceBytes_spec hl2
    have hat2 := hat (by omega)
    clear hat
    obtain ⟨b, off, s, k, hae, hk, hkl, hc⟩ := hat2
    subst hae
    have hn0 : g.n0 ≤ b := by rw [gn]; exact ha _ rfl
    have hix : idxS 1 (.slice (some ⟨b, off, s⟩) m c) (i64n (m - q)) = some (ptr b (off + (m - q))) := by
      unfold idxS
      simp only [i64n]
      rw [if_pos (by omega), Int.toNat_natCast, Nat.mul_one]
    have hcell := hc (m - q) (by omega)
    have hv : l2.getD (m - q) 0 < 256 := by
      rw [List.getD_eq_getElem?_getD, List.getElem?_eq_getElem (by omega)]
      exact hb _ (List.getElem_mem _)
    obtain ⟨hx1, hx2⟩ := xor255 hv
    have hst := stN1_at (v := u8 (l2.getD (m - q) 0 ^^^ 255)) hk (show off + (m - q) < k.length by omega) hn0 rfl rfl
    have hsl := sliceBytes_set hn0 hk hl2 (show m - q < m by omega) hx2
    simp -implicitDefEqProofs only [decide_eq_true hlt, hix, ld1_at hk hcell, hx1, hst, thenV_some, bin_add, pu_some]
    refine Rnd.next (q - 1) (by omega) ⟨by omega, ?_, ?_, ?_, gn, gx, ⟨_, hsl⟩, ?_⟩
    · simp only [up_cons, up_nil, Nat.reduceEqDiff, if_false, y0, y1, y5, y7, y9, y10, y12, and_self]
    · simp only [up_cons, up_nil, Nat.reduceEqDiff, if_false, y11]
    · simp only [up_cons, up_nil, Nat.reduceEqDiff, if_false, if_true]
      rw [wrap_i64 (by omega) (by omega)]
      exact congrArg (Value.int .i64) (by omega)
    · intro e he
      rw [Heap.get_set_other hn0 (g.lt_of_get hk) _ (he _ rfl)]
      exact go e he
end
end Go.Proofs.Ytcmfgmhadeeieaa

namespace Go.Proofs.Ytcmfgmhadeeieaa
open Go Go.Abs

section
variable (C : CallF) (H20 : ∀ args h, C 20 args h = s20 args h)
include H20
theorem rb_check (x : Nat → Value) (h : Heap) (N d n : Nat) (D : Dk) (vals : List (List Nat)) (L : Nat) (sp : Option Nat) (rows : List Value) (dk : IsDk h d D) (hDn : D.n = n) (hdown : D.down = false) (hn : n ≤ 4096)
    (hL : Last h N d D.bb n (x 7) vals L sp rows) (hv : ∀ j, j < n → vals.getD j [] = D.read (j : Int)) (x0 : x 0 = i64n n) (x5 : x 5 = ptr d 0) (x15 : x 15 = .int .i64 0) :
    Fin 135 (fun ex y g => ex = .exit 6 ∧ y 0 = x 0 ∧ y 1 = x 1 ∧ y 5 = x 5 ∧ y 7 = x 7 ∧ y 9 = x 9 ∧ g.n0 = h.n0 ∧ h.next ≤ g.next ∧ (∀ b, b < h.next → g.get b = h.get b))
      (iter (codeA Try.prog C (partOf Try.f4 [1, 1, 1, 1, 1, 1, 0, 1, 0, 0, 1, 0, 0, 1, 1, 1, 1, 1, 1, 1, 1, 0, 0])) rounds (mkF 135 x) h) := by
  have hrm : n < rounds := by
    have h1 : rounds = 18446744073709551616 := rfl
    omega
  refine loop_fin (t4l4_1111110100100111111110_eq C) (Inv := fun q y g => q ≤ n ∧ (y 0 = x 0 ∧ y 1 = x 1 ∧ y 5 = x 5 ∧ y 7 = x 7 ∧ y 9 = x 9) ∧ y 15 = i64n (n - q) ∧ g.n0 = h.n0 ∧ h.next ≤ g.next ∧ (∀ b, b < h.next → g.get b = h.get b)) ?_ n hrm
    ⟨Nat.le_refl _, ⟨rfl, rfl, rfl, rfl, rfl⟩, by rw [x15, Nat.sub_self]; rfl, rfl, Nat.le_refl _, fun _ _ => rfl⟩
  rintro q y g ⟨hq, ⟨y0, y1, y5, y7, y9⟩, y15, gn, gx, go⟩
  unfold t4l4_1111110100100111111110
  simp -implicitDefEqProofs only [y15, y0, x0, thenV_some, pu_some, bin_lss]
  by_cases hz : q = 0
  · subst hz
    simp -implicitDefEqProofs only [Nat.sub_zero, Int.lt_irrefl, decide_false]
    refine Rnd.out 6 ⟨rfl, ?_, ?_, ?_, ?_, ?_, gn, gx, go⟩
    · simp only [up_cons, up_nil, Nat.reduceEqDiff, if_false, y0, x0]
    · simp only [up_cons, up_nil, Nat.reduceEqDiff, if_false, y1]
    · simp only [up_cons, up_nil, Nat.reduceEqDiff, if_false, y5]
    · simp only [up_cons, up_nil, Nat.reduceEqDiff, if_false, y7]
    · simp only [up_cons, up_nil, Nat.reduceEqDiff, if_false, y9]
  · have hlt : ((n - q : Nat) : Int) < (n : Int) := by omega
    have hj : n - q < n := by omega
    have e1 : n - (q - 1) = n - q + 1 := by omega
    have hq1 : q - 1 < q := by omega
    have hq2 : q - 1 ≤ n := by omega
    generalize n - q = j at *
    have dkg : IsDk g d D := dk.mono gn (go d dk.lt) (go D.bb dk.blt)
    have hf : D.fault (j : Int) = 0 := by
      unfold Dk.fault
      rw [hdown, hDn, if_neg (by simp), if_neg (by omega)]
    have hrd := s20_at dkg (j : Int) hf
    have hrl := Dk.read_length dkg hf
    have hrb := Dk.read_byte dkg (j : Int)
    generalize hR : D.read (j : Int) = R at *
    have g1get : ∀ b, b < g.next → (g.alloc (R.map u8)).get b = g.get b := by
      intro b hb
      rw [Heap.get_alloc, if_neg (by omega)]
    have g1new : (g.alloc (R.map u8)).get g.next = some (R.map u8) := by rw [Heap.get_alloc, if_pos rfl]
    have sl1 : sliceBytes (some ⟨g.next, 0, none⟩) 128 (g.alloc (R.map u8)) = some R := by
      rw [sliceBytes_at g1new (by omega) hrb, List.drop_zero, List.take_of_length_le (by omega)]
    have cv1 := cvBS_at (c := 128) sl1
    have hLlt : L < h.next := h.lt_of_get hL.get
    have hLg : (g.alloc (R.map u8)).get L = some rows := by rw [g1get L (by omega), go L hLlt]; exact hL.get
    obtain ⟨B, off, s, c, r1, r2, r3⟩ := hL.rows.2 j (by rw [hL.vlen]; exact hj)
    have hBlt : B < h.next := by
      obtain ⟨b', o', s', e, hb⟩ := sliceBytes_lt r2 (by decide)
      cases e; exact hb
    have sl2 : sliceBytes (some ⟨B, off, s⟩) 128 (g.alloc (R.map u8)) = some R := by
      rw [sliceBytes_congr (h := h) (fun z hz => by cases hz; show (g.alloc (R.map u8)).get B = h.get B; rw [g1get B (by omega)]; exact go B hBlt), r2, hv j hj]
      exact congrArg some hR
    have cv2 := cvBS_at (c := c) sl2
    have hix : idxS 1 (.slice (some ⟨L, 0, sp⟩) n n) (i64n j) = some (ptr L j) := by
      unfold idxS
      simp only [i64n]
      rw [if_pos (by omega), Int.toNat_natCast, Nat.zero_add, Nat.mul_one]
    have hld : ld1 (ptr L j) (g.alloc (R.map u8)) = some (.slice (some ⟨B, off, s⟩) 128 c, g.alloc (R.map u8)) := ld1_at hLg r1
    have hix2 : idxS 1 (.slice (some ⟨g.next, 0, none⟩) 128 128) (.int .i64 0) = some (ptr g.next 0) := rfl
    have hr0 : R[0]? = some (R.getD 0 0) := by
      rw [List.getD_eq_getElem?_getD, List.getElem?_eq_getElem (by omega)]; rfl
    have hld2 : ld1 (ptr g.next 0) (g.alloc (R.map u8)) = some (u8 (R.getD 0 0), g.alloc (R.map u8)) := ld1_at g1new (by rw [List.getElem?_map, hr0]; rfl)
    obtain ⟨hx1, hx2⟩ := xor255 (hrb _ (List.mem_of_getElem? hr0))
    have hst := stN1_at (v := u8 (R.getD 0 0 ^^^ 255)) g1new (show 0 < (R.map u8).length by simp; omega) (show (g.alloc (R.map u8)).n0 ≤ g.next from g.n0_le_next) rfl rfl
    have hxt0 : ∀ a b : Value, extractA (.tuple #[a, b]) 0 = some a := fun _ _ => rfl
    have hxt1 : ∀ a b : Value, extractA (.tuple #[a, b]) 1 = some b := fun _ _ => rfl
    have hs : (!((strOf R).toList == (strOf R).toList)) = false := by simp
    simp -implicitDefEqProofs only [decide_eq_true hlt, y5, x5, y7, hL.v, H20, hrd, newSlice, hxt0, hxt1, thenV_some, pu_some, bin28n, bne_self_eq_false, bOf_bool, beq_self_eq_true, guardK_true, cv1, hix, hld, cv2, bin_str_neq, Bool.not_true, Bool.false_eq_true, if_false, hix2, hld2, hx1, hst, bin_add]
    refine Rnd.next (q - 1) hq1 ⟨hq2, ?_, ?_, gn, ?_, ?_⟩
    · simp only [up_cons, up_nil, Nat.reduceEqDiff, if_false, y0, x0, y1, y5, x5, y7, hL.v, y9, and_self]
    · simp only [up_cons, up_nil, Nat.reduceEqDiff, if_false, if_true]
      rw [wrap_i64 (by omega) (by omega), e1]
      rfl
    · show h.next ≤ (g.alloc (R.map u8)).next
      rw [Heap.next_alloc]; omega
    · intro b hb
      rw [Heap.get_set_other (show (g.alloc (R.map u8)).n0 ≤ g.next from g.n0_le_next) (by simp) _ (by omega), g1get b (by omega)]
      exact go b hb
end
end Go.Proofs.Ytcmfgmhadeeieaa

namespace Go.Proofs.Ytcmfgmhadeeieaa
open Go Go.Abs

theorem getElem?_spliceN {l xs : List Nat} {o : Nat} (h : o + xs.length ≤ l.length) (i : Nat) : (spliceN l o xs)[i]? = if o ≤ i ∧ i < o + xs.length then xs[i - o]? else l[i]? := by
  have h1 : (l.take o).length = o := by simp; omega
  unfold spliceN
  by_cases c1 : i < o
  · rw [List.append_assoc, List.getElem?_append_left (by omega), List.getElem?_take, if_pos c1, if_neg (by omega)]
  · by_cases c2 : i < o + xs.length
    · rw [List.getElem?_append_left (by simp; omega), List.getElem?_append_right (by omega), h1, if_pos ⟨by omega, c2⟩]
    · rw [List.getElem?_append_right (by simp; omega), List.getElem?_drop, if_neg (by omega)]
      congr 1
      simp; omega
theorem read_lay {h : Heap} {d : Nat} {D : Dk} (x : IsDk h d D) {A j : Nat} (hA : A < D.n) (_hj : j < D.n) {data : List Nat} (hd : data.length = 128) : (D.lay (A : Int) data).read (j : Int) = if j = A then data else D.read (j : Int) := by
  have hlen := x.len
  have hs : A * 128 + data.length ≤ D.img.length := by omega
  unfold Dk.read Dk.lay
  simp only [Int.toNat_natCast]
  by_cases e : j = A
  · subst e
    rw [if_pos rfl]
    apply List.ext_getElem?
    intro i
    rw [List.getElem?_take, List.getElem?_drop]
    by_cases hi : i < 128
    · rw [if_pos hi, getElem?_spliceN hs, if_pos (by omega), Nat.add_sub_cancel_left]
    · rw [if_neg hi, List.getElem?_eq_none (by omega)]
  · rw [if_neg e]
    apply List.ext_getElem?
    intro i
    rw [List.getElem?_take, List.getElem?_drop, List.getElem?_take, List.getElem?_drop]
    by_cases hi : i < 128
    · rw [if_pos hi, if_pos hi, getElem?_spliceN hs, if_neg]
      intro hc
      have : j * 128 + i < A * 128 + 128 := by omega
      have h2 : A * 128 ≤ j * 128 + i := hc.1
      omega
    · rw [if_neg hi, if_neg hi]

theorem Last.set {g : Heap} {N d bb n : Nat} {v : Value} {vals : List (List Nat)} {L : Nat} {sp : Option Nat} {rows : List Value} (l : Last g N d bb n v vals L sp rows) {A B off c : Nat} {s : Option Nat} {data : List Nat} (hA : A < n)
    (hB : sliceBytes (some ⟨B, off, s⟩) 128 g = some data) (B1 : B ≠ d) (B2 : B ≠ bb) (B3 : B ≠ L) :
    stN 1 (ptr L A) (.slice (some ⟨B, off, s⟩) 128 c) g = some (undef, g.set L (rows.set A (.slice (some ⟨B, off, s⟩) 128 c))) ∧
    Last (g.set L (rows.set A (.slice (some ⟨B, off, s⟩) 128 c))) N d bb n v (vals.set A data) L sp (rows.set A (.slice (some ⟨B, off, s⟩) 128 c)) := by
  have hL0 : g.n0 ≤ L := Nat.le_trans l.n0 l.NL
  have hLn : L < g.next := g.lt_of_get l.get
  refine ⟨stN1_at l.get (by rw [l.len]; exact hA) hL0 rfl rfl, l.v, l.sp, Heap.get_set_same hL0 l.get _, by simp [l.len], by simp [l.vlen], l.n0, l.NL, l.Ld, l.Lb, ?_⟩
  have keep : ∀ b, b ≠ L → (g.set L (rows.set A (.slice (some ⟨B, off, s⟩) 128 c))).get b = g.get b := fun b hb => Heap.get_set_other hL0 hLn _ hb
  refine ⟨by simp [l.len, l.vlen], fun j hj => ?_⟩
  have hj2 : j < vals.length := by simpa using hj
  by_cases e : A = j
  · subst e
    refine ⟨B, off, s, c, by rw [List.getElem?_set, if_pos rfl, if_pos (by rw [l.len]; exact hA)], ?_, ?_⟩
    · rw [sliceBytes_congr (h := g) (fun y hy => by cases hy; exact keep B B3), hB, List.getD_eq_getElem?_getD, List.getElem?_set, if_pos rfl, if_pos hj2]; rfl
    · rintro (h1 | h1 | h1)
      · exact B1 h1
      · exact B2 h1
      · exact B3 h1
  · obtain ⟨B', off', s', c', r1, r2, r3⟩ := l.rows.2 j hj2
    refine ⟨B', off', s', c', by rw [List.getElem?_set, if_neg e]; exact r1, ?_, r3⟩
    rw [sliceBytes_congr (h := g) (fun y hy => by cases hy; exact keep B' (fun h => r3 (.inr (.inr h)))), r2, List.getD_eq_getElem?_getD, List.getD_eq_getElem?_getD, List.getElem?_set, if_neg e]

/-- Bytes appended to an empty slice. -/
theorem append_fresh {g : Heap} {E : Nat} {a : Option Addr} {n c : Nat} {l : List Nat} (_hE : g.n0 ≤ E) (hl : sliceBytes a n g = some l) (hn : n ≤ 21000) :
    ∃ b s c' g', appendA 1 1 (.slice (some ⟨E, 0, none⟩) 0 0) (.slice a n c) g = some (.slice (some ⟨b, 0, s⟩) n c', g') ∧ sliceBytes (some ⟨b, 0, s⟩) n g' = some l ∧ goodS (some ⟨b, 0, s⟩) n c' = true ∧ (b = E ∨ b = g.next) ∧
      g'.n0 = g.n0 ∧ g.next ≤ g'.next ∧ (∀ e, e < g.next → g'.get e = g.get e) := by
  obtain ⟨hlen, hb, _⟩ := sliceBytes_spec hl
  have hf := firstA_of hl (Nat.le_refl n) (c := c)
  rw [List.take_of_length_le (by omega)] at hf
  have hcond : (!(oneCells (l.map u8)) || !(decide ((0 + n) * 1 ≤ 140737488355328)) || !(decide (0 + n ≤ 4611686018427387904)) || decide ((l.map u8).length ≠ n * 1)) = false := by
    rw [one_u8, decide_eq_true (by omega : (0 + n) * 1 ≤ 140737488355328), decide_eq_true (by omega : 0 + n ≤ 4611686018427387904), decide_eq_false (by simp; omega)]; rfl
  unfold appendA
  simp only [lenA, hf]
  rw [if_neg (by rw [hcond]; decide)]
  by_cases h0 : n = 0
  · subst h0
    have : l = [] := List.length_eq_zero_iff.1 hlen
    subst this
    rw [if_pos (by omega), if_pos rfl]
    exact ⟨E, none, 0, g, rfl, rfl, rfl, .inl rfl, rfl, Nat.le_refl _, fun _ _ => rfl⟩
  · rw [if_neg (by omega)]
    have f0 : firstA 1 0 (.slice (some ⟨E, 0, none⟩) 0 0) g = some [] := rfl
    simp only [f0]
    rw [if_neg (by simp)]
    refine ⟨g.next, some 1, 0 + n, g.alloc ([] ++ l.map u8), by rw [Nat.zero_add], ?_, ?_, .inr rfl, rfl, by simp, ?_⟩
    · rw [List.nil_append, sliceBytes_at (l := l) (by rw [Heap.get_alloc, if_pos rfl]) (by omega) hb, List.drop_zero, List.take_of_length_le (by omega)]
    · unfold goodS
      rw [Nat.zero_add]
      simp
    · intro e he
      rw [Heap.get_alloc, if_neg (by omega)]
end Go.Proofs.Ytcmfgmhadeeieaa

namespace Go.Proofs.Ytcmfgmhadeeieaa
open Go Go.Abs

/-- What stands before call i. -/
structure RB (h0 : Heap) (N d bb n : Nat) (v : Value) (y : Nat → Value) (g : Heap) (i : Nat) : Prop where
  y0 : y 0 = i64n n
  y1 : y 1 = v
  y5 : y 5 = ptr d 0
  y9 : y 9 = i64n i
  dk : ∃ D, IsDk g d D ∧ D.n = n ∧ D.bb = bb ∧ D.down = false ∧ D.armed = false ∧ ∃ vals L sp rows, Last g N d bb n (y 7) vals L sp rows ∧ ∀ j, j < n → vals.getD j [] = D.read (j : Int)
  n0 : g.n0 = h0.n0
  next : N ≤ g.next
  old : ∀ b, b < N → g.get b = h0.get b

section
variable (C : CallF) (H20 : ∀ args h, C 20 args h = s20 args h)
include H20
theorem rb_tail {h0 : Heap} {N d bb n i : Nat} {v : Value} {y : Nat → Value} {g : Heap} {D : Dk} {A : Int} {kd kb km : Value} {data : List Nat} {O dn dc L : Nat} {da : Option Addr} {rv : Value} {vals : List (List Nat)} {sp : Option Nat} {rows : List Value} {e : Int}
    (_dN : N ≤ d) (bN : N ≤ bb) (_hn0 : h0.n0 ≤ N) (hn : n ≤ 4096) (y0 : y 0 = i64n n) (y1 : y 1 = v) (y5 : y 5 = ptr d 0) (y9 : y 9 = i64n i) (hi : i ≤ 100) (y10 : y 10 = ptr O 0) (y12 : y 12 = .int .i64 e)
    (hO : g.get O = some [kd, .int .i64 A, kb, km, .slice da dn dc, rv]) (hdata : sliceBytes da dn g = some data) (hdl : dn ≤ 21000) (_D0 : Dk)
    (gn0 : g.n0 = h0.n0) (gnext : N ≤ g.next) (gold : ∀ b, b < N → g.get b = h0.get b)
    (dk : IsDk g d (D.write A data).2) (h00 : Heap) (dk00 : IsDk h00 d D) (hDn : D.n = n) (hDb : D.bb = bb) (hdown : D.down = false) (harm : D.armed = false) (he : e = (D.write A data).1)
    (hL : Last g N d bb n (y 7) vals L sp rows) (hv : ∀ j, j < n → vals.getD j [] = D.read (j : Int)) :
    ∃ y' g', t4k4_27 C y g = some (.normal, mkF 135 y', g') ∧ RB h0 N d bb n v y' g' (i + 1) := by
  obtain ⟨hdlen, hdb, _⟩ := sliceBytes_spec hdata
  have l1 : ld1 (ptr O 1) g = some (.int .i64 A, g) := ld1_at hO rfl
  have l4 : ld1 (ptr O 4) g = some (.slice da dn dc, g) := ld1_at hO rfl
  have fin : ∀ {X : Nat → Value} {G : Heap} {E : Dk} {vals' : List (List Nat)} {L' : Nat} {sp' : Option Nat} {rows' : List Value}, IsDk G d E → E.n = n → E.bb = bb → E.down = false → E.armed = false → Last G N d bb n (X 7) vals' L' sp' rows' → (∀ j, j < n → vals'.getD j [] = E.read (j : Int)) →
      X 0 = i64n n → X 1 = v → X 5 = ptr d 0 → X 9 = i64n i → X 15 = .int .i64 0 → G.n0 = h0.n0 → N ≤ G.next → (∀ b, b < N → G.get b = h0.get b) →
      ∃ y' g', endL (iter (codeA Try.prog C (partOf Try.f4 [1, 1, 1, 1, 1, 1, 0, 1, 0, 0, 1, 0, 0, 1, 1, 1, 1, 1, 1, 1, 1, 0, 0])) rounds (mkF 135 X) G) (fun e h => some (Ex.ret, e, h)) (b4_38 C) = some (.normal, mkF 135 y', g') ∧ RB h0 N d bb n v y' g' (i + 1) := by
    intro X G E vals' L' sp' rows' dkE hEn hEb hEd hEa hL' hv' x0 x1 x5 x9 x15 Gn Gx Go
    subst hEb
    refine endL_fin (Q := fun o : Option (Ex × Env × Heap) => ∃ y' g', o = some (Ex.normal, mkF 135 y', g') ∧ RB h0 N d E.bb n v y' g' (i + 1)) (rb_check C H20 X G N d n E vals' L' sp' rows' dkE hEn hEd hn hL' hv' x0 x5 x15) ?_
    rintro ex z g' ⟨rfl, z0, z1, z5, z7, z9, zn, zx, zo⟩
    simp -implicitDefEqProofs only [endL_exit, b4_38, if_true, t4k4_22_eq]
    unfold t4k4_22
    simp -implicitDefEqProofs only [z9, x9, thenV_some, bin_add, pu_some]
    refine ⟨_, _, rfl, ?_⟩
    refine ⟨?_, ?_, ?_, ?_, ⟨E, dkE.mono zn (zo d dkE.lt) (zo E.bb dkE.blt), hEn, rfl, hEd, hEa, vals', L', sp', rows', ?_, hv'⟩, zn.trans Gn, Nat.le_trans Gx zx, fun b hb => (zo b (by omega)).trans (Go b hb)⟩
    · simp only [up_cons, up_nil, Nat.reduceEqDiff, if_false, z0, x0]
    · simp only [up_cons, up_nil, Nat.reduceEqDiff, if_false, z1, x1]
    · simp only [up_cons, up_nil, Nat.reduceEqDiff, if_false, z5, x5]
    · simp only [up_cons, up_nil, Nat.reduceEqDiff, if_false, if_true]
      rw [wrap_i64 (by omega) (by omega)]
      exact congrArg (Value.int .i64) (by omega)
    · simp only [up_cons, up_nil, Nat.reduceEqDiff, if_false, z7]
      exact hL'.move zn (fun b hb _ _ => zo b hb)
  have hLd : L < g.next := g.lt_of_get hL.get
  have hbad : ¬ (0 ≤ A ∧ A < n ∧ dn = 128) → (e == 0) = false ∧ (D.write A data).2 = D := by
    intro hc
    unfold Dk.write at he ⊢
    by_cases c1 : D.fault A = 0
    · obtain ⟨_, c2, c3⟩ := Dk.fault_zero c1
      rw [if_pos c1] at he ⊢
      rw [if_neg (by omega)] at he ⊢
      rw [he]; exact ⟨rfl, rfl⟩
    · rw [if_neg c1] at he ⊢
      refine ⟨?_, rfl⟩
      rw [he]; simpa using c1
  -- a call that is refused
  have bad : ∀ X : Nat → Value, X 0 = i64n n → X 1 = v → X 5 = ptr d 0 → X 9 = i64n i → X 15 = .int .i64 0 → X 7 = y 7 → (D.write A data).2 = D →
      ∃ y' g', endL (iter (codeA Try.prog C (partOf Try.f4 [1, 1, 1, 1, 1, 1, 0, 1, 0, 0, 1, 0, 0, 1, 1, 1, 1, 1, 1, 1, 1, 0, 0])) rounds (mkF 135 X) g) (fun e h => some (Ex.ret, e, h)) (b4_38 C) = some (.normal, mkF 135 y', g') ∧ RB h0 N d bb n v y' g' (i + 1) := by
    intro X x0 x1 x5 x9 x15 x7 hw
    rw [hw] at dk
    exact fin dk hDn hDb hdown harm (by rw [x7]; exact hL) hv x0 x1 x5 x9 x15 gn0 gnext gold
  have bn4 : ∀ a b : Bool, bin Try.prog .neq 4 (.bool a) (.bool b) = some (.bool (a != b)) := bin4n
  unfold t4k4_27
  simp -implicitDefEqProofs only [y10, addP_ptr, Nat.zero_add, l1, thenV_some, pu_some, bin_geq, bOf_bool, y0, y12, bin28e]
  by_cases c1 : A ≥ 0
  · simp -implicitDefEqProofs only [c1, decide_true, beq_self_eq_true, guardK_true, thenV_some, pu_some, l1, bin_lss, if_true, bOf_bool]
    by_cases c2 : A < (n : Int)
    · simp -implicitDefEqProofs only [c2, decide_true, beq_self_eq_true, guardK_true, thenV_some, pu_some, l4, lenL_slice, bin_eql, if_true, bOf_bool]
      by_cases c3 : dn = 128
      · subst c3
        have hgood : D.write A data = (0, D.lay A data) := by
          unfold Dk.write
          have c0 : D.fault A = 0 := by
            unfold Dk.fault
            rw [hdown, hDn, if_neg (by simp), if_neg (by omega)]
          rw [if_pos c0, if_pos hdlen, harm, if_neg (by simp)]
        rw [hgood] at dk he
        have he0 : (e == 0) = true := by rw [he]; rfl
        obtain ⟨An, rfl⟩ : ∃ An : Nat, A = An := ⟨A.toNat, by omega⟩
        have hAn : An < n := by omega
        -- the row that is kept
        have l1' : ∀ G : Heap, (∀ b, b < g.next → G.get b = g.get b) → ld1 (ptr O 1) G = some (.int .i64 (An : Int), G) := fun G hG => ld1_at (by rw [hG O (g.lt_of_get hO)]; exact hO) rfl
        have hE0 : g.n0 ≤ g.next := g.n0_le_next
        have gal : ∀ b, b < g.next → (g.alloc []).get b = g.get b := fun b hb => by rw [Heap.get_alloc, if_neg (by omega)]
        have hdata2 : sliceBytes da 128 (g.alloc []) = some data := sliceBytes_mono hdata (fun b k hk => Heap.get_alloc_some hk _)
        obtain ⟨B, s, c', g1, a1, a2, a3, a4, a5, a6, a7⟩ := append_fresh (g := g.alloc []) (E := g.next) (c := dc) hE0 hdata2 (by omega)
        have hBge : g.next ≤ B := by
          rcases a4 with h | h
          · omega
          · rw [h, Heap.next_alloc]; omega
        have g1get : ∀ b, b < g.next → g1.get b = g.get b := fun b hb => (a7 b (by simp; omega)).trans (gal b hb)
        have hL1 : Last g1 N d bb n (y 7) vals L sp rows := hL.move (a5.trans rfl) (fun b hb _ _ => g1get b hb)
        have hdlt : d < g.next := dk.lt
        have hblt : bb < g.next := by have := dk.blt; rw [show (D.lay (An : Int) data).bb = bb from hDb] at this; exact this
        obtain ⟨st, hL2⟩ := hL1.set (c := c') hAn a2 (by omega) (by omega) (by omega)
        have hix : idxS 1 (.slice (some ⟨L, 0, sp⟩) n n) (.int .i64 (An : Int)) = some (ptr L An) := by
          unfold idxS
          simp only
          rw [if_pos (by omega), Int.toNat_natCast, Nat.zero_add, Nat.mul_one]
        have hchk : chkR true (ld1 (ptr O 1) g1) (.int .i64 (An : Int)) = true := by
          rw [l1' g1 g1get]
          unfold chkR same
          simp [veq]
        have hL0 : g1.n0 ≤ L := Nat.le_trans hL1.n0 hL1.NL
        have g2get : ∀ b, b ≠ L → (g1.set L (rows.set An (.slice (some ⟨B, 0, s⟩) 128 c'))).get b = g1.get b := fun b hb => Heap.get_set_other hL0 (g1.lt_of_get hL1.get) _ hb
        have hlayb : (D.lay (An : Int) data).bb = bb := hDb
        simp -implicitDefEqProofs only [show ((128 : Nat) : Int) = 128 from rfl, beq_self_eq_true, he0, bn4, bne_self_eq_false, thenV_some, pu_some, addP_ptr, Nat.zero_add, l1, l4, bsl_bytes, a1, hL.v, hix, st, hchk, Bool.and_true]
        refine fin (E := D.lay (An : Int) data) (dk.mono (a5.trans rfl) ?_ ?_) hDn hDb hdown harm (vals' := vals.set An data) (L' := L) (sp' := sp) (rows' := rows.set An (.slice (some ⟨B, 0, s⟩) 128 c')) ?_ ?_ ?_ ?_ ?_ ?_ ?_ ?_ ?_ ?_
        · rw [g2get d (fun h => hL.Ld h.symm), g1get d hdlt]
        · rw [hlayb, g2get bb (fun h => hL.Lb h.symm), g1get bb hblt]
        · simp only [up_cons, up_nil, Nat.reduceEqDiff, if_false]; exact hL2
        · intro j hj
          rw [read_lay dk00 (by rw [hDn]; exact hAn) (by rw [hDn]; exact hj) hdlen, List.getD_eq_getElem?_getD, List.getElem?_set]
          by_cases ej : An = j
          · subst ej; rw [if_pos rfl, if_pos (by rw [hL.vlen]; exact hAn), if_pos rfl]; rfl
          · rw [if_neg ej, if_neg (fun h => ej h.symm), ← hv j hj, List.getD_eq_getElem?_getD]
        · simp only [up_cons, up_nil, Nat.reduceEqDiff, if_false, y0]
        · simp only [up_cons, up_nil, Nat.reduceEqDiff, if_false, y1]
        · simp only [up_cons, up_nil, Nat.reduceEqDiff, if_false, y5]
        · simp only [up_cons, up_nil, Nat.reduceEqDiff, if_false, y9]
        · simp only [up_cons, up_nil, Nat.reduceEqDiff, if_false, if_true]
        · exact a5.trans gn0
        · show N ≤ g1.next
          have : g.next + 1 ≤ g1.next := a6
          omega
        · intro b hb
          have hNL := hL.NL
          rw [g2get b (by omega), g1get b (by omega)]; exact gold b hb
      · obtain ⟨b1, b2⟩ := hbad (by omega)
        have c3' : ((dn : Int) == 128) = false := by
          have : (dn : Int) ≠ 128 := by omega
          simpa using this
        simp -implicitDefEqProofs only [c3', b1, bn4, bne_self_eq_false, thenV_some]
        refine bad _ ?_ ?_ ?_ ?_ ?_ ?_ b2
        · simp only [up_cons, up_nil, Nat.reduceEqDiff, if_false, y0]
        · simp only [up_cons, up_nil, Nat.reduceEqDiff, if_false, y1]
        · simp only [up_cons, up_nil, Nat.reduceEqDiff, if_false, y5]
        · simp only [up_cons, up_nil, Nat.reduceEqDiff, if_false, y9]
        · simp only [up_cons, up_nil, Nat.reduceEqDiff, if_false, if_true]
        · simp only [up_cons, up_nil, Nat.reduceEqDiff, if_false]
    · obtain ⟨b1, b2⟩ := hbad (by omega)
      simp -implicitDefEqProofs only [c2, decide_false, fs, guardK_false, thenV_some, Bool.false_eq_true, if_false, b1, bn4, bne_self_eq_false, bOf_bool]
      refine bad _ ?_ ?_ ?_ ?_ ?_ ?_ b2
      · simp only [up_cons, up_nil, Nat.reduceEqDiff, if_false, y0]
      · simp only [up_cons, up_nil, Nat.reduceEqDiff, if_false, y1]
      · simp only [up_cons, up_nil, Nat.reduceEqDiff, if_false, y5]
      · simp only [up_cons, up_nil, Nat.reduceEqDiff, if_false, y9]
      · simp only [up_cons, up_nil, Nat.reduceEqDiff, if_false, if_true]
      · simp only [up_cons, up_nil, Nat.reduceEqDiff, if_false]
  · obtain ⟨b1, b2⟩ := hbad (by omega)
    simp -implicitDefEqProofs only [c1, decide_false, fs, guardK_false, thenV_some, Bool.false_eq_true, if_false, b1, bn4, bne_self_eq_false, bOf_bool]
    refine bad _ ?_ ?_ ?_ ?_ ?_ ?_ b2
    · simp only [up_cons, up_nil, Nat.reduceEqDiff, if_false, y0]
    · simp only [up_cons, up_nil, Nat.reduceEqDiff, if_false, y1]
    · simp only [up_cons, up_nil, Nat.reduceEqDiff, if_false, y5]
    · simp only [up_cons, up_nil, Nat.reduceEqDiff, if_false, y9]
    · simp only [up_cons, up_nil, Nat.reduceEqDiff, if_false, if_true]
    · simp only [up_cons, up_nil, Nat.reduceEqDiff, if_false]
end
end Go.Proofs.Ytcmfgmhadeeieaa

namespace Go.Proofs.Ytcmfgmhadeeieaa
open Go Go.Abs

theorem OpV.cells {h : Heap} {k : Blk} {o : Nat} {op : OpD} (x : OpV h k o op) : ∃ da dn dc rv, (k.drop o).take 6 = [.int .i64 op.kind, .int .i64 op.A, .int .i64 op.B, u8 op.mask, .slice da dn dc, rv] ∧ o + 6 ≤ k.length ∧
    noHoles ((k.drop o).take 6) = true ∧ oneCells [.int .i64 op.kind, .int .i64 op.A, .int .i64 op.B, u8 op.mask, .slice da dn dc, rv] = true ∧ sliceBytes da dn h = some op.data ∧ dn = op.data.length := by
  obtain ⟨dv, d1, d2, da, dn, dc, rfl, d3, d4⟩ := x.data
  obtain ⟨rv, r1, r2, ra, rn, rc, rfl, r3, r4, r5⟩ := x.recs
  have hlen : o + 6 ≤ k.length := by
    have := (List.getElem?_eq_some_iff.1 r1).1; omega
  have hc : (k.drop o).take 6 = [.int .i64 op.kind, .int .i64 op.A, .int .i64 op.B, u8 op.mask, .slice da dn dc, .slice ra rn rc] := by
    apply List.ext_getElem?
    intro i
    rw [List.getElem?_take, List.getElem?_drop]
    by_cases hi : i < 6
    · rw [if_pos hi]
      match i, hi with
      | 0, _ => exact x.kind
      | 1, _ => exact x.A
      | 2, _ => exact x.B
      | 3, _ => exact x.mask
      | 4, _ => exact d1
      | 5, _ => exact r1
    · rw [if_neg hi, List.getElem?_eq_none (by simp; omega)]
  refine ⟨da, dn, dc, _, hc, hlen, by rw [hc]; rfl, rfl, d3, (sliceBytes_spec d3).1.symm⟩

section
variable (C : CallF) (H14 : ∀ args h, C 14 args h = s14 args h) (H17 : ∀ args h, C 17 args h = s17 args h) (H18 : ∀ args h, C 18 args h = s18 args h) (H19 : ∀ args h, C 19 args h = s19 args h) (H20 : ∀ args h, C 20 args h = s20 args h)
include H19 H20
theorem rb_round {h0 : Heap} {d bb n i m c : Nat} {v : Value} {a : Option Addr} {y : Nat → Value} {g : Heap} {ops : List OpD} (R : RB h0 h0.next d bb n v y g i) (dN : h0.next ≤ d) (bN : h0.next ≤ bb) (hn : n ≤ 4096) (hm : m ≤ 100) (hi : i < m) (hv : v = .slice a m c)
    (hat : ∃ b off s k, a = some ⟨b, off, s⟩ ∧ h0.get b = some k ∧ ∃ op, ops[i]? = some op ∧ OpV h0 k (off + i * 6) op) (hlight : ∀ op, ops[i]? = some op → op.data.length ≤ 21000) :
    ∃ y' g', t4l4_111111010 C y g = some (.normal, mkF 135 y', g') ∧ RB h0 h0.next d bb n v y' g' (i + 1) := by
  obtain ⟨y0, y1, y5, y9, ⟨D, dk, hDn, hDb, hdown, harm, vals, L, sp, rows, hL, hvals⟩, gn, gx, go⟩ := R
  obtain ⟨b0, off, s0, k, rfl, hk, op, hop, opv⟩ := hat
  obtain ⟨da, dn, dc, rv, hcells, hroom, hnh, hone, hdata, hdn⟩ := opv.cells
  have hlen := hlight op hop
  have hb0 : b0 < h0.next := h0.lt_of_get hk
  have hkg : g.get b0 = some k := by rw [go b0 hb0]; exact hk
  have hix : idxS 6 (.slice (some ⟨b0, off, s0⟩) m c) (i64n i) = some (ptr b0 (off + i * 6)) := by
    unfold idxS
    simp only [i64n]
    rw [if_pos (by omega), Int.toNat_natCast]
  have hld6 : ldN 6 (ptr b0 (off + i * 6)) g = some (.agg [.int .i64 op.kind, .int .i64 op.A, .int .i64 op.B, u8 op.mask, .slice da dn dc, rv].toArray, g) := by
    rw [ldN_at hkg hroom hnh, hcells]
  have hst6 := stN_all (h := g) (k := [.int .i64 0, .int .i64 0, .int .i64 0, .int .u8 0, .slice none 0 0, .slice none 0 0]) (k' := [.int .i64 op.kind, .int .i64 op.A, .int .i64 op.B, u8 op.mask, .slice da dn dc, rv]) rfl hone
  have hdlt : d < g.next := dk.lt
  have hblt : bb < g.next := by rw [← hDb]; exact dk.blt
  -- the copy of the call
  have hz6 : (g.alloc [.int .i64 0, .int .i64 0, .int .i64 0, .int .u8 0, .slice none 0 0, .slice none 0 0]).get g.next = some [.int .i64 0, .int .i64 0, .int .i64 0, .int .u8 0, .slice none 0 0, .slice none 0 0] := by rw [Heap.get_alloc, if_pos rfl]
  have G2O : ((g.alloc [.int .i64 0, .int .i64 0, .int .i64 0, .int .u8 0, .slice none 0 0, .slice none 0 0]).set g.next [.int .i64 op.kind, .int .i64 op.A, .int .i64 op.B, u8 op.mask, .slice da dn dc, rv]).get g.next = some [.int .i64 op.kind, .int .i64 op.A, .int .i64 op.B, u8 op.mask, .slice da dn dc, rv] :=
    Heap.get_set_same (h := g.alloc _) (show (g.alloc _).n0 ≤ g.next from g.n0_le_next) hz6 _
  have G2get : ∀ b, b < g.next → ((g.alloc [.int .i64 0, .int .i64 0, .int .i64 0, .int .u8 0, .slice none 0 0, .slice none 0 0]).set g.next [.int .i64 op.kind, .int .i64 op.A, .int .i64 op.B, u8 op.mask, .slice da dn dc, rv]).get b = g.get b := by
    intro b hb
    rw [Heap.get_set_other (show (g.alloc _).n0 ≤ g.next from g.n0_le_next) (by simp) _ (by omega), Heap.get_alloc, if_neg (by omega)]
  have G2n : ((g.alloc [.int .i64 0, .int .i64 0, .int .i64 0, .int .u8 0, .slice none 0 0, .slice none 0 0]).set g.next [.int .i64 op.kind, .int .i64 op.A, .int .i64 op.B, u8 op.mask, .slice da dn dc, rv]).next = g.next + 1 := rfl
  have G20 : ((g.alloc [.int .i64 0, .int .i64 0, .int .i64 0, .int .u8 0, .slice none 0 0, .slice none 0 0]).set g.next [.int .i64 op.kind, .int .i64 op.A, .int .i64 op.B, u8 op.mask, .slice da dn dc, rv]).n0 = g.n0 := rfl
  have hst6' : stN 6 (ptr g.next 0) (.agg [.int .i64 op.kind, .int .i64 op.A, .int .i64 op.B, u8 op.mask, .slice da dn dc, rv].toArray) (g.alloc [.int .i64 0, .int .i64 0, .int .i64 0, .int .u8 0, .slice none 0 0, .slice none 0 0]) = some (undef, (g.alloc [.int .i64 0, .int .i64 0, .int .i64 0, .int .u8 0, .slice none 0 0, .slice none 0 0]).set g.next [.int .i64 op.kind, .int .i64 op.A, .int .i64 op.B, u8 op.mask, .slice da dn dc, rv]) := hst6
  generalize hG2 : (g.alloc [.int .i64 0, .int .i64 0, .int .i64 0, .int .u8 0, .slice none 0 0, .slice none 0 0]).set g.next [.int .i64 op.kind, .int .i64 op.A, .int .i64 op.B, u8 op.mask, .slice da dn dc, rv] = G2 at *
  have G3get : ∀ b, b < G2.next → (G2.alloc []).get b = G2.get b := fun b hb => by rw [Heap.get_alloc, if_neg (by omega)]
  have G3O : (G2.alloc []).get g.next = some [.int .i64 op.kind, .int .i64 op.A, .int .i64 op.B, u8 op.mask, .slice da dn dc, rv] := by rw [G3get _ (by omega)]; exact G2O
  have oldmono : ∀ G : Heap, (∀ b, b < h0.next → G.get b = h0.get b) → sliceBytes da dn G = some op.data := fun G hG => sliceBytes_mono hdata (fun b k hk => by rw [hG b (h0.lt_of_get hk)]; exact hk)
  have hd3 := oldmono (G2.alloc []) (fun b hb => by rw [G3get b (by omega), G2get b (by omega)]; exact go b hb)
  obtain ⟨B, s, c', G4, a1, a2, a3, a4, a5, a6, a7⟩ := append_fresh (g := G2.alloc []) (E := G2.next) (c := dc) (show (G2.alloc []).n0 ≤ G2.next from G2.n0_le_next) hd3 (by omega)
  have hBge : G2.next ≤ B := by
    rcases a4 with h | h
    · omega
    · rw [h, Heap.next_alloc]; omega
  have G4get : ∀ b, b < g.next → G4.get b = g.get b := fun b hb => by rw [a7 b (by rw [Heap.next_alloc]; omega), G3get b (by omega), G2get b hb]
  have G4O : G4.get g.next = some [.int .i64 op.kind, .int .i64 op.A, .int .i64 op.B, u8 op.mask, .slice da dn dc, rv] := by rw [a7 _ (by rw [Heap.next_alloc]; omega)]; exact G3O
  have a5' : G4.n0 = g.n0 := a5.trans G20
  have dk4 : IsDk G4 d D := dk.mono a5' (G4get d hdlt) (by rw [hDb]; exact G4get bb hblt)
  have hw := s19_at (c := c') dk4 op.A a2 a3
  have okd := Dk.write_okd dk4 op.A (sliceBytes_spec hdata).2.1
  have dk5 := dk4.put okd
  have get5 := putDk_get (E := (D.write op.A op.data).2) dk4 okd.bb
  have hEb : (D.write op.A op.data).2.bb = bb := okd.bb.trans hDb
  have G5get : ∀ b, b ≠ d → b ≠ bb → (putDk G4 d (D.write op.A op.data).2).get b = G4.get b := fun b h1 h2 => by rw [get5, if_neg (by rw [hEb]; exact h2), if_neg h1]
  have hin5 : sliceBytes (some ⟨B, 0, s⟩) dn (putDk G4 d (D.write op.A op.data).2) = some op.data := by
    rw [sliceBytes_congr (h := G4) (fun z hz => by cases hz; exact G5get B (by omega) (by omega))]; exact a2
  have ld4 : ld1 (ptr g.next 4) (G2.alloc []) = some (.slice da dn dc, G2.alloc []) := ld1_at G3O rfl
  have ld1' : ld1 (ptr g.next 1) G4 = some (.int .i64 op.A, G4) := ld1_at G4O rfl
  have n5 : (putDk G4 d (D.write op.A op.data).2).next = G4.next := rfl
  have o5 : (putDk G4 d (D.write op.A op.data).2).n0 = G4.n0 := rfl
  have hlt : (i : Int) < (m : Int) := by omega
  have g3n : (G2.alloc []).next = g.next + 2 := by rw [Heap.next_alloc, G2n]
  generalize hG5 : putDk G4 d (D.write op.A op.data).2 = G5 at *
  unfold t4l4_111111010
  simp -implicitDefEqProofs only [y9, y1, hv, thenV_some, pu_some, lenL_slice, bin_lss, decide_eq_true hlt, hix, hld6, newC, Abs.newRow, hst6', bsl_bytes, addP_ptr, Nat.zero_add, ld4, a1, y5, ld1', H19, hw]
  refine endL_fin (Q := fun o : Option (Ex × Env × Heap) => ∃ y' g', o = some (Ex.normal, mkF 135 y', g') ∧ RB h0 h0.next d bb n (.slice (some ⟨b0, off, s0⟩) m c) y' g' (i + 1))
    (rb_flip C _ G5 (some ⟨B, 0, s⟩) dn c' op.data (by omega) hin5 (fun z hz => by cases hz; show G5.n0 ≤ B; have := g.n0_le_next; omega) ?_ ?_) ?_
  · simp only [up_cons, up_nil, Nat.reduceEqDiff, if_false, if_true]
  · simp only [up_cons, up_nil, Nat.reduceEqDiff, if_false, if_true]
  rintro ex z G6 ⟨rfl, z0, z1, z5, z7, z9, z10, z12, zn, zx, zo⟩
  simp only [up_cons, up_nil, Nat.reduceEqDiff, if_false, if_true] at z0 z1 z5 z7 z9 z10 z12
  have G6get : ∀ b, b ≠ B → G6.get b = G5.get b := fun b hb => zo b (fun w hw => by cases hw; exact hb)
  have G6old : ∀ b, b < h0.next → G6.get b = h0.get b := fun b hb => by rw [G6get b (by omega), G5get b (by omega) (by omega), G4get b (by omega)]; exact go b hb
  have hOd : g.next ≠ d := by omega
  have hOb : g.next ≠ bb := by omega
  rw [endL_exit]
  simp -implicitDefEqProofs only [b4_29, if_true, t4k4_27_eq]
  refine rb_tail C H20 (D := D) (A := op.A) (data := op.data) (O := g.next) (da := da) (dn := dn) (dc := dc) (rv := rv) (vals := vals) (sp := sp) (rows := rows) (L := L) (e := (D.write op.A op.data).1) dN bN h0.n0_le_next hn (z0.trans y0) (z1.trans (y1.trans hv)) (z5.trans y5) (z9.trans y9) (by omega) z10 z12
    (kd := .int .i64 op.kind) (kb := .int .i64 op.B) (km := u8 op.mask) ?_ (oldmono G6 G6old) (by omega) D ?_ ?_ G6old ?_ g dk hDn hDb hdown harm rfl ?_ hvals
  · rw [G6get _ (by omega), G5get _ hOd hOb]; exact G4O
  · rw [zn, o5, a5']; exact gn
  · rw [zx, n5]; omega
  · exact dk5.mono (zn.trans rfl) (G6get d (by omega)) (by rw [hEb]; exact G6get bb (by omega))
  · rw [z7]
    exact hL.move (by rw [zn, o5, a5']) (fun b hb h1 h2 => by rw [G6get b (by omega), G5get b h1 h2]; exact G4get b hb)
end
end Go.Proofs.Ytcmfgmhadeeieaa

namespace Go.Proofs.Ytcmfgmhadeeieaa
open Go Go.Abs

section
variable (C : CallF) (H14 : ∀ args h, C 14 args h = s14 args h) (H17 : ∀ args h, C 17 args h = s17 args h) (H18 : ∀ args h, C 18 args h = s18 args h) (H19 : ∀ args h, C 19 args h = s19 args h) (H20 : ∀ args h, C 20 args h = s20 args h)
include H19 H20
theorem rb_loop {h0 : Heap} {d bb n m c : Nat} {v : Value} {a : Option Addr} {x : Nat → Value} {h : Heap} {ops : List OpD} (R : RB h0 h0.next d bb n v x h 0) (dN : h0.next ≤ d) (bN : h0.next ≤ bb) (hn : n ≤ 4096) (hm : m ≤ 100) (hv : v = .slice a m c)
    (hat : ∀ i, i < m → ∃ b off s k, a = some ⟨b, off, s⟩ ∧ h0.get b = some k ∧ ∃ op, ops[i]? = some op ∧ OpV h0 k (off + i * 6) op) (hlight : ∀ op, op ∈ ops → op.data.length ≤ 21000) :
    Fin 135 (fun ex _y g => ex = .exit 2 ∧ ∀ b, b < h0.next → g.get b = h0.get b) (iter (codeA Try.prog C (partOf Try.f4 [1, 1, 1, 1, 1, 1, 0, 1, 0, 0])) rounds (mkF 135 x) h) := by
  have hrm : m < rounds := by
    have h1 : rounds = 18446744073709551616 := rfl
    omega
  refine loop_fin (t4l4_111111010_eq C) (Inv := fun q y g => q ≤ m ∧ RB h0 h0.next d bb n v y g (m - q)) ?_ m hrm ⟨Nat.le_refl _, by rw [Nat.sub_self]; exact R⟩
  rintro q y g ⟨hq, S⟩
  by_cases hz : q = 0
  · subst hz
    unfold t4l4_111111010
    simp -implicitDefEqProofs only [S.y9, S.y1, hv, thenV_some, pu_some, lenL_slice, bin_lss, Nat.sub_zero, Int.lt_irrefl, decide_false]
    exact Rnd.out 2 ⟨rfl, S.old⟩
  · obtain ⟨y', g', r1, r2⟩ := rb_round C H19 H20 S dN bN hn hm (by omega) hv (hat (m - q) (by omega)) (fun op hop => hlight op (List.mem_of_getElem? hop))
    rw [r1]
    have e1 : m - (q - 1) = m - q + 1 := by omega
    exact Rnd.next (q - 1) (by omega) ⟨by omega, by rw [e1]; exact r2⟩

include H14 H17 H18
theorem t4_is (b : Int) {v : Value} {h : Heap} {ops : List OpD} (ho : OpsV h v ops) : ∃ g, t4 C (.int .i64 b) v h = some (.bool true, g) ∧ ∀ c k, h.get c = some k → g.get c = some k := by
  have h14 : ∀ q : Heap, s14 [] q = some (.bool true, q) := fun _ => rfl
  have hxt0 : ∀ a b : Value, extractA (.tuple #[a, b]) 0 = some a := fun _ _ => rfl
  have hxt1 : ∀ a b : Value, extractA (.tuple #[a, b]) 1 = some b := fun _ _ => rfl
  have h17 := s17_at b ho
  unfold t4
  simp -implicitDefEqProofs only [thenV_some, H17, h17, bOf_bool]
  cases hhv : heavyB b ops with
  | true =>
    simp -implicitDefEqProofs only [sf, guardK_false, thenV_some, if_true, bOf_bool, H14, h14]
    exact ⟨h, rfl, fun _ _ h => h⟩
  | false =>
  simp -implicitDefEqProofs only [beq_self_eq_true, guardK_true, thenV_some, pu_some, bin_lss, Bool.false_eq_true, if_false, bOf_bool]
  by_cases c1 : b < 4
  · simp -implicitDefEqProofs only [c1, decide_true, sf, guardK_false, thenV_some, if_true, bOf_bool, H14, h14]
    exact ⟨h, rfl, fun _ _ h => h⟩
  simp -implicitDefEqProofs only [c1, decide_false, beq_self_eq_true, guardK_true, thenV_some, pu_some, bin_gtr, Bool.false_eq_true, if_false, bOf_bool]
  by_cases c2 : b > 4096
  · simp -implicitDefEqProofs only [c2, decide_true, thenV_some, if_true, H14, h14]
    exact ⟨h, rfl, fun _ _ h => h⟩
  obtain ⟨n, rfl⟩ : ∃ n : Nat, b = n := ⟨b.toNat, by omega⟩
  obtain ⟨a, len, c, rfl, hlen, hmx, hat⟩ := ho
  have hv2 := hhv
  unfold heavyB at hv2
  simp only [Bool.or_eq_false_iff, decide_eq_false_iff_not] at hv2
  obtain ⟨⟨_, hm⟩, hany⟩ := hv2
  have hlight : ∀ op, op ∈ ops → op.data.length ≤ 21000 := by
    intro op hop
    have := List.any_eq_false.1 hany op hop
    unfold heavyOp at this
    simp only [Bool.or_eq_true, not_or, decide_eq_true_eq] at this
    omega
  have hnew := s18_at (h := h) (n := (n : Int)) ⟨by omega, by omega⟩
  rw [Int.toNat_natCast] at hnew
  have dk0 := new_is h (n := n) (by omega)
  have old0 : ∀ c, c < h.next → (newDk h n).get c = h.get c := fun c hc => (new_kept h n (fun _ => False)).get c hc (fun h => h)
  have n0 : (newDk h n).next = h.next + 2 := rfl
  have o0 : (newDk h n).n0 = h.n0 := rfl
  simp -implicitDefEqProofs only [c2, decide_false, thenV_some, H18, hnew, hxt0, hxt1, pu_some, bin28n, show ((0 : Int) != 0) = false from rfl, bsl_empty]
  generalize hG : newDk h n = G at *
  have get1 : ∀ c, c < G.next → (G.alloc []).get c = G.get c := fun c hc => by rw [Heap.get_alloc, if_neg (by omega)]
  have hlast : ∃ L sp rows, Last (G.alloc []) h.next (h.next + 1) h.next 0 (.slice (some ⟨G.next, 0, none⟩) 0 0) [] L sp rows := by
    refine ⟨G.next, none, [], rfl, .inl ⟨rfl, rfl⟩, by rw [Heap.get_alloc, if_pos rfl], rfl, rfl, by rw [Heap.n0_alloc, o0]; exact h.n0_le_next, by omega, by omega, by omega, rfl, fun j hj => absurd hj (Nat.not_lt_zero j)⟩
  refine endL_fin (Q := fun o : Out => ∃ g, o = some (Value.bool true, g) ∧ ∀ c k, h.get c = some k → g.get c = some k)
    (rb_build C _ (G.alloc []) h.next (h.next + 1) h.next n (by omega) (by rw [Heap.next_alloc]; omega) (by rw [Heap.next_alloc]; omega) (by omega) (Nat.le_refl _) (by rw [Heap.next_alloc]; omega) rfl rfl hlast) ?_
  rintro ex y g ⟨rfl, y0, y1, y5, ⟨L, sp, rows, hL⟩, gn, gx, go⟩
  have y1' : y 1 = .slice a len c := y1
  have y5' : y 5 = ptr (h.next + 1) 0 := y5
  have hbb : (Dk.new h n).bb = h.next := rfl
  have dkg : IsDk g (h.next + 1) (Dk.new h n) := dk0.mono (gn.trans rfl) (by rw [go _ (.inr (.inl rfl)), get1 _ (by omega)]) (by rw [hbb, go _ (.inr (.inr rfl)), get1 _ (by omega)])
  have hread : ∀ j, j < n → (List.replicate n (List.replicate 128 0)).getD j [] = (Dk.new h n).read (j : Int) := by
    intro j hj
    rw [List.getD_eq_getElem?_getD, List.getElem?_replicate, if_pos hj]
    show List.replicate 128 0 = ((List.replicate (128 * n) 0).drop ((j : Int).toNat * 128)).take 128
    rw [List.drop_replicate, List.take_replicate, Int.toNat_natCast, Nat.min_eq_left (by omega)]
  simp -implicitDefEqProofs only [endL_exit, b4_11, if_true, t4k4_9_eq]
  unfold t4k4_9
  simp -implicitDefEqProofs only [thenV_some]
  have S : RB h h.next (h.next + 1) h.next n (.slice a len c) (up y [(9, .int .i64 0)]) g 0 := by
    refine ⟨?_, ?_, ?_, rfl, ⟨Dk.new h n, dkg, rfl, rfl, rfl, rfl, _, L, sp, rows, ?_, hread⟩, ?_, by have : (G.alloc []).next = G.next + 1 := rfl; omega, ?_⟩
    · simp only [up_cons, up_nil, Nat.reduceEqDiff, if_false, y0]
    · simp only [up_cons, up_nil, Nat.reduceEqDiff, if_false, y1']
    · simp only [up_cons, up_nil, Nat.reduceEqDiff, if_false, y5']
    · simp only [up_cons, up_nil, Nat.reduceEqDiff, if_false]; exact hL
    · rw [gn, Heap.n0_alloc, o0]
    · intro b hb
      rw [go b (.inl hb), get1 b (by omega)]; exact old0 b hb
  refine endL_fin (Q := fun o : Out => ∃ g, o = some (Value.bool true, g) ∧ ∀ c k, h.get c = some k → g.get c = some k) (rb_loop C H19 H20 S (by omega) (Nat.le_refl _) (by omega) (by omega) rfl hat hlight) ?_
  rintro ex z g2 ⟨rfl, hold⟩
  simp -implicitDefEqProofs only [endL_exit, b4_14, if_true, t4k4_12_eq]
  unfold t4k4_12
  simp -implicitDefEqProofs only [H14, h14, thenV_some]
  exact ⟨g2, rfl, fun c k hc => by rw [hold c (h.lt_of_get hc)]; exact hc⟩
end

noncomputable def s4 : List Value → Heap → Out
  | [.int .i64 _, v], h => match opsOf h v with
    | some _ => some (.bool true, h)
    | none => none
  | _, _ => none
theorem is4 : IsFn Try.prog 4 Try.f4 := ⟨by kernel_rfl, by kernel_rfl, by kernel_rfl, by kernel_rfl⟩
noncomputable abbrev C4 : CallF := callL [(14, s14), (17, s17), (18, s18), (19, s19), (20, s20)]
theorem C4_sound : CSound Try.prog C4 := callL_sound _ (by
  intro p hp
  simp only [List.mem_cons, List.not_mem_nil, or_false] at hp
  rcases hp with rfl | rfl | rfl | rfl | rfl
  · exact c14
  · exact c17
  · exact c18
  · exact c19
  · exact c20)
theorem c4 : Contract Try.prog 4 s4 := by
  have key : ∀ args h v h', s4 args h = some (v, h') → ∃ b x ops, args = [.int .i64 b, x] ∧ OpsV h x ops ∧ v = .bool true ∧ h' = h := by
    intro args h v h' e
    unfold s4 at e
    split at e
    · split at e
      · cases e; exact ⟨_, _, _, rfl, opsOf_spec (by assumption), rfl, rfl⟩
      · cases e
    · cases e
  refine .quiet C4_sound mixed is4 ?_ ?_
  · intro args h v h' e
    obtain ⟨b, x, ops, rfl, ho, rfl, rfl⟩ := key _ _ _ _ e
    exact ⟨rfl, fun _ => rfl⟩
  · intro args h v h' e _ _
    obtain ⟨b, x, ops, rfl, ho, rfl, rfl⟩ := key _ _ _ _ e
    obtain ⟨g, h1, h2⟩ := t4_is C4 (fun _ _ => rfl) (fun _ _ => rfl) (fun _ _ => rfl) (fun _ _ => rfl) (fun _ _ => rfl) b ho
    exact ⟨g, (t4_eq _ _ _ _).trans h1, h2⟩
end Go.Proofs.Ytcmfgmhadeeieaa

namespace Go.Proofs.Ytcmfgmhadeeieaa
open Go Go.Abs

noncomputable abbrev XL : List (FuncId × (List Value → Heap → Out)) := [(95, s95), (15, sCost), (16, sCost), (14, s14), (53, s53), (32, s32), (33, s33), (36, s36), (50, s50), (48, s48), (19, s19), (20, s20), (18, s18), (25, s25), (17, s17)]
noncomputable abbrev XX : CallF := callL XL
theorem XX_sound : CSound Try.prog XX := callL_sound _ (by
  intro p hp
  simp only [List.mem_cons, List.not_mem_nil, or_false] at hp
  rcases hp with rfl | rfl | rfl | rfl | rfl | rfl | rfl | rfl | rfl | rfl | rfl | rfl | rfl | rfl | rfl
  · exact c95
  · exact c15
  · exact c16
  · exact c14
  · exact c53
  · exact c32
  · exact c33
  · exact c36
  · exact c50
  · exact c48
  · exact c19
  · exact c20
  · exact c18
  · exact c25
  · exact c17)
/-- Calls of the seat's functions: what is known of some, and the bodies of all others. -/
noncomputable def CD : CallF := CC Try.prog XX
theorem globals0 : Try.prog.globals.size = 0 := by kernel_rfl
theorem CD_body {f : FuncId} {fn : Func} (i : IsFn Try.prog f fn) {args : List Value} {h : Heap} {r : Value × Heap} (hX : XX f args h = none) (e : bodyK Try.prog CD fn args h = some r) : CD f args h = some r :=
  CC_body i (by rw [globals0]; exact Nat.zero_le _) hX e
theorem CD_known {f : FuncId} {args : List Value} {h : Heap} {r : Value × Heap} (e : XX f args h = some r) : CD f args h = some r := CC_known e

/-- Nothing that was there has changed. -/
abbrev Old (h h' : Heap) : Prop := Kept h h' (fun _ => False)
theorem Old.get {h h' : Heap} (o : Old h h') {b : Nat} {k : Blk} (e : h.get b = some k) : h'.get b = some k := (Kept.get o b (h.lt_of_get e) (fun h => h)).trans e
theorem Old.bytes {h h' : Heap} (o : Old h h') {a : Option Addr} {n : Nat} {l : List Nat} (e : sliceBytes a n h = some l) : sliceBytes a n h' = some l := sliceBytes_mono e fun _ _ => o.get
theorem Old.dk {h h' : Heap} (o : Old h h') {d : Nat} {D : Dk} (x : IsDk h d D) : IsDk h' d D := x.mono o.n0 (Kept.get o d x.lt (fun h => h)) (Kept.get o D.bb x.blt (fun h => h))

/-- clone -/
theorem is107 : IsFn Try.prog 107 Try.f107 := ⟨by kernel_rfl, by kernel_rfl, by kernel_rfl, by kernel_rfl⟩
theorem eql32 (a : Option Addr) (n c : Nat) : bin Try.prog .eql 32 (.slice a n c) (.slice none 0 0) = some (.bool a.isNone) := by
  cases a <;> kernel_rfl
theorem r107 {a : Option Addr} {n c : Nat} {l : List Nat} {h : Heap} (hl : sliceBytes a n h = some l) (hn : n ≤ 21000) :
    ∃ a' c' h', CD 107 [.slice a n c] h = some (.slice a' n c', h') ∧ sliceBytes a' n h' = some l ∧ goodS a' n c' = true ∧ Old h h' ∧ (∀ y, a' = some y → h.next ≤ y.block) ∧ (a'.isNone = a.isNone) := by
  cases a with
  | none =>
    have h0 : n = 0 := by
      obtain ⟨h1, _, h3⟩ := sliceBytes_spec hl
      by_cases hz : n = 0
      · exact hz
      · obtain ⟨_, _, _, _, h4, _⟩ := h3 (by omega); cases h4
    subst h0
    refine ⟨none, 0, h, CD_body is107 rfl ((t107_eq _ _ _).trans ?_), hl, rfl, Kept.refl _ _, fun y hy => by (cases hy), rfl⟩
    unfold t107
    simp -implicitDefEqProofs only [thenV_some, eql32, pu_some, Option.isNone_none]
  | some x =>
    have hl1 : sliceBytes (some x) n (h.alloc []) = some l := sliceBytes_mono hl fun _ _ hc => Heap.get_alloc_some hc _
    obtain ⟨b, s, c', g', e1, e2, e3, e4, e5, e6, e7⟩ := append_fresh (g := h.alloc []) (E := h.next) (c := c) h.n0_le_next hl1 hn
    refine ⟨some ⟨b, 0, s⟩, c', g', CD_body is107 rfl ((t107_eq _ _ _).trans ?_), e2, e3, (Kept.alloc h [] _).trans ⟨e5, e6, fun d hd _ => e7 d hd⟩, ?_, rfl⟩
    · unfold t107
      simp -implicitDefEqProofs only [thenV_some, eql32, pu_some, Option.isNone_some, bsl_bytes, e1]
    · intro y hy
      cases hy
      rcases e4 with e4 | e4
      · show h.next ≤ b; omega
      · have : (h.alloc []).next = h.next + 1 := by simp
        show h.next ≤ b
        omega
/-- What is not touched holds the bytes that it held. -/
theorem _root_.Go.Abs.Kept.bytes {h h' : Heap} {B : Nat → Prop} (k : Kept h h' B) {a : Option Addr} {n : Nat} {l : List Nat} (e : sliceBytes a n h = some l) (hb : ∀ y, a = some y → 0 < n → ¬ B y.block) : sliceBytes a n h' = some l := by
  by_cases h0 : n = 0
  · subst h0
    obtain ⟨hl, _, _⟩ := sliceBytes_spec e
    have : l = [] := List.length_eq_zero_iff.1 hl
    subst this
    cases a with
    | none => rfl
    | some x => unfold sliceBytes firstA; simp; rfl
  · obtain ⟨_, _, h3⟩ := sliceBytes_spec e
    obtain ⟨b, off, s, c, rfl, hc, _⟩ := h3 (by omega)
    rw [sliceBytes_congr (h := h) (fun y hy => by cases hy; exact k.get b (h.lt_of_get hc) (hb _ rfl (by omega)))]
    exact e
theorem _root_.Go.Abs.Kept.dk {h h' : Heap} {B : Nat → Prop} (k : Kept h h' B) {d : Nat} {D : Dk} (x : IsDk h d D) (h1 : ¬ B d) (h2 : ¬ B D.bb) : IsDk h' d D := x.mono k.n0 (k.get d x.lt h1) (k.get D.bb x.blt h2)
theorem _root_.Go.Abs.Kept.getE {h h' : Heap} {B : Nat → Prop} (o : Kept h h' B) {b : Nat} {k : Blk} (e : h.get b = some k) (hb : ¬ B b) : h'.get b = some k := (o.get b (h.lt_of_get e) hb).trans e

/-- Bytes do not lie where something else lies. -/
theorem bytes_apart {h : Heap} {a : Option Addr} {n : Nat} {l : List Nat} (e : sliceBytes a n h = some l) {r : Nat} {k : Blk} (hk : h.get r = some k) (hv : ∀ v ∈ k, nat8 v = none) : ∀ y, a = some y → 0 < n → y.block ≠ r := by
  intro y hy hn he
  obtain ⟨_, hb, h3⟩ := sliceBytes_spec e
  obtain ⟨b, off, s, c, rfl, hc, hlen, hat⟩ := h3 hn
  cases hy
  have : b = r := he
  subst this
  rw [hk] at hc
  cases hc
  have h4 := hat 0 hn
  have h5 := hv _ (List.mem_of_getElem? h4)
  have h6 : l.getD 0 0 < 256 := by
    rw [List.getD_eq_getElem?_getD]
    cases hz : l[0]? with
    | none => decide
    | some z => exact hb z (List.mem_of_getElem? hz)
  have h7 : nat8 (u8 (l.getD 0 0)) = some (l.getD 0 0) := by
    show (if l.getD 0 0 < 256 then some (l.getD 0 0) else none) = some (l.getD 0 0)
    rw [if_pos h6]
  rw [h7] at h5; cases h5

/-- A Reader: what is left, and its error. -/
structure IsR (h : Heap) (r : Nat) (l : List Nat) (e : Int) : Prop where
  ex : ∃ a n c, h.get r = some [.slice a n c, .int .i64 e] ∧ sliceBytes a n h = some l ∧ goodS a n c = true
  n0 : h.n0 ≤ r
  len : l.length ≤ 21000
theorem IsR.keep {h h' : Heap} {B : Nat → Prop} {r : Nat} {l : List Nat} {e : Int} (R : IsR h r l e) (k : Old h h') : IsR h' r l e := by
  obtain ⟨a, n, c, h1, h2, h3⟩ := R.ex
  exact ⟨⟨a, n, c, k.getE h1 (fun h => h), k.bytes h2, h3⟩, k.n0 ▸ R.n0, R.len⟩

theorem is105 : IsFn Try.prog 105 Try.f105 := ⟨by kernel_rfl, by kernel_rfl, by kernel_rfl, by kernel_rfl⟩
theorem box_at (h : Heap) (cs : List Value) (hc : oneCells cs = true) : box (.agg cs.toArray) h = some (ptr h.next 0, h.alloc cs) := by
  have e : (Value.agg cs.toArray).cells = cs.toArray := rfl
  unfold box
  rw [e, if_pos (by simpa using hc)]
  simp [Abs.newRow]
theorem r105 {a : Option Addr} {n c : Nat} {l : List Nat} {h : Heap} (hl : sliceBytes a n h = some l) (hn : n ≤ 21000) :
    ∃ r h', CD 105 [.slice a n c] h = some (ptr r 0, h') ∧ IsR h' r l 0 ∧ Old h h' ∧ h.next ≤ r := by
  obtain ⟨a', c', h1, e1, e2, e3, e4, e5, _⟩ := r107 (c := c) hl hn
  have hb : bldR [(.slice none 0 0), (.int .i64 0)] [(0, 1, .slice a' n c')] = some (.agg [.slice a' n c', .int .i64 0].toArray) := rfl
  refine ⟨h1.next, h1.alloc [.slice a' n c', .int .i64 0], CD_body is105 rfl ((t105_eq _ _ _).trans ?_), ⟨⟨a', n, c', by rw [Heap.get_alloc, if_pos rfl], (Kept.alloc h1 _ (fun _ => False)).bytes e2 (fun _ _ _ h => h), e3⟩, ?_, ?_⟩, e4.trans (Kept.alloc h1 _ _), e4.next⟩
  · unfold t105
    simp -implicitDefEqProofs only [thenV_some, e1, hb, pu_some, box_at h1 [.slice a' n c', .int .i64 0] rfl]
  · exact h1.n0_le_next
  · rw [(sliceBytes_spec hl).1]; exact hn

theorem eql134 (b o : Nat) : bin Try.prog .eql 134 (ptr b o) (.pointer none) = some (.bool false) := by kernel_rfl
theorem bin28n0 (a : Int) : bin Try.prog .neq 28 (.int .i64 a) (.int .i64 0) = some (.bool (a != 0)) := bin_neq ..
theorem rd_apart (a : Option Addr) (n c : Nat) (e : Int) : ∀ v ∈ [Value.slice a n c, .int .i64 e], nat8 v = none := by
  intro v hv
  simp only [List.mem_cons, List.not_mem_nil, or_false] at hv
  rcases hv with rfl | rfl <;> rfl

/-- take -/
theorem is108 : IsFn Try.prog 108 Try.f108 := ⟨by kernel_rfl, by kernel_rfl, by kernel_rfl, by kernel_rfl⟩
theorem r108 {r : Nat} {l : List Nat} {h : Heap} (R : IsR h r l 0) {n : Nat} (hn : n ≤ l.length) :
    ∃ a' c' h', CD 108 [ptr r 0, i64n n] h = some (.slice a' n c', h') ∧ sliceBytes a' n h' = some (l.take n) ∧ goodS a' n c' = true ∧ IsR h' r (l.drop n) 0 ∧ Kept h h' (fun c => c = r) ∧ h'.next = h.next := by
  obtain ⟨a, m, c, h1, h2, h3⟩ := R.ex
  have hm := (sliceBytes_spec h2).1
  subst hm
  have l0 : ld1 (ptr r 0) h = some (.slice a l.length c, h) := ld1_at h1 rfl
  have l1 : ld1 (ptr r 1) h = some (.int .i64 0, h) := ld1_at h1 rfl
  obtain ⟨a1, c1, e1, e2, e3⟩ := slR_bytes (vl := none) (vh := some (i64n n)) (lo := 0) (hi := n) h3 h2 (by omega) hn (by simp only [boundA, i64n]; rw [if_pos (by have := goodS_le h3; omega)]; rfl) rfl
  obtain ⟨a2, c2, f1, f2, f3⟩ := slR_bytes (vl := some (i64n n)) (vh := none) (lo := n) (hi := l.length) h3 h2 hn (Nat.le_refl _) rfl (by simp only [boundA, i64n]; rw [if_pos (by omega)]; rfl)
  have hst : stN 1 (ptr r 0) (.slice a2 (l.length - n) c2) h = some (undef, h.set r [.slice a2 (l.length - n) c2, .int .i64 0]) := stN1_at h1 (by simp) R.n0 rfl rfl
  have kp : Kept h (h.set r [.slice a2 (l.length - n) c2, .int .i64 0]) (fun c => c = r) := Kept.set R.n0 h1 (.inr rfl)
  have hap := fun {a : Option Addr} {n : Nat} {l : List Nat} (e : sliceBytes a n h = some l) => bytes_apart e h1 (rd_apart _ _ _ _)
  rw [List.drop_zero, Nat.sub_zero] at e2
  rw [Nat.sub_zero] at e1 e3
  rw [List.take_of_length_le (by simp)] at f2
  refine ⟨a1, c1, h.set r [.slice a2 (l.length - n) c2, .int .i64 0], CD_body is108 rfl ((t108_eq _ _ _ _).trans ?_), kp.bytes e2 (hap e2), e3, ⟨⟨a2, l.length - n, c2, Heap.get_set_same R.n0 h1 _, kp.bytes f2 (hap f2), f3⟩, R.n0, by have := R.len; simp; omega⟩, kp, rfl⟩
  have g1 : ¬ ((n : Int) < 0) := by omega
  have g2 : ¬ ((n : Int) > (l.length : Int)) := by omega
  unfold t108
  simp -implicitDefEqProofs only [thenV_some, eql134, pu_some, bOf_bool, beq_self_eq_true, guardK_true, nilCheck_ptr, addP_ptr, Nat.zero_add, l1, bin28n0, bne_self_eq_false, Bool.false_eq_true, if_false, i64n, bin_lss, g1, decide_false, l0, lenL_slice, bin_gtr, g2]
  rw [show (Value.int .i64 (n : Int)) = i64n n from rfl, e1]
  simp -implicitDefEqProofs only [thenV_some, pu_some, l0, f1, hst]
theorem r108_short {r : Nat} {l : List Nat} {h : Heap} (R : IsR h r l 0) {n : Nat} (hn : l.length < n) :
    ∃ h', CD 108 [ptr r 0, i64n n] h = some (.slice none 0 0, h') ∧ IsR h' r l 4 ∧ Kept h h' (fun c => c = r) ∧ h'.next = h.next := by
  obtain ⟨a, m, c, h1, h2, h3⟩ := R.ex
  have hm := (sliceBytes_spec h2).1
  subst hm
  have l0 : ld1 (ptr r 0) h = some (.slice a l.length c, h) := ld1_at h1 rfl
  have l1 : ld1 (ptr r 1) h = some (.int .i64 0, h) := ld1_at h1 rfl
  have hst : stN 1 (ptr r 1) (.int .i64 4) h = some (undef, h.set r [.slice a l.length c, .int .i64 4]) := stN1_at h1 (by simp) R.n0 rfl rfl
  have kp : Kept h (h.set r [.slice a l.length c, .int .i64 4]) (fun c => c = r) := Kept.set R.n0 h1 (.inr rfl)
  refine ⟨h.set r [.slice a l.length c, .int .i64 4], CD_body is108 rfl ((t108_eq _ _ _ _).trans ?_), ⟨⟨a, l.length, c, Heap.get_set_same R.n0 h1 _, kp.bytes h2 (bytes_apart h2 h1 (rd_apart _ _ _ _)), h3⟩, R.n0, R.len⟩, kp, rfl⟩
  have g1 : ¬ ((n : Int) < 0) := by omega
  have g2 : ((n : Int) > (l.length : Int)) := by omega
  unfold t108
  simp -implicitDefEqProofs only [thenV_some, eql134, pu_some, bOf_bool, beq_self_eq_true, guardK_true, nilCheck_ptr, addP_ptr, Nat.zero_add, l1, bin28n0, bne_self_eq_false, Bool.false_eq_true, if_false, i64n, bin_lss, g1, decide_false, l0, lenL_slice, bin_gtr, g2, decide_true, hst]

/-- Numbers, the highest byte first. -/
def be (l : List Nat) : Nat := l.foldl (fun v x => v * 256 + x) 0
theorem be_snoc (l : List Nat) (x : Nat) : be (l ++ [x]) = be l * 256 + x := by simp [be]
theorem be_lt : ∀ (n : Nat) (l : List Nat), l.length = n → (∀ x ∈ l, x < 256) → be l < 256 ^ n
  | 0, l, hl, _ => by
    have : l = [] := List.length_eq_zero_iff.1 hl
    subst this; decide
  | n + 1, l, hl, hb => by
    rcases List.eq_nil_or_concat l with h0 | ⟨m, x, h0⟩
    · subst h0; cases hl
    · rw [List.concat_eq_append] at h0
      subst h0
      have hm : m.length = n := by simpa using hl
      have := be_lt n m hm (fun y hy => hb y (List.mem_append_left _ hy))
      have hx := hb x (by simp)
      rw [be_snoc, Nat.pow_succ]
      omega

theorem is106 : IsFn Try.prog 106 Try.f106 := ⟨by kernel_rfl, by kernel_rfl, by kernel_rfl, by kernel_rfl⟩
theorem shl_or {v x : Nat} (hv : v < 72057594037927936) (hx : x < 256) : bin Try.prog .shl 58 (.int .u64 (v : Int)) (.int .u64 8) = some (.int .u64 ((v * 256 : Nat) : Int)) ∧
    bin Try.prog .or 58 (.int .u64 ((v * 256 : Nat) : Int)) (.int .u64 (x : Int)) = some (.int .u64 ((v * 256 + x : Nat) : Int)) := by
  constructor
  · rw [bin_int]
    have h2 : min (8 : Int).toNat (IntKind.bits .u64) = 8 := by decide
    simp only [binI, show ¬ ((8 : Int) < 0) by decide, if_false, h2]
    have h3 : (2 : Int) ^ 8 = 256 := by decide
    rw [h3, show (v : Int) * 256 = ((v * 256 : Nat) : Int) by omega, wrap_u64 (by omega) (by omega)]
  · rw [bin_or_nat Try.prog 58 (k := .u64) rfl (by show _ < 2 ^ 64; omega) (by show _ < 2 ^ 64; omega)]
    have := Nat.two_pow_add_eq_or_of_lt (i := 8) (b := x) (by omega) v
    rw [show v * 256 = 2 ^ 8 * v by omega, ← this]
theorem r106 {r : Nat} {l : List Nat} {h : Heap} (R : IsR h r l 0) {n : Nat} (hn : n ≤ l.length) (h8 : n ≤ 8) :
    ∃ h', CD 106 [ptr r 0, i64n n] h = some (.int .u64 (be (l.take n)), h') ∧ IsR h' r (l.drop n) 0 ∧ Kept h h' (fun c => c = r) ∧ h'.next = h.next := by
  obtain ⟨a, c, h1, e1, e2, e3, e4, e5, e6⟩ := r108 R hn
  refine ⟨h1, CD_body is106 rfl ((t106_eq _ _ _ _).trans ?_), e4, e5, e6⟩
  have hb : ∀ x ∈ l.take n, x < 256 := (sliceBytes_spec e2).2.1
  have hlen : (l.take n).length = n := (sliceBytes_spec e2).1
  unfold t106
  simp -implicitDefEqProofs only [thenV_some, e1, lenL_slice, pu_some]
  obtain ⟨ex, y, g, q1, q2⟩ := loop_inv (t106l106_11010_eq CD)
    (Inv := fun k y g => k ≤ n ∧ g = h1 ∧ y 10 = .slice a n c ∧ y 11 = i64n n ∧ y 12 = i64n (n - k) ∧ y 5 = .int .u64 (be ((l.take n).take (n - k))))
    (fin := fun ex y g => ex = .exit 0 ∧ g = h1 ∧ y 5 = .int .u64 (be (l.take n)))
    (by
      rintro k y g ⟨hk, rfl, i10, i11, i12, i5⟩
      unfold t106l106_11010
      simp -implicitDefEqProofs only [i11, i12, i64n, bin_lss, pu_some, thenV_some]
      by_cases hz : k = 0
      · subst hz
        simp -implicitDefEqProofs only [Nat.sub_zero, Int.lt_irrefl, decide_false]
        refine ⟨_, _, _, rfl, .inr ⟨by simp, rfl, rfl, ?_⟩⟩
        simp only [up_cons, up_nil, Nat.reduceEqDiff, if_false]
        rw [i5, Nat.sub_zero, List.take_of_length_le (by omega)]
      · have hlt : ((n - k : Nat) : Int) < (n : Int) := by omega
        obtain ⟨b, off, s, kb, hx, hkb, hoff, hat⟩ := (sliceBytes_spec e2).2.2 (by omega)
        subst hx
        have hidx : (0 : Int) ≤ ((n - k : Nat) : Int) ∧ ((n - k : Nat) : Int) < (n : Int) := by omega
        have hV := hat (n - k) (by omega)
        generalize hVd : (l.take n).getD (n - k) 0 = V at *
        have hV2 : (l.take n)[n - k]? = some V := by
          rw [← hVd, List.getD_eq_getElem?_getD, List.getElem?_eq_getElem (by omega)]; rfl
        have hV256 : V < 256 := hb V (List.mem_of_getElem? hV2)
        have hbe := be_lt (n - k) ((l.take n).take (n - k)) (by simp; omega) (fun x hx => hb x (List.mem_of_mem_take hx))
        have hbe2 : be ((l.take n).take (n - k)) < 72057594037927936 := Nat.lt_of_lt_of_le hbe (Nat.le_trans (Nat.pow_le_pow_right (by decide) (show n - k ≤ 7 by omega)) (by decide))
        obtain ⟨b1, b2⟩ := shl_or hbe2 hV256
        have hw : IntKind.wrap .u64 (V : Int) = (V : Int) := wrap_u64 (by omega) (by omega)
        have hw2 : IntKind.wrap .i64 (((n - k : Nat) : Int) + 1) = ((n - (k - 1) : Nat) : Int) := by rw [wrap_i64 (by omega) (by omega)]; omega
        simp -implicitDefEqProofs only [decide_eq_true hlt, i10, idxS, hidx, and_self, if_true, Int.toNat_natCast, Nat.mul_one, pu_some, thenV_some, ld1_at hkb hV, i5, b1, u8, cvI_int, hw, b2, bin_add, hw2]
        refine ⟨_, _, _, rfl, .inl ⟨rfl, k - 1, by omega, by omega, rfl, ?_, ?_, ?_, ?_⟩⟩
        · simp only [up_cons, up_nil, Nat.reduceEqDiff, if_false, i10]
        · simp only [up_cons, up_nil, Nat.reduceEqDiff, if_false, i11]
        · simp only [up_cons, up_nil, Nat.reduceEqDiff, if_false, if_true]
        · simp only [up_cons, up_nil, Nat.reduceEqDiff, if_false, if_true]
          rw [show n - (k - 1) = n - k + 1 by omega, List.take_add_one, hV2]
          show _ = Value.int .u64 ((be ((l.take n).take (n - k) ++ [V]) : Nat) : Int)
          rw [be_snoc])
    (k := n) (by have : rounds = 18446744073709551616 := rfl; omega)
    (x := up (bs [ptr r 0, i64n n]) [(4, .int .u64 0), (5, .int .u64 0), (8, ptr r 0), (9, i64n n), (10, .slice a n c), (11, i64n n), (12, .int .i64 0)]) (h := h1)
    ⟨Nat.le_refl _, rfl, rfl, rfl, by rw [Nat.sub_self]; rfl, by rw [Nat.sub_self]; rfl⟩
  obtain ⟨rfl, rfl, q3⟩ := q2
  rw [show (Value.int .i64 (n : Int)) = i64n n from rfl, q1]
  simp -implicitDefEqProofs only [endL_exit, b106_4, if_true, t106k106_2_eq]
  unfold t106k106_2
  simp -implicitDefEqProofs only [q3, thenV_some]

end Go.Proofs.Ytcmfgmhadeeieaa

namespace Go.Proofs.Ytcmfgmhadeeieaa
open Go Go.Abs

theorem IsR.byte {h : Heap} {r : Nat} {l : List Nat} {e : Int} (R : IsR h r l e) : ∀ x ∈ l, x < 256 := by
  obtain ⟨a, n, c, _, h2, _⟩ := R.ex
  exact (sliceBytes_spec h2).2.1
theorem IsR.lt {h : Heap} {r : Nat} {l : List Nat} {e : Int} (R : IsR h r l e) : r < h.next := by
  obtain ⟨a, n, c, h1, _, _⟩ := R.ex
  exact h.lt_of_get h1
/-- Two steps, of which the second changes what is new to the first. -/
theorem _root_.Go.Abs.Kept.also {a b c : Heap} {B B' : Nat → Prop} (x : Kept a b B) (y : Kept b c B') (hB : ∀ d, d < a.next → B' d → B d) : Kept a c B :=
  ⟨y.n0.trans x.n0, Nat.le_trans x.next y.next, fun d hd hb => (y.get d (Nat.lt_of_lt_of_le hd x.next) (fun h => hb (hB d hd h))).trans (x.get d hd hb)⟩
theorem be_take_lt {l : List Nat} (hb : ∀ x ∈ l, x < 256) {n : Nat} (hn : n ≤ l.length) : be (l.take n) < 256 ^ n := be_lt n _ (by simp; omega) fun x hx => hb x (List.mem_of_mem_take hx)

theorem is85 : IsFn Try.prog 85 Try.f85 := ⟨by kernel_rfl, by kernel_rfl, by kernel_rfl, by kernel_rfl⟩
theorem is86 : IsFn Try.prog 86 Try.f86 := ⟨by kernel_rfl, by kernel_rfl, by kernel_rfl, by kernel_rfl⟩
theorem is87 : IsFn Try.prog 87 Try.f87 := ⟨by kernel_rfl, by kernel_rfl, by kernel_rfl, by kernel_rfl⟩
theorem is88 : IsFn Try.prog 88 Try.f88 := ⟨by kernel_rfl, by kernel_rfl, by kernel_rfl, by kernel_rfl⟩
theorem is89 : IsFn Try.prog 89 Try.f89 := ⟨by kernel_rfl, by kernel_rfl, by kernel_rfl, by kernel_rfl⟩
theorem is90 : IsFn Try.prog 90 Try.f90 := ⟨by kernel_rfl, by kernel_rfl, by kernel_rfl, by kernel_rfl⟩

/-- What reading n bytes leaves. -/
structure RdOk (h : Heap) (r : Nat) (l : List Nat) (n : Nat) (h' : Heap) : Prop where
  rd : IsR h' r (l.drop n) 0
  kept : Kept h h' (fun c => c = r)
  next : h'.next = h.next
section
variable {r : Nat} {l : List Nat} {h : Heap} (R : IsR h r l 0)
include R
theorem r85 (hn : 4 ≤ l.length) : ∃ h', CD 85 [ptr r 0] h = some (.int .u32 (be (l.take 4)), h') ∧ RdOk h r l 4 h' := by
  obtain ⟨h1, e1, e2, e3, e4⟩ := r106 R hn (by decide)
  refine ⟨h1, CD_body is85 rfl ((t85_eq _ _ _).trans ?_), e2, e3, e4⟩
  have e1 : CD 106 [ptr r 0, .int .i64 4] h = _ := e1
  have hb := be_take_lt R.byte hn
  have hw : IntKind.wrap .u32 ((be (l.take 4) : Nat) : Int) = (be (l.take 4) : Nat) := wrap_u32 (by omega) (by omega)
  unfold t85
  simp -implicitDefEqProofs only [thenV_some, e1, cvI_int, hw]
theorem r86 (hn : 8 ≤ l.length) : ∃ h', CD 86 [ptr r 0] h = some (.int .u64 (be (l.take 8)), h') ∧ RdOk h r l 8 h' := by
  obtain ⟨h1, e1, e2, e3, e4⟩ := r106 R hn (by decide)
  refine ⟨h1, CD_body is86 rfl ((t86_eq _ _ _).trans ?_), e2, e3, e4⟩
  have e1 : CD 106 [ptr r 0, .int .i64 8] h = _ := e1
  unfold t86
  simp -implicitDefEqProofs only [thenV_some, e1]
theorem r87 (hn : 1 ≤ l.length) : ∃ h', CD 87 [ptr r 0] h = some (.int .u8 (be (l.take 1)), h') ∧ RdOk h r l 1 h' := by
  obtain ⟨h1, e1, e2, e3, e4⟩ := r106 R hn (by decide)
  refine ⟨h1, CD_body is87 rfl ((t87_eq _ _ _).trans ?_), e2, e3, e4⟩
  have e1 : CD 106 [ptr r 0, .int .i64 1] h = _ := e1
  have hb := be_take_lt R.byte hn
  have hw : IntKind.wrap .u8 ((be (l.take 1) : Nat) : Int) = (be (l.take 1) : Nat) := wrap_u8 (by omega) (by omega)
  unfold t87
  simp -implicitDefEqProofs only [thenV_some, e1, cvI_int, hw]
theorem r88 (hn : 2 ≤ l.length) : ∃ h', CD 88 [ptr r 0] h = some (.int .u16 (be (l.take 2)), h') ∧ RdOk h r l 2 h' := by
  obtain ⟨h1, e1, e2, e3, e4⟩ := r106 R hn (by decide)
  refine ⟨h1, CD_body is88 rfl ((t88_eq _ _ _).trans ?_), e2, e3, e4⟩
  have e1 : CD 106 [ptr r 0, .int .i64 2] h = _ := e1
  have hb := be_take_lt R.byte hn
  have hw : IntKind.wrap .u16 ((be (l.take 2) : Nat) : Int) = (be (l.take 2) : Nat) := wrap_u16 (by omega) (by omega)
  unfold t88
  simp -implicitDefEqProofs only [thenV_some, e1, cvI_int, hw]
/-- Raw: a copy of the next bytes. -/
theorem r89 {n : Nat} (hn : n ≤ l.length) : ∃ a' c' h', CD 89 [ptr r 0, i64n n] h = some (.slice a' n c', h') ∧ sliceBytes a' n h' = some (l.take n) ∧ goodS a' n c' = true ∧ IsR h' r (l.drop n) 0 ∧ Kept h h' (fun c => c = r) ∧
    (∀ y, a' = some y → h.next ≤ y.block) := by
  obtain ⟨a, c, h1, e1, e2, e3, e4, e5, e6⟩ := r108 R hn
  obtain ⟨a', c', h2, f1, f2, f3, f4, f5, _⟩ := r107 (c := c) e2 (by have := R.len; omega)
  refine ⟨a', c', h2, CD_body is89 rfl ((t89_eq _ _ _ _).trans ?_), f2, f3, e4.keep (B := fun _ => False) f4, e5.also f4 (fun _ _ h => h.elim), fun y hy => e6 ▸ f5 y hy⟩
  unfold t89
  simp -implicitDefEqProofs only [thenV_some, e1, f1]
theorem r89_short {n : Nat} (hn : l.length < n) : ∃ h', CD 89 [ptr r 0, i64n n] h = some (.slice none 0 0, h') ∧ IsR h' r l 4 ∧ Kept h h' (fun c => c = r) := by
  obtain ⟨h1, e1, e2, e3, e4⟩ := r108_short R hn
  obtain ⟨a', c', h2, f1, f2, f3, f4, f5, f6⟩ := r107 (a := none) (n := 0) (c := 0) (l := []) (h := h1) rfl (by omega)
  have ha : a' = none := by simpa using f6
  subst ha
  have f1' : CD 107 [.slice none 0 0] h1 = some (.slice none 0 0, h1) := by
    refine CD_body is107 rfl ((t107_eq _ _ _).trans ?_)
    unfold t107
    simp -implicitDefEqProofs only [thenV_some, eql32, pu_some, Option.isNone_none]
  refine ⟨h1, CD_body is89 rfl ((t89_eq _ _ _ _).trans ?_), e2, e3⟩
  unfold t89
  simp -implicitDefEqProofs only [thenV_some, e1, f1']
end
theorem r90 {r : Nat} {l : List Nat} {h : Heap} {e : Int} (R : IsR h r l e) : CD 90 [ptr r 0] h = some (.int .i64 e, h) := by
  obtain ⟨a, n, c, h1, _, _⟩ := R.ex
  have l1 : ld1 (ptr r 1) h = some (.int .i64 e, h) := ld1_at h1 rfl
  refine CD_body is90 rfl ((t90_eq _ _ _).trans ?_)
  unfold t90
  simp -implicitDefEqProofs only [thenV_some, eql134, pu_some, nilCheck_ptr, addP_ptr, Nat.zero_add, l1]

/-- A block of a disk. -/
def Dk.blk (D : Dk) (i : Nat) : List Nat := (D.img.drop (i * 128)).take 128
theorem Dk.blk_length {h : Heap} {d : Nat} {D : Dk} (x : IsDk h d D) {i : Nat} (hi : i < D.n) : (D.blk i).length = 128 := by
  have := x.len
  simp only [Dk.blk, List.length_take, List.length_drop]
  omega
theorem Dk.blk_byte {h : Heap} {d : Nat} {D : Dk} (x : IsDk h d D) (i : Nat) : ∀ y ∈ D.blk i, y < 256 := fun y hy => x.byte y (List.mem_of_mem_drop (List.mem_of_mem_take hy))
/-- Whether the checksum of a block is right. -/
def right (b : List Nat) : Bool := be (b.take 4) == crcN (b.drop 4)
theorem int_beq (a b : Nat) : ((a : Int) == (b : Int)) = (a == b) := by
  by_cases h : a = b
  · subst h; rw [beq_self_eq_true, beq_self_eq_true]
  · have h1 : ¬ ((a : Int) = (b : Int)) := by omega
    rw [beq_eq_false_iff_ne.2 h1, beq_eq_false_iff_ne.2 h]
theorem arr128_4 (b off : Nat) : sliceArr 128 1 (ptr b off) (some (.int .i64 4)) none none = some (.slice (some ⟨b, off + 4, none⟩) 124 124) := rfl

theorem X95 : XX 95 = s95 := rfl
theorem is84 : IsFn Try.prog 84 Try.f84 := ⟨by kernel_rfl, by kernel_rfl, by kernel_rfl, by kernel_rfl⟩
theorem r84 {d : Nat} {D : Dk} {h : Heap} (x : IsDk h d D) {i : Nat} (hi : i < D.n) :
    ∃ r h', CD 84 [ptr d 0, i64n i] h = some (.tuple #[ptr r 0, .bool (right (D.blk i))], h') ∧ IsR h' r ((D.blk i).drop 4) 0 ∧ Old h h' ∧ h.next ≤ r := by
  have hb : sliceBytes (some ⟨D.bb, i * 128, none⟩) 128 h = some (D.blk i) := blockBytes x hi
  have hlen := Dk.blk_length x hi
  obtain ⟨r, h1, e1, e2, e3, e4⟩ := r105 (c := 128) hb (by omega)
  obtain ⟨h2, f1, f2⟩ := r85 e2 (show 4 ≤ (D.blk i).length by omega)
  have x2 : IsDk h2 d D := f2.kept.dk (e3.dk x) (by have := x.lt; omega) (by have := x.blt; omega)
  have hix : idxS 128 (.slice (some ⟨D.bb, 0, none⟩) D.n D.n) (i64n i) = some (ptr D.bb (i * 128)) := by
    unfold idxS
    simp only [i64n]
    rw [if_pos (by omega), Int.toNat_natCast, Nat.zero_add]
  have hs : sliceBytes (some ⟨D.bb, i * 128 + 4, none⟩) 124 h2 = some ((D.blk i).drop 4) := by
    have := sliceBytes_sub (s' := none) (blockBytes x2 hi) (lo := 4) (hi := 128) (by decide) (by decide)
    rw [this]
    exact congrArg some (List.take_of_length_le (by simp only [List.length_drop]; unfold Dk.blk at hlen; omega))
  have hc : CD 95 [.slice (some ⟨D.bb, i * 128 + 4, none⟩) 124 124] h2 = some (u32 (crcN ((D.blk i).drop 4)), h2) := by
    refine CD_known ?_
    rw [X95]
    unfold s95
    simp only [hs]
    rfl
  refine ⟨r, h2, CD_body is84 rfl ((t84_eq _ _ _ _).trans ?_), f2.rd, e3.also f2.kept (fun c h1 h2 => by omega), e4⟩
  unfold t84
  simp -implicitDefEqProofs only [thenV_some, pu_some, nilCheck_ptr, addP_ptr, Nat.zero_add, x.l0, hix, arr128, e1, f1, x2.l0, arr128_4, hc, u32, bin_eql, int_beq, right]

/-- A superblock. -/
def superGen (b : List Nat) : Nat := be ((b.drop 8).take 8)
def superArea (b : List Nat) : Nat := be ((b.drop 16).take 1)
def superOk (b : List Nat) : Bool := right b && (be ((b.drop 4).take 4) == 1398034252) && decide (superArea b ≤ 1)
theorem is54 : IsFn Try.prog 54 Try.f54 := ⟨by kernel_rfl, by kernel_rfl, by kernel_rfl, by kernel_rfl⟩
theorem r54 {d : Nat} {D : Dk} {h : Heap} (x : IsDk h d D) {i : Nat} (hi : i < D.n) :
    ∃ h', CD 54 [ptr d 0, i64n i] h = some (.tuple #[.int .u64 (superGen (D.blk i)), i64n (superArea (D.blk i)), .bool (superOk (D.blk i))], h') ∧ Old h h' := by
  have hlen := Dk.blk_length x hi
  have hbb := Dk.blk_byte x i
  obtain ⟨r, h1, e1, R1, o1, g1⟩ := r84 x hi
  obtain ⟨h2, e2, R2⟩ := r85 R1 (by simp; omega)
  obtain ⟨h3, e3, R3⟩ := r86 R2.rd (by simp; omega)
  obtain ⟨h4, e4, R4⟩ := r87 R3.rd (by simp; omega)
  simp only [List.drop_drop, Nat.reduceAdd] at e2 e3 e4
  have ha : be (((D.blk i).drop 16).take 1) < 256 := be_lt 1 _ (by simp; omega) fun y hy => hbb y (List.mem_of_mem_drop (List.mem_of_mem_take hy))
  have hw : IntKind.wrap .i64 ((be (((D.blk i).drop 16).take 1) : Nat) : Int) = (be (((D.blk i).drop 16).take 1) : Nat) := wrap_i64 (by omega) (by omega)
  refine ⟨h4, CD_body is54 rfl ((t54_eq _ _ _ _).trans ?_), ((o1.also R2.kept (fun c h1 h2 => by omega)).also R3.kept (fun c h1 h2 => by omega)).also R4.kept (fun c h1 h2 => by omega)⟩
  have hx0 : ∀ a b : Value, extractA (.tuple #[a, b]) 0 = some a := fun _ _ => rfl
  have hx1 : ∀ a b : Value, extractA (.tuple #[a, b]) 1 = some b := fun _ _ => rfl
  have hm : ((1398034252 : Int)) = ((1398034252 : Nat) : Int) := rfl
  unfold t54 superOk superGen superArea
  simp -implicitDefEqProofs only [thenV_some, e1, hx0, hx1, pu_some, e2, e3, e4, cvI_int, hw, bOf_bool]
  cases right (D.blk i) with
  | false =>
    simp -implicitDefEqProofs only [fs, guardK_false, thenV_some, Bool.false_eq_true, if_false, bOf_bool, Bool.false_and]
  | true =>
    simp -implicitDefEqProofs only [beq_self_eq_true, guardK_true, thenV_some, pu_some, bin_eql, if_true, bOf_bool, Bool.true_and, hm, int_beq]
    cases be (((D.blk i).drop 4).take 4) == 1398034252 with
    | false => simp -implicitDefEqProofs only [fs, guardK_false, thenV_some, Bool.false_eq_true, if_false, Bool.false_and]
    | true =>
      simp -implicitDefEqProofs only [beq_self_eq_true, guardK_true, thenV_some, pu_some, bin_leq, if_true, Bool.true_and, i64n]
      have : decide (((be (((D.blk i).drop 16).take 1) : Nat) : Int) ≤ 1) = decide (be (((D.blk i).drop 16).take 1) ≤ 1) := decide_eq_decide.2 (by omega)
      rw [this]

/-- The area size. -/
def Dk.ar (D : Dk) : Nat := (D.n - 2) / 2
theorem is55 : IsFn Try.prog 55 Try.f55 := ⟨by kernel_rfl, by kernel_rfl, by kernel_rfl, by kernel_rfl⟩
theorem r55 {d : Nat} {D : Dk} {h : Heap} (x : IsDk h d D) (h2 : 2 ≤ D.n) : CD 55 [ptr d 0] h = some (i64n D.ar, h) := by
  refine CD_body is55 rfl ((t55_eq _ _ _).trans ?_)
  have hs := x.small
  have w1 : IntKind.wrap .i64 ((D.n : Int) - 2) = ((D.n - 2 : Nat) : Int) := by rw [wrap_i64 (by omega) (by omega)]; omega
  have w2 : IntKind.wrap .i64 (((D.n - 2 : Nat) : Int).tdiv 2) = ((D.ar : Nat) : Int) := by
    have : ((D.n - 2 : Nat) : Int).tdiv 2 = (((D.n - 2) / 2 : Nat) : Int) := by
      rw [Int.tdiv_eq_ediv_of_nonneg (by omega)]; rfl
    rw [this, wrap_i64 (by omega) (by omega)]; rfl
  unfold t55
  simp -implicitDefEqProofs only [thenV_some, pu_some, nilCheck_ptr, addP_ptr, Nat.zero_add, x.l0, lenL_slice, bin_sub, w1, bin_quo _ _ _ _ _ (show (2 : Int) ≠ 0 by decide), w2]

end Go.Proofs.Ytcmfgmhadeeieaa

namespace Go.Proofs.Ytcmfgmhadeeieaa
open Go Go.Abs

/-- A block that holds no bytes. -/
def Plain (h : Heap) (b : Nat) : Prop := ∃ k, h.get b = some k ∧ ∀ v ∈ k, nat8 v = none
/-- Changes of blocks that hold no bytes leave the bytes. -/
theorem _root_.Go.Abs.Kept.bytesP {h h' : Heap} {B : Nat → Prop} (k : Kept h h' B) (hB : ∀ b, B b → Plain h b) {a : Option Addr} {n : Nat} {l : List Nat} (e : sliceBytes a n h = some l) : sliceBytes a n h' = some l :=
  k.bytes e fun y hy hn hb => by
    obtain ⟨c, h1, h2⟩ := hB _ hb
    exact bytes_apart e h1 h2 y hy hn rfl
theorem IsR.move {h h' : Heap} {B : Nat → Prop} {r : Nat} {l : List Nat} {e : Int} (R : IsR h r l e) (k : Kept h h' B) (hr : ¬ B r) (hB : ∀ b, B b → Plain h b) : IsR h' r l e := by
  obtain ⟨a, n, c, h1, h2, h3⟩ := R.ex
  exact ⟨⟨a, n, c, k.getE h1 hr, k.bytesP hB h2, h3⟩, k.n0 ▸ R.n0, R.len⟩
theorem IsR.plain {h : Heap} {r : Nat} {l : List Nat} {e : Int} (R : IsR h r l e) : Plain h r := by
  obtain ⟨a, n, c, h1, h2, h3⟩ := R.ex
  exact ⟨_, h1, rd_apart _ _ _ _⟩
theorem Plain.kept {h h' : Heap} {B : Nat → Prop} {b : Nat} (p : Plain h b) (k : Kept h h' B) (hb : ¬ B b) : Plain h' b := by
  obtain ⟨c, h1, h2⟩ := p
  exact ⟨c, k.getE h1 hb, h2⟩

/-- A whole block is written anew. -/
theorem stN_whole {h : Heap} {b : Nat} {k k' : Blk} (hk : h.get b = some k) (h0 : h.n0 ≤ b) {n : Nat} (hn : k.length = n) (hn' : k'.length = n) (ho : oneCells k' = true) : stN n (ptr b 0) (.agg k'.toArray) h = some (undef, h.set b k') := by
  unfold stN ptr
  have hc : (Value.agg k'.toArray).cells = k'.toArray := rfl
  simp only [hc, List.size_toArray, hn', if_true]
  unfold stL
  simp only [hk]
  rw [if_pos (by simp [ho, h0, hn, hn'])]
  have : splice k 0 k' = k' := by simp [splice, hn, hn']
  simp [this]
theorem ldN_whole {h : Heap} {b : Nat} {k : Blk} (hk : h.get b = some k) {n : Nat} (hn : k.length = n) (hh : Abs.noHoles k = true) : ldN n (ptr b 0) h = some (.agg k.toArray, h) := by
  have e : (k.drop 0).take n = k := by rw [List.drop_zero, List.take_of_length_le (by omega)]
  rw [ldN_at hk (by omega) (by rw [e]; exact hh), e]
theorem setPlain {h : Heap} {b : Nat} {k k' : Blk} (hk : h.get b = some k) (h0 : h.n0 ≤ b) : Kept h (h.set b k') (fun c => c = b) ∧ (h.set b k').get b = some k' := ⟨Kept.set h0 hk (.inr rfl), Heap.get_set_same h0 hk _⟩

def logGen (b : List Nat) : Nat := be ((b.drop 4).take 8)
def logPlace (b : List Nat) : Nat := be ((b.drop 12).take 4)
def logPart (b : List Nat) : Nat := be ((b.drop 16).take 2)
def logParts (b : List Nat) : Nat := be ((b.drop 18).take 2)
def logSize (b : List Nat) : Nat := be ((b.drop 20).take 2)
def logData (b : List Nat) : List Nat := if logSize b ≤ 106 then (b.drop 22).take (logSize b) else []
def logOk (at_ : Nat) (b : List Nat) : Bool := right b && (logPlace b == at_) && decide (1 ≤ logParts b) && decide (logPart b < logParts b) && decide (logSize b ≤ 106)

theorem is56 : IsFn Try.prog 56 Try.f56 := ⟨by kernel_rfl, by kernel_rfl, by kernel_rfl, by kernel_rfl⟩
theorem results56 : Try.f56.results.toList = [.cell 6 103, .tmp 7] := by kernel_rfl
theorem ld103 (v : Value) (h : Heap) : ld Try.prog 103 v h = ldN 4 v h := by
  unfold ld
  rw [show aggT Try.prog 103 = some true by kernel_rfl, show sizeT Try.prog 103 = some 4 by kernel_rfl]
theorem res56 (x : Nat → Value) {h : Heap} {v : Value} (e : ldN 4 (x 6) h = some (v, h)) : resultsA Try.prog Try.f56.results.toList (mkF 70 x) h = some (.tuple #[v, x 7], h) := by
  have h6 : (mkF 70 x).getD 6 undef = x 6 := rfl
  have h7 : (mkF 70 x).getD 7 undef = x 7 := rfl
  rw [results56]
  simp only [resultsA, List.mapM_cons, List.mapM_nil, resultA, h6, h7, ld103, e]
  rfl
def logZ : Blk := [(.int .u64 0), (.int .i64 0), (.int .i64 0), (.slice none 0 0)]
def logC (g p q : Nat) (s : Value) : Blk := [.int .u64 g, i64n p, i64n q, s]
theorem plain4 {h : Heap} {b : Nat} {g p q : Int} {a : Option Addr} {n c : Nat} (e : h.get b = some [.int .u64 g, .int .i64 p, .int .i64 q, .slice a n c]) : Plain h b := ⟨_, e, by
  intro v hv
  simp only [List.mem_cons, List.not_mem_nil, or_false] at hv
  rcases hv with rfl | rfl | rfl | rfl <;> rfl⟩

theorem r56 {d : Nat} {D : Dk} {h : Heap} (x : IsDk h d D) (h2 : 2 ≤ D.n) {area at_ : Nat} (ha : area ≤ 1) (hat : at_ < D.ar) :
    ∃ a n c h', CD 56 [ptr d 0, i64n area, i64n at_] h = some (.tuple #[.agg (logC (logGen (D.blk (2 + area * D.ar + at_))) (logPart (D.blk (2 + area * D.ar + at_))) (logParts (D.blk (2 + area * D.ar + at_))) (.slice a n c)).toArray, .bool (logOk at_ (D.blk (2 + area * D.ar + at_)))], h') ∧
      sliceBytes a n h' = some (logData (D.blk (2 + area * D.ar + at_))) ∧ goodS a n c = true ∧ Old h h' ∧ (∀ y, a = some y → h.next ≤ y.block) := by
  have hsm := x.small
  have har : D.ar = (D.n - 2) / 2 := rfl
  have hm : area * D.ar ≤ D.ar := by
    have := Nat.mul_le_mul_right D.ar ha
    omega
  have hi : 2 + area * D.ar + at_ < D.n := by
    rcases Nat.le_one_iff_eq_zero_or_eq_one.1 ha with rfl | rfl <;> omega
  have w1 : IntKind.wrap .i64 ((area : Int) * (D.ar : Int)) = ((area * D.ar : Nat) : Int) := by rw [← Int.natCast_mul, wrap_i64 (by omega) (by omega)]
  generalize hM : area * D.ar = M at *
  generalize hI : 2 + M + at_ = i at *
  have w2 : IntKind.wrap .i64 (2 + (M : Int)) = ((2 + M : Nat) : Int) := by rw [wrap_i64 (by omega) (by omega)]; omega
  have w3 : IntKind.wrap .i64 (((2 + M : Nat) : Int) + (at_ : Int)) = ((i : Nat) : Int) := by rw [wrap_i64 (by omega) (by omega)]; omega
  have kA : Old h (h.alloc logZ) := Kept.alloc h logZ _
  have xA := kA.dk x
  have gA : (h.alloc logZ).get h.next = some logZ := by rw [Heap.get_alloc, if_pos rfl]
  have e55 := r55 xA h2
  obtain ⟨r, hB, eB, RB, oB, gB⟩ := r84 xA hi
  have hlen := Dk.blk_length x hi
  have hbb := Dk.blk_byte x i
  generalize hb : D.blk i = b at *
  have hA1 : (h.alloc logZ).next = h.next + 1 := Heap.next_alloc ..
  obtain ⟨hC, eC, RC⟩ := r86 RB (by simp; omega)
  have qB := oB.getE gA (fun h => h)
  have qC := RC.kept.getE qB (by omega)
  -- the block's cells
  have hp : h.next + 1 ≤ hC.next := by rw [RC.next]; have := oB.next; omega
  have hrp : r < hC.next := by have := RC.rd.lt; exact this
  have kD : Old hC (hC.alloc logZ) := Kept.alloc hC logZ _
  have pD : (hC.alloc logZ).get hC.next = some logZ := by rw [Heap.get_alloc, if_pos rfl]
  have qD := kD.getE qC (fun h => h)
  generalize hP : hC.next = p at *
  have n0C : hC.n0 ≤ p := hP ▸ hC.n0_le_next
  have RD := RC.rd.keep (B := fun _ => False) kD
  have eG : stN 4 (ptr p 0) (.agg #[.int .u64 (be ((b.drop 4).take 8)), .int .i64 0, .int .i64 0, .slice none 0 0]) (hC.alloc logZ) = some (undef, (hC.alloc logZ).set p [.int .u64 (be ((b.drop 4).take 8)), .int .i64 0, .int .i64 0, .slice none 0 0]) :=
    stN_whole (k' := [.int .u64 (be ((b.drop 4).take 8)), .int .i64 0, .int .i64 0, .slice none 0 0]) pD n0C rfl rfl rfl
  obtain ⟨kE, pE⟩ := setPlain (k' := [.int .u64 (be ((b.drop 4).take 8)), .int .i64 0, .int .i64 0, .slice none 0 0]) pD n0C
  have RE := RD.move kE (by omega) (fun c hc => by subst hc; exact plain4 pD)
  have qE := kE.getE qD (by omega)
  generalize hHE : (hC.alloc logZ).set p [.int .u64 (be ((b.drop 4).take 8)), .int .i64 0, .int .i64 0, .slice none 0 0] = hE at *
  obtain ⟨hF, eF, RF⟩ := r85 RE (by simp; omega)
  obtain ⟨hG, eG2, RG⟩ := r88 RF.rd (by simp; omega)
  obtain ⟨hH, eH, RH⟩ := r88 RG.rd (by simp; omega)
  simp only [List.drop_drop, Nat.reduceAdd] at eF eG2 eH RH
  have kH : Kept hE hH (fun c => c = r) := (RF.kept.trans RG.kept).trans RH.kept
  have pH := kH.getE pE (by omega)
  have qH := kH.getE qE (by omega)
  have n0H : hH.n0 ≤ p := by rw [kH.n0, kE.n0]; exact n0C
  have b16 := be_lt 2 ((b.drop 16).take 2) (by simp; omega) fun y hy => hbb y (List.mem_of_mem_drop (List.mem_of_mem_take hy))
  have b18 := be_lt 2 ((b.drop 18).take 2) (by simp; omega) fun y hy => hbb y (List.mem_of_mem_drop (List.mem_of_mem_take hy))
  have b20 := be_lt 2 ((b.drop 20).take 2) (by simp; omega) fun y hy => hbb y (List.mem_of_mem_drop (List.mem_of_mem_take hy))
  have b12 := be_lt 4 ((b.drop 12).take 4) (by simp; omega) fun y hy => hbb y (List.mem_of_mem_drop (List.mem_of_mem_take hy))
  have hg : be ((b.drop 4).take 8) = logGen b := rfl
  have h12 : be ((b.drop 12).take 4) = logPlace b := rfl
  have h16 : be ((b.drop 16).take 2) = logPart b := rfl
  have h18 : be ((b.drop 18).take 2) = logParts b := rfl
  have h20 : be ((b.drop 20).take 2) = logSize b := rfl
  rw [h12] at eF b12
  rw [h16] at eG2 b16
  rw [h18] at eH b18
  rw [hg] at eC eG pE pH
  have v12 : IntKind.wrap .i64 ((logPlace b : Nat) : Int) = (logPlace b : Nat) := wrap_i64 (by omega) (by omega)
  have v16 : IntKind.wrap .i64 ((logPart b : Nat) : Int) = (logPart b : Nat) := wrap_i64 (by omega) (by omega)
  have v18 : IntKind.wrap .i64 ((logParts b : Nat) : Int) = (logParts b : Nat) := wrap_i64 (by omega) (by omega)
  have v20 : IntKind.wrap .i64 ((logSize b : Nat) : Int) = (logSize b : Nat) := wrap_i64 (by rw [← h20]; omega) (by rw [← h20]; omega)
  have eI : stN 1 (ptr p 1) (.int .i64 (logPart b)) hH = some (undef, hH.set p [.int .u64 (logGen b), .int .i64 (logPart b), .int .i64 0, .slice none 0 0]) := stN1_at pH (by simp) n0H rfl rfl
  obtain ⟨kI, pI⟩ := setPlain (k' := [.int .u64 (logGen b), .int .i64 (logPart b), .int .i64 0, .slice none 0 0]) pH n0H
  have RI := RH.rd.move kI (by omega) (fun c hc => by subst hc; exact plain4 pH)
  have qI := kI.getE qH (by omega)
  generalize hHI : hH.set p [.int .u64 (logGen b), .int .i64 (logPart b), .int .i64 0, .slice none 0 0] = hI2 at *
  have n0I : hI2.n0 ≤ p := by rw [kI.n0]; exact n0H
  have eJ : stN 1 (ptr p 2) (.int .i64 (logParts b)) hI2 = some (undef, hI2.set p [.int .u64 (logGen b), .int .i64 (logPart b), .int .i64 (logParts b), .slice none 0 0]) := stN1_at pI (by simp) n0I rfl rfl
  obtain ⟨kJ, pJ⟩ := setPlain (k' := [.int .u64 (logGen b), .int .i64 (logPart b), .int .i64 (logParts b), .slice none 0 0]) pI n0I
  have RJ := RI.move kJ (by omega) (fun c hc => by subst hc; exact plain4 pI)
  have qJ := kJ.getE qI (by omega)
  generalize hHJ : hI2.set p [.int .u64 (logGen b), .int .i64 (logPart b), .int .i64 (logParts b), .slice none 0 0] = hJ at *
  have n0J : hJ.n0 ≤ p := by rw [kJ.n0]; exact n0I
  simp only [List.drop_drop, Nat.reduceAdd] at RJ
  obtain ⟨hK, eK, RK⟩ := r88 RJ (by simp; omega)
  rw [h20] at eK
  have pK := RK.kept.getE pJ (by omega)
  have qK := RK.kept.getE qJ (by omega)
  -- Raw
  have hraw : ∃ a n c hL, CD 89 [ptr r 0, i64n (logSize b)] hK = some (.slice a n c, hL) ∧ sliceBytes a n hL = some (logData b) ∧ goodS a n c = true ∧ (∃ l, IsR hL r l (if logSize b ≤ 106 then 0 else 4)) ∧ Kept hK hL (fun c => c = r) ∧ (∀ y, a = some y → hK.next ≤ y.block) := by
    have hl22 : (b.drop 22).length = 106 := by simp; omega
    have RK2 := RK.rd
    simp only [List.drop_drop, Nat.reduceAdd] at RK2
    by_cases hc : logSize b ≤ 106
    · obtain ⟨a', c', h', f1, f2, f3, f4, f5, f6⟩ := r89 RK2 (n := logSize b) (by omega)
      refine ⟨a', _, c', h', f1, ?_, f3, ⟨_, by rw [if_pos hc]; exact f4⟩, f5, f6⟩
      rw [f2, logData, if_pos hc]
    · obtain ⟨h', f1, f2, f3⟩ := r89_short RK2 (n := logSize b) (by omega)
      refine ⟨none, 0, 0, h', f1, ?_, rfl, ⟨_, by rw [if_neg hc]; exact f2⟩, f3, fun y hy => by cases hy⟩
      rw [logData, if_neg hc]; rfl
  obtain ⟨a, n, c, hL, eL, sL, gL, ⟨l, RL⟩, kL, fL⟩ := hraw
  have pL := kL.getE pK (by omega)
  have qL := kL.getE qK (by omega)
  have n0L : hL.n0 ≤ p := by rw [kL.n0, RK.kept.n0]; exact n0J
  have eM : stN 1 (ptr p 3) (.slice a n c) hL = some (undef, hL.set p [.int .u64 (logGen b), .int .i64 (logPart b), .int .i64 (logParts b), .slice a n c]) := stN1_at pL (by simp) n0L rfl rfl
  obtain ⟨kM, pM⟩ := setPlain (k' := [.int .u64 (logGen b), .int .i64 (logPart b), .int .i64 (logParts b), .slice a n c]) pL n0L
  have RM := RL.move kM (by omega) (fun c hc => by subst hc; exact plain4 pL)
  have sM := kM.bytesP (fun c hc => by subst hc; exact plain4 pL) sL
  have qM := kM.getE qL (by omega)
  generalize hHM : hL.set p [.int .u64 (logGen b), .int .i64 (logPart b), .int .i64 (logParts b), .slice a n c] = hM2 at *
  have e90 := r90 RM
  have l1 : ld1 (ptr p 1) hM2 = some (.int .i64 (logPart b), hM2) := ld1_at pM rfl
  have l2 : ld1 (ptr p 2) hM2 = some (.int .i64 (logParts b), hM2) := ld1_at pM rfl
  have lN : ldN 4 (ptr p 0) hM2 = some (.agg #[.int .u64 (logGen b), .int .i64 (logPart b), .int .i64 (logParts b), .slice a n c], hM2) := ldN_whole pM rfl rfl
  have n0q : hM2.n0 ≤ h.next := by
    have e1 : hM2.n0 = h.n0 := by rw [kM.n0, kL.n0, RK.kept.n0, kJ.n0, kI.n0, kH.n0, kE.n0, kD.n0, RC.kept.n0, oB.n0, kA.n0]
    rw [e1]; exact h.n0_le_next
  have eN : stN 4 (ptr h.next 0) (.agg #[.int .u64 (logGen b), .int .i64 (logPart b), .int .i64 (logParts b), .slice a n c]) hM2 = some (undef, hM2.set h.next [.int .u64 (logGen b), .int .i64 (logPart b), .int .i64 (logParts b), .slice a n c]) :=
    stN_whole (k' := [.int .u64 (logGen b), .int .i64 (logPart b), .int .i64 (logParts b), .slice a n c]) qM n0q rfl rfl rfl
  obtain ⟨kN, qN⟩ := setPlain (k' := [.int .u64 (logGen b), .int .i64 (logPart b), .int .i64 (logParts b), .slice a n c]) qM n0q
  have sN := kN.bytesP (fun c hc => by subst hc; exact plain4 qM) sM
  generalize hHN : hM2.set h.next [.int .u64 (logGen b), .int .i64 (logPart b), .int .i64 (logParts b), .slice a n c] = hN at *
  have lq : ldN 4 (ptr h.next 0) hN = some (.agg #[.int .u64 (logGen b), .int .i64 (logPart b), .int .i64 (logParts b), .slice a n c], hN) := ldN_whole qN rfl rfl
  have hKn : h.next ≤ hK.next := by
    have a1 := RK.kept.next; have a2 := kJ.next; have a3 := kI.next; have a4 := kH.next; have a5 := kE.next; have a6 := kD.next
    omega
  refine ⟨a, n, c, hN, ?_, sN, gL, ?_, fun y hy => Nat.le_trans hKn (fL y hy)⟩
  · refine CD_body is56 rfl ((t56_eq _ _ _ _ _).trans ?_)
    have hx0 : ∀ a b : Value, extractA (.tuple #[a, b]) 0 = some a := fun _ _ => rfl
    have hx1 : ∀ a b : Value, extractA (.tuple #[a, b]) 1 = some b := fun _ _ => rfl
    have hbld : bldR [(.int .u64 0), (.int .i64 0), (.int .i64 0), (.slice none 0 0)] [(0, 1, .int .u64 (logGen b))] = some (.agg #[.int .u64 (logGen b), .int .i64 0, .int .i64 0, .slice none 0 0]) := rfl
    have i1 : i64n area = .int .i64 (area : Int) := rfl
    have i2 : i64n D.ar = .int .i64 (D.ar : Int) := rfl
    have i3 : i64n at_ = .int .i64 (at_ : Int) := rfl
    have i4 : Value.int .i64 (i : Int) = i64n i := rfl
    have i5 : Value.int .i64 (logSize b : Int) = i64n (logSize b) := rfl
    have hz : h.alloc [(.int .u64 0), (.int .i64 0), (.int .i64 0), (.slice none 0 0)] = h.alloc logZ := rfl
    have hz2 : hC.alloc [(.int .u64 0), (.int .i64 0), (.int .i64 0), (.slice none 0 0)] = hC.alloc logZ := rfl
    have c1 : ((logParts b : Nat) : Int) ≥ 1 ↔ 1 ≤ logParts b := by omega
    have c2 : ((logPart b : Nat) : Int) < ((logParts b : Nat) : Int) ↔ logPart b < logParts b := by omega
    have fin : ∀ (y : Nat → Value) (v : Bool), y 6 = ptr h.next 0 → y 7 = .bool v → resultsA Try.prog Try.f56.results.toList (mkF 70 y) hN = some (.tuple #[.agg (logC (logGen b) (logPart b) (logParts b) (.slice a n c)).toArray, .bool v], hN) := by
      intro y v h6 h7
      rw [res56 y (by rw [h6]; exact lq), h7]; rfl
    unfold t56
    simp -implicitDefEqProofs only [newC, Abs.newRow, hz, thenV_some, e55, i1, i2, i3, bin_mul, w1, pu_some, bin_add, w2, w3, i4, eB, hx0, hx1, eC, hbld, hz2, hP, eG, eF, cvI_int, v12, eG2, v16, eH, v18, addP_ptr, Nat.zero_add, eI, eJ, eK, v20, i5, eL, eM, bOf_bool]
    unfold logOk
    cases hc1 : right b with
    | false =>
      simp -implicitDefEqProofs only [fs, guardK_false, thenV_some, Bool.false_eq_true, if_false, bOf_bool, Bool.false_and, lN, eN]
      exact fin _ _ rfl rfl
    | true =>
      simp -implicitDefEqProofs only [beq_self_eq_true, guardK_true, thenV_some, pu_some, bin_eql, if_true, bOf_bool, Bool.true_and, int_beq]
      cases hc2 : (logPlace b == at_) with
      | false =>
        simp -implicitDefEqProofs only [fs, guardK_false, thenV_some, Bool.false_eq_true, if_false, bOf_bool, Bool.false_and, lN, eN]
        exact fin _ _ rfl rfl
      | true =>
        simp -implicitDefEqProofs only [beq_self_eq_true, guardK_true, thenV_some, pu_some, addP_ptr, Nat.zero_add, l2, bin_geq, if_true, bOf_bool, Bool.true_and]
        rw [decide_eq_decide.2 c1]
        cases hc3 : decide (1 ≤ logParts b) with
        | false =>
          simp -implicitDefEqProofs only [fs, guardK_false, thenV_some, Bool.false_eq_true, if_false, bOf_bool, Bool.false_and, lN, eN]
          exact fin _ _ rfl rfl
        | true =>
          simp -implicitDefEqProofs only [beq_self_eq_true, guardK_true, thenV_some, pu_some, addP_ptr, Nat.zero_add, l1, l2, bin_lss, if_true, bOf_bool, Bool.true_and]
          rw [decide_eq_decide.2 c2]
          cases hc4 : decide (logPart b < logParts b) with
          | false =>
            simp -implicitDefEqProofs only [fs, guardK_false, thenV_some, Bool.false_eq_true, if_false, bOf_bool, Bool.false_and, lN, eN]
            exact fin _ _ rfl rfl
          | true =>
            simp -implicitDefEqProofs only [beq_self_eq_true, guardK_true, thenV_some, pu_some, e90, if_true, bOf_bool, Bool.true_and, bin28e, lN, eN]
            have hv : ((if logSize b ≤ 106 then (0 : Int) else 4) == 0) = decide (logSize b ≤ 106) := by
              by_cases hc : logSize b ≤ 106
              · rw [if_pos hc, decide_eq_true hc]; rfl
              · rw [if_neg hc, decide_eq_false hc]; rfl
            rw [hv]
            exact fin _ _ rfl rfl
  · have k1 : Old h hC := (kA.trans oB).also RC.kept (fun c h1 h2 => by omega)
    have k2 : Old h hE := (k1.trans kD).also kE (fun c h1 h2 => by omega)
    have k3 : Old h hH := k2.also kH (fun c h1 h2 => by omega)
    have k4 : Old h hJ := (k3.also kI (fun c h1 h2 => by omega)).also kJ (fun c h1 h2 => by omega)
    have k5 : Old h hL := (k4.also RK.kept (fun c h1 h2 => by omega)).also kL (fun c h1 h2 => by omega)
    exact (k5.also kM (fun c h1 h2 => by omega)).also kN (fun c h1 h2 => by omega)

end Go.Proofs.Ytcmfgmhadeeieaa

