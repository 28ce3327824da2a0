/-
  The disk in the heap: what stands where, and what the small functions of the device answer.
  Conditions: as each theorem states.
-/
import Derived.Test.YtcmfgmhadeeieaaD2
namespace Go.Proofs.Ytcmfgmhadeeieaa
open Go Go.Abs

/-- A disk. -/
structure Dk where
  bb : Nat
  n : Nat
  img : List Nat
  down : Bool
  armed : Bool
  after : Int
  keep : Int
  turn : Int

def Dk.hdr (D : Dk) : Blk := [.slice (some ⟨D.bb, 0, none⟩) D.n D.n, .bool D.down, .bool D.armed, .int .i64 D.after, .int .i64 D.keep, .int .i64 D.turn]

structure IsDk (h : Heap) (d : Nat) (D : Dk) : Prop where
  hdr : h.get d = some D.hdr
  img : h.get D.bb = some (D.img.map u8)
  len : D.img.length = 128 * D.n
  byte : ∀ x ∈ D.img, x < 256
  dn : h.n0 ≤ d
  bn : h.n0 ≤ D.bb
  ne : d ≠ D.bb
  small : D.n ≤ 4096
  after : 0 ≤ D.after ∧ D.after ≤ 9223372036854775807
  keep : 0 ≤ D.keep ∧ D.keep ≤ 128

theorem u8_inj : ∀ {l m : List Nat}, l.map u8 = m.map u8 → l = m
  | [], [], _ => rfl
  | [], _ :: _, h => by simp at h
  | _ :: _, [], h => by simp at h
  | a :: l, b :: m, h => by
    simp only [List.map_cons, List.cons.injEq, Value.int.injEq, true_and, Int.natCast_inj] at h
    rw [h.1, u8_inj h.2]

theorem IsDk.uniq {h : Heap} {d : Nat} {D E : Dk} (a : IsDk h d D) (b : IsDk h d E) : D = E := by
  have h1 := a.hdr.symm.trans b.hdr
  cases D with
  | mk bb n img down armed after keep turn =>
  cases E with
  | mk bb' n' img' down' armed' after' keep' turn' =>
    simp only [Dk.hdr, Option.some.injEq, List.cons.injEq, Value.slice.injEq, Addr.mk.injEq, Value.bool.injEq, Value.int.injEq, true_and, and_true] at h1
    obtain ⟨⟨rfl, rfl, _⟩, rfl, rfl, rfl, rfl, rfl⟩ := h1
    have h2 := a.img.symm.trans b.img
    have h3 : img = img' := u8_inj (Option.some.inj h2)
    rw [h3]

open Classical in
noncomputable def dkOf (h : Heap) (d : Nat) : Option Dk := if hx : ∃ D, IsDk h d D then some hx.choose else none
theorem IsDk.of {h : Heap} {d : Nat} {D : Dk} (a : IsDk h d D) : dkOf h d = some D := by
  have hx : ∃ D, IsDk h d D := ⟨D, a⟩
  unfold dkOf
  rw [dif_pos hx]
  exact congrArg some (hx.choose_spec.uniq a)
theorem dkOf_spec {h : Heap} {d : Nat} {D : Dk} (e : dkOf h d = some D) : IsDk h d D := by
  unfold dkOf at e
  split at e
  · rename_i hx
    cases e; exact hx.choose_spec
  · cases e

theorem IsDk.mono {h h' : Heap} {d : Nat} {D : Dk} (a : IsDk h d D) (hn : h'.n0 = h.n0) (hg : h'.get d = h.get d) (hb : h'.get D.bb = h.get D.bb) : IsDk h' d D :=
  ⟨hg.trans a.hdr, hb.trans a.img, a.len, a.byte, hn ▸ a.dn, hn ▸ a.bn, a.ne, a.small, a.after, a.keep⟩

section
variable {h : Heap} {d : Nat} {D : Dk}
theorem IsDk.lt (a : IsDk h d D) : d < h.next := h.lt_of_get a.hdr
theorem IsDk.blt (a : IsDk h d D) : D.bb < h.next := h.lt_of_get a.img
theorem IsDk.l0 (a : IsDk h d D) : ld1 (ptr d 0) h = some (.slice (some ⟨D.bb, 0, none⟩) D.n D.n, h) := ld1_at a.hdr rfl
theorem IsDk.l1 (a : IsDk h d D) : ld1 (ptr d 1) h = some (.bool D.down, h) := ld1_at a.hdr rfl
theorem IsDk.l2 (a : IsDk h d D) : ld1 (ptr d 2) h = some (.bool D.armed, h) := ld1_at a.hdr rfl
theorem IsDk.l3 (a : IsDk h d D) : ld1 (ptr d 3) h = some (.int .i64 D.after, h) := ld1_at a.hdr rfl
theorem IsDk.l4 (a : IsDk h d D) : ld1 (ptr d 4) h = some (.int .i64 D.keep, h) := ld1_at a.hdr rfl
theorem IsDk.l5 (a : IsDk h d D) : ld1 (ptr d 5) h = some (.int .i64 D.turn, h) := ld1_at a.hdr rfl
theorem IsDk.s1 (a : IsDk h d D) (b : Bool) : stN 1 (ptr d 1) (.bool b) h = some (undef, h.set d { D with down := b }.hdr) := stN1_at a.hdr (by simp [Dk.hdr]) a.dn rfl rfl
theorem IsDk.s2 (a : IsDk h d D) (b : Bool) : stN 1 (ptr d 2) (.bool b) h = some (undef, h.set d { D with armed := b }.hdr) := stN1_at a.hdr (by simp [Dk.hdr]) a.dn rfl rfl
theorem IsDk.s3 (a : IsDk h d D) (n : Int) : stN 1 (ptr d 3) (.int .i64 n) h = some (undef, h.set d { D with after := n }.hdr) := stN1_at a.hdr (by simp [Dk.hdr]) a.dn rfl rfl
theorem IsDk.s4 (a : IsDk h d D) (n : Int) : stN 1 (ptr d 4) (.int .i64 n) h = some (undef, h.set d { D with keep := n }.hdr) := stN1_at a.hdr (by simp [Dk.hdr]) a.dn rfl rfl
theorem IsDk.s5 (a : IsDk h d D) (n : Int) : stN 1 (ptr d 5) (.int .i64 n) h = some (undef, h.set d { D with turn := n }.hdr) := stN1_at a.hdr (by simp [Dk.hdr]) a.dn rfl rfl
end

/-- The same disk but for what its first block says. -/
structure Like (D E : Dk) : Prop where
  bb : E.bb = D.bb
  n : E.n = D.n
  img : E.img = D.img
theorem IsDk.setHdr {h : Heap} {d : Nat} {D E : Dk} (a : IsDk h d D) (l : Like D E) (ha : 0 ≤ E.after ∧ E.after ≤ 9223372036854775807) (hk : 0 ≤ E.keep ∧ E.keep ≤ 128) : IsDk (h.set d E.hdr) d E := by
  have hb : (h.set d E.hdr).get E.bb = some (E.img.map u8) := by
    rw [Heap.get_set_other a.dn a.lt _ (by rw [l.bb]; exact a.ne.symm), l.bb, l.img]; exact a.img
  exact ⟨Heap.get_set_same a.dn a.hdr _, hb, by rw [l.img, l.n]; exact a.len, by rw [l.img]; exact a.byte, a.dn, by rw [l.bb]; exact a.bn, by rw [l.bb]; exact a.ne, by rw [l.n]; exact a.small, ha, hk⟩

/-- The heap with another disk in the place of one. -/
def putDk (h : Heap) (d : Nat) (E : Dk) : Heap := (h.set d E.hdr).set E.bb (E.img.map u8)
theorem putDk_get {h : Heap} {d : Nat} {D E : Dk} (a : IsDk h d D) (hb : E.bb = D.bb) (c : Nat) : (putDk h d E).get c = if c = E.bb then some (E.img.map u8) else if c = d then some E.hdr else h.get c := by
  unfold putDk
  by_cases h1 : c = E.bb
  · subst h1
    rw [if_pos rfl]
    refine Heap.get_set_same (by rw [hb]; exact a.bn) (k := D.img.map u8) ?_ _
    rw [Heap.get_set_other a.dn a.lt _ (by rw [hb]; exact a.ne.symm), hb]; exact a.img
  · rw [if_neg h1, Heap.get_set_other (by rw [hb]; exact a.bn) (by rw [hb]; exact a.blt) _ h1]
    by_cases h2 : c = d
    · subst h2; rw [if_pos rfl]; exact Heap.get_set_same a.dn a.hdr _
    · rw [if_neg h2]; exact Heap.get_set_other a.dn a.lt _ h2
structure Okd (D E : Dk) : Prop where
  bb : E.bb = D.bb
  n : E.n = D.n
  len : E.img.length = D.img.length
  byte : ∀ x ∈ E.img, x < 256
  after : 0 ≤ E.after ∧ E.after ≤ 9223372036854775807
  keep : 0 ≤ E.keep ∧ E.keep ≤ 128
theorem IsDk.put {h : Heap} {d : Nat} {D E : Dk} (a : IsDk h d D) (l : Okd D E) : IsDk (putDk h d E) d E := by
  refine ⟨?_, ?_, by rw [l.len, l.n]; exact a.len, l.byte, a.dn, by rw [l.bb]; exact a.bn, by rw [l.bb]; exact a.ne, by rw [l.n]; exact a.small, l.after, l.keep⟩
  · rw [putDk_get a l.bb, if_neg (by rw [l.bb]; exact a.ne), if_pos rfl]
  · rw [putDk_get a l.bb, if_pos rfl]
theorem bd_u8 (n : Nat) : ∀ l : List Nat, bdL n (l.map u8) = true
  | [] => rfl
  | x :: l => by
    have := bd_u8 n l
    simp only [List.map_cons, bdL, bdV, Bool.true_and]; exact this
theorem bd_hdr {D : Dk} {n : Nat} (hb : D.bb < n) : bdL n D.hdr = true := by simp [Dk.hdr, bdL, bdV, hb]
theorem IsDk.put_bd {h : Heap} {d : Nat} {D E : Dk} (a : IsDk h d D) (hb : E.bb = D.bb) (hh : HeapBd h) : HeapBd (putDk h d E) := by
  intro c k hc
  rw [putDk_get a hb] at hc
  have hn : (putDk h d E).next = h.next := rfl
  rw [hn]
  split at hc
  · cases hc; exact bd_u8 _ _
  · split at hc
    · cases hc; exact bd_hdr (by rw [hb]; exact a.blt)
    · exact hh c k hc
theorem IsDk.put_grow {h : Heap} {d : Nat} {E : Dk} : Grow h (putDk h d E) := ⟨Nat.le_refl _, rfl, rfl⟩

/-- A function that answers a value without memory, and leaves the disk as told. -/
theorem onDisk {C : CallF} (hC : CSound Try.prog C) {f : FuncId} {fn : Func} (i : IsFn Try.prog f fn) {s : List Value → Heap → Out}
    (told : ∀ args h v h', s args h = some (v, h') → (∀ n, bdV n v = true) ∧ (h' = h ∨ ∃ d D E, IsDk h d D ∧ E.bb = D.bb ∧ h' = putDk h d E))
    (body : ∀ args h v h', s args h = some (v, h') → bdL h.next args = true → HeapBd h → ∃ h1, bodyK Try.prog C fn args h = some (v, h1) ∧ ∀ b k, h'.n0 ≤ b → h'.get b = some k → h1.get b = some k) : Contract Try.prog f s := by
  refine .mk' hC mixed i ?_ ?_
  · intro args h v h' e
    obtain ⟨h2, rfl | ⟨d, D, E, h3, h4, rfl⟩⟩ := told _ _ _ _ e
    · exact ⟨Grow.refl _, fun _ h5 => ⟨h2 _, h5⟩⟩
    · exact ⟨IsDk.put_grow, fun _ h5 => ⟨h2 _, h3.put_bd h4 h5⟩⟩
  · intro args h v h' e h1 h2
    obtain ⟨g, h4, h5⟩ := body _ _ _ _ e h1 h2
    obtain ⟨h6, rfl | ⟨d, D, E, h7, h8, rfl⟩⟩ := told _ _ _ _ e
    · exact ⟨v, g, id, h4, .sub (h6 _) h2 h5⟩
    · exact ⟨v, g, id, h4, .sub (h6 _) (h7.put_bd h8 h2) h5⟩

@[simp] theorem nil27e (b o : Nat) : bin Try.prog .eql 27 (ptr b o) (.pointer none) = some (.bool false) := by kernel_rfl
@[simp] theorem nil27e' : bin Try.prog .eql 27 (.pointer none) (.pointer none) = some (.bool true) := by kernel_rfl
@[simp] theorem nil27n (b o : Nat) : bin Try.prog .neq 27 (ptr b o) (.pointer none) = some (.bool true) := by kernel_rfl
@[simp] theorem nil27n' : bin Try.prog .neq 27 (.pointer none) (.pointer none) = some (.bool false) := by kernel_rfl
theorem sf : (some true == some false) = false := rfl
theorem fs : (some false == some true) = false := rfl
theorem nf : ((none : Option Bool) == some false) = false := rfl
theorem nt : ((none : Option Bool) == some true) = false := rfl

/-- The numbers of errors. -/
def Dk.fault (D : Dk) (i : Int) : Int := if D.down then 9 else if i < 0 ∨ (D.n : Int) ≤ i then 2 else 0

noncomputable def s53 : List Value → Heap → Out
  | [.pointer none, .int .i64 _], h => some (.int .i64 1, h)
  | [.pointer (some ⟨d, 0, none⟩), .int .i64 i], h => match dkOf h d with
    | some D => some (.int .i64 (D.fault i), h)
    | none => none
  | _, _ => none
theorem t53_nil (C : CallF) (i : Int) (h : Heap) : t53 C (.pointer none) (.int .i64 i) h = some (.int .i64 1, h) := by
  unfold t53
  simp -implicitDefEqProofs only [thenV_some, nil27e', pu_some]
theorem t53_is (C : CallF) {d : Nat} {D : Dk} (i : Int) {h : Heap} (a : IsDk h d D) : t53 C (ptr d 0) (.int .i64 i) h = some (.int .i64 (D.fault i), h) := by
  unfold t53 Dk.fault
  simp -implicitDefEqProofs only [thenV_some, nil27e, pu_some, nilCheck_ptr, addP_ptr, Nat.zero_add, a.l1]
  cases D.down with
  | true => rfl
  | false =>
    simp -implicitDefEqProofs only [thenV_some, pu_some, bin_lss, bOf_bool, Bool.false_eq_true, if_false]
    by_cases h1 : i < 0
    · simp -implicitDefEqProofs only [h1, decide_true, sf, guardK_false, thenV_some, if_true, true_or]
    · simp -implicitDefEqProofs only [h1, decide_false, beq_self_eq_true, guardK_true, thenV_some, pu_some, nilCheck_ptr, addP_ptr, Nat.zero_add, a.l0, lenL_slice, bin_geq, false_or, Bool.false_eq_true, if_false]
      by_cases h2 : (D.n : Int) ≤ i
      · simp -implicitDefEqProofs only [h2, ge_iff_le, decide_true, if_true]
      · simp -implicitDefEqProofs only [h2, ge_iff_le, decide_false, if_false]
theorem is53 : IsFn Try.prog 53 Try.f53 := ⟨by kernel_rfl, by kernel_rfl, by kernel_rfl, by kernel_rfl⟩
theorem c53 : Contract Try.prog 53 s53 := by
  have key : ∀ args h v h', s53 args h = some (v, h') → (∃ i, args = [.pointer none, .int .i64 i] ∧ v = .int .i64 1 ∧ h' = h) ∨ (∃ d D i, args = [ptr d 0, .int .i64 i] ∧ IsDk h d D ∧ v = .int .i64 (D.fault i) ∧ h' = h) := by
    intro args h v h' e
    unfold s53 at e
    split at e
    · cases e; exact .inl ⟨_, rfl, rfl, rfl⟩
    · split at e
      · cases e; exact .inr ⟨_, _, _, rfl, dkOf_spec (by assumption), rfl, rfl⟩
      · cases e
    · cases e
  refine onDisk (callL_sound [] (by simp)) is53 ?_ ?_
  · intro args h v h' e
    rcases key _ _ _ _ e with ⟨i, rfl, rfl, rfl⟩ | ⟨d, D, i, rfl, a, rfl, rfl⟩
    · exact ⟨fun _ => rfl, .inl rfl⟩
    · exact ⟨fun _ => rfl, .inl rfl⟩
  · intro args h v h' e _ _
    rcases key _ _ _ _ e with ⟨i, rfl, rfl, rfl⟩ | ⟨d, D, i, rfl, a, rfl, rfl⟩
    · exact ⟨h', (t53_eq _ _ _ _).trans (t53_nil _ _ _), fun _ _ _ h => h⟩
    · exact ⟨h', (t53_eq _ _ _ _).trans (t53_is _ _ a), fun _ _ _ h => h⟩

end Go.Proofs.Ytcmfgmhadeeieaa
