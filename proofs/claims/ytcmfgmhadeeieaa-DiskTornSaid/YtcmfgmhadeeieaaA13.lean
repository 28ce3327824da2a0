/-
  The abstract machine: the invariant of a region whose order the tape draws.
  Conditions: the calls' summaries are sound (CSound).
-/
import Derived.Test.YtcmfgmhadeeieaaA12
namespace Go.Abs

mutual
theorem veq_eq : ∀ {a b : Value}, veq a b = true → a = b
  | .bool a, b, h => by cases b <;> simp [veq] at h; subst h; rfl
  | .int k a, b, h => by cases b <;> simp [veq] at h; obtain ⟨rfl, rfl⟩ := h; rfl
  | .float k a, b, h => by cases b <;> simp [veq] at h; obtain ⟨rfl, rfl⟩ := h; rfl
  | .complex k a c, b, h => by cases b <;> simp [veq] at h; obtain ⟨⟨rfl, rfl⟩, rfl⟩ := h; rfl
  | .string a, b, h => by
    cases b <;> simp [veq] at h
    rename_i c
    obtain ⟨x⟩ := a
    obtain ⟨y⟩ := c
    simp only at h
    rw [h]
  | .pointer a, b, h => by cases b <;> simp [veq] at h; subst h; rfl
  | .slice a l c, b, h => by cases b <;> simp [veq] at h; obtain ⟨⟨rfl, rfl⟩, rfl⟩ := h; rfl
  | .map a, b, h => by cases b <;> simp [veq] at h; subst h; rfl
  | .chan a, b, h => by cases b <;> simp [veq] at h; subst h; rfl
  | .nilFunc, b, h => by cases b <;> simp [veq] at h; rfl
  | .nilIface, b, h => by cases b <;> simp [veq] at h; rfl
  | .agg ⟨x⟩, b, h => by
    cases b <;> simp [veq] at h
    rename_i c
    obtain ⟨y⟩ := c
    simp only [veq] at h
    rw [veqL_eq h]
  | .tuple ⟨x⟩, b, h => by
    cases b <;> simp [veq] at h
    rename_i c
    obtain ⟨y⟩ := c
    simp only [veq] at h
    rw [veqL_eq h]
  | .func f ⟨x⟩ ⟨y⟩, b, h => by
    cases b <;> simp [veq] at h
    rename_i g c d
    obtain ⟨z⟩ := c
    obtain ⟨u⟩ := d
    simp only [veq, Bool.and_eq_true, beq_iff_eq] at h
    obtain ⟨⟨h1, h2⟩, h3⟩ := h
    rw [h1, veqL_eq h2, veqL_eq h3]
  | .iface t x, b, h => by
    cases b <;> simp [veq] at h
    rename_i u y
    obtain ⟨rfl, h2⟩ := h
    rw [veq_eq h2]
theorem veqL_eq : ∀ {a b : List Value}, veqL a b = true → a = b
  | [], b, h => by cases b <;> simp [veqL] at h; rfl
  | x :: a, b, h => by
    cases b <;> simp [veqL] at h
    obtain ⟨h1, h2⟩ := h
    rw [veq_eq h1, veqL_eq h2]
end

theorem kind_cases {P : Program} {C : CallF} (hC : CSound P C) {o : Oper} {ρ : Operand → Value} {h h' : Heap} {v : Value} (e : opA P C o ρ h = some (v, h')) :
    kindOf P o = .eff ∨ h' = h ∨ (kindOf P o = .alloc ∧ ∃ k, h' = h.alloc k) := by
  cases hk : kindOf P o with
  | pure => exact .inr (.inl (kind_pure hk e).1)
  | read => exact .inr (.inl (kind_read hk e))
  | alloc => obtain ⟨k, mk, h1, _⟩ := kind_alloc hk e; exact .inr (.inr ⟨rfl, k, h1⟩)
  | eff => exact .inl rfl

section tra
variable {P : Program} {C : CallF} {ops : Array Oper} {l : List (Nat × Oper)} {E : Nat → Env} {H : Nat → Heap} {V : Nat → Value} {R : Nat → Bool}

theorem Tra.grow1 (hC : CSound P C) (T : Tra P C ops l E H V R) {p : Nat} {x : Nat × Oper} (hx : l[p]? = some x) : Grow (H p) (H (p + 1)) := by
  obtain ⟨_, _, h3, h4⟩ := T.step p x hx
  cases hr : R p with
  | true => exact opA_grow hC (h3 hr)
  | false => rw [(h4 hr).2]; exact Grow.refl _

theorem Tra.grow (hC : CSound P C) (T : Tra P C ops l E H V R) {p q : Nat} (hpq : p ≤ q) (hq : q ≤ l.length) : Grow (H p) (H q) := by
  induction q with
  | zero => obtain rfl : p = 0 := by omega
            exact Grow.refl _
  | succ q ih =>
    by_cases e : p = q + 1
    · subst e; exact Grow.refl _
    · exact (ih (by omega) (by omega)).trans (T.grow1 hC (List.getElem?_eq_getElem (show q < l.length by omega)))

theorem Tra.bd (hC : CSound P C) (T : Tra P C ops l E H V R) (hg : P.globals.size ≤ (H 0).n0) (hok : ∀ (p : Nat) (x : Nat × Oper), l[p]? = some x → operOk P x.2 = true) (he : bdL (H 0).next (E 0) = true) (hh : HeapBd (H 0)) : ∀ p, p ≤ l.length → bdL (H p).next (E p) = true ∧ HeapBd (H p)
  | 0, _ => ⟨he, hh⟩
  | p + 1, hp => by
    obtain ⟨h1, h2⟩ := T.bd hC hg hok he hh p (by omega)
    have hx : l[p]? = some l[p] := List.getElem?_eq_getElem (by omega)
    obtain ⟨_, h3, h4, h5⟩ := T.step p _ hx
    have hgr := T.grow1 hC hx
    have hn0 := (T.grow hC (Nat.zero_le p) (by omega)).2.1
    cases hr : R p with
    | true =>
      obtain ⟨h6, h7⟩ := opA_bd hC h2 (fun x hm => bd_ev (by rw [hn0]; exact hg) h1 (List.all_eq_true.1 (hok p _ hx) x hm)) (h4 hr)
      rw [h3]
      exact ⟨bd_putD (bdL_mono hgr.1 h1) h6, h7⟩
    | false =>
      obtain ⟨h6, h7⟩ := h5 hr
      rw [h3, h6, h7]
      exact ⟨bd_putD h1 rfl, h2⟩

/-- Between two effects blocks are only made. -/
theorem Tra.noeff (hC : CSound P C) (T : Tra P C ops l E H V R) {p q : Nat} (hpq : p ≤ q) (hq : q ≤ l.length) (hne : ∀ r x, p ≤ r → r < q → l[r]? = some x → kindOf P x.2 ≠ .eff) :
    (∀ b k, (H p).get b = some k → (H q).get b = some k) ∧
    ∀ b k, (H q).get b = some k → (H p).get b = some k ∨ ∃ r x, p ≤ r ∧ r < q ∧ l[r]? = some x ∧ kindOf P x.2 = .alloc ∧ R r = true ∧ b = (H r).next ∧ H (r + 1) = (H r).alloc k := by
  induction q with
  | zero =>
    obtain rfl : p = 0 := by omega
    exact ⟨fun _ _ h => h, fun _ _ h => .inl h⟩
  | succ q ih =>
    by_cases e : p = q + 1
    · subst e; exact ⟨fun _ _ h => h, fun _ _ h => .inl h⟩
    · obtain ⟨h1, h2⟩ := ih (by omega) (by omega) (fun r x hr hrq hx => hne r x hr (by omega) hx)
      have hlt : q < l.length := by omega
      have hx : l[q]? = some l[q] := List.getElem?_eq_getElem hlt
      obtain ⟨_, _, h3, h4⟩ := T.step q _ hx
      have key : H (q + 1) = H q ∨ (kindOf P l[q].2 = .alloc ∧ R q = true ∧ ∃ k, H (q + 1) = (H q).alloc k) := by
        cases hr : R q with
        | false => exact .inl (h4 hr).2
        | true =>
          rcases kind_cases hC (h3 hr) with h5 | h5 | ⟨h5, k, h6⟩
          · exact absurd h5 (hne q _ (by omega) (by omega) hx)
          · exact .inl h5
          · exact .inr ⟨h5, rfl, k, h6⟩
      rcases key with h5 | ⟨h5, h6, k, h7⟩
      · rw [h5]
        refine ⟨h1, fun b k hb => (h2 b k hb).imp id ?_⟩
        rintro ⟨r, x, g1, g2, g3⟩
        exact ⟨r, x, g1, by omega, g3⟩
      · refine ⟨fun b k' hb => by rw [h7]; exact Heap.get_alloc_some (h1 b k' hb) k, fun b k' hb => ?_⟩
        rw [h7, Heap.get_alloc] at hb
        by_cases eb : b = (H q).next
        · rw [if_pos eb] at hb
          cases hb
          exact .inr ⟨q, _, by omega, by omega, hx, h5, h6, eb, h7⟩
        · rw [if_neg eb] at hb
          refine (h2 b k' hb).imp id ?_
          rintro ⟨r, x, g1, g2, g3⟩
          exact ⟨r, x, g1, by omega, g3⟩
end tra

/-- Which places of the order are listed. -/
def xsOf (l : List (Nat × Oper)) (listed : Array Bool) (p : Nat) : Bool :=
  match l[p]? with
  | some x => listed.getD x.1 false
  | none => false

/-- What is fixed while a region runs. -/
structure Reg (P : Program) (C : CallF) (ops : Array Oper) (l : List (Nat × Oper)) (E : Nat → Env) (H : Nat → Heap) (V : Nat → Value) (R : Nat → Bool) : Prop where
  hC : CSound P C
  tra : Tra P C ops l E H V R
  len : l.length = ops.size
  pos : ∀ (i : Nat) (o : Oper), ops[i]? = some o → ∃ p : Nat, l[p]? = some (i, o)
  at_ : ∀ (p i : Nat) (o : Oper), l[p]? = some (i, o) → ops[i]? = some o
  fwd : ∀ (i : Nat) (o : Oper), ops[i]? = some o → ∀ e ∈ o.after.toList, Region.binds .any e = true → e.on < i
  guard : ∀ (p i : Nat) (o : Oper) (j : Nat) (b : Bool), l[p]? = some (i, o) → o.guard = some (j, b) → befB (befM ops) i j = true
  ord : ∀ (p q : Nat) (x y : Nat × Oper), p < q → l[p]? = some x → l[q]? = some y → x.1 ≠ y.1 ∧ befB (befM ops) x.1 y.1 = false ∧ (befB (befM ops) y.1 x.1 = true ∨ clash P ops x y = false)
  dyn : ∀ (p q : Nat) (x y : Nat × Oper), l[p]? = some x → l[q]? = some y → kindOf P x.2 = .read → R p = true → kindOf P y.2 = .eff → befB (befM ops) x.1 y.1 = false → befB (befM ops) y.1 x.1 = false →
    ∃ h', opA P C x.2 (ev (E p)) (H (if q < p then q else q + 1)) = some (V p, h')
  ok : ∀ o ∈ ops.toList, operOk P o = true
  bdE : ∀ p, p ≤ l.length → bdL (H p).next (E p) = true
  bdH : ∀ p, p ≤ l.length → HeapBd (H p)

structure Inv (P : Program) (ops : Array Oper) (l : List (Nat × Oper)) (E : Nat → Env) (H : Nat → Heap) (V : Nat → Value) (R : Nat → Bool) (μ0 : Mu) (w0 : World) (listed : Array Bool) (m : Nat) (G : Heap) (μ : Mu) (a : Act) (w : World) : Prop where
  size : listed.size = ops.size
  closed : ∀ (i : Nat) (o : Oper), listed.getD i false = true → ops[i]? = some o → ∀ e ∈ o.after.toList, Region.binds .any e = true → listed.getD e.on false = true
  le : m ≤ l.length
  effs : ∀ (p : Nat) (x : Nat × Oper), l[p]? = some x → kindOf P x.2 = .eff → (listed.getD x.1 false = true ↔ p < m)
  allocs : ∀ (p : Nat) (x : Nat × Oper), p < m → l[p]? = some x → kindOf P x.2 = .alloc → listed.getD x.1 false = true
  gn0 : G.n0 = (H 0).n0
  gold : G.old = (H 0).old
  gnext : G.next = (H l.length).next
  here : ∀ b k, (H 0).n0 ≤ b → (H m).get b = some k → G.get b = some k
  later : ∀ (p : Nat) (x : Nat × Oper) (k : Blk), m ≤ p → l[p]? = some x → kindOf P x.2 = .alloc → listed.getD x.1 false = true → R p = true → H (p + 1) = (H p).alloc k → G.get (H p).next = some k
  free : ∀ b, (H m).next ≤ b → b < (H l.length).next → (∀ (p : Nat) (x : Nat × Oper), m ≤ p → l[p]? = some x → kindOf P x.2 = .alloc → listed.getD x.1 false = true → R p = true → b ≠ (H p).next) → μ b = none
  sim : Sim μ G w
  stp : Step μ0 (H 0) w0 μ G w
  env : ERel μ (envS l V (xsOf l listed) (E 0) l.length) a

section inv
variable {P : Program} {C : CallF} {ops : Array Oper} {l : List (Nat × Oper)} {E : Nat → Env} {H : Nat → Heap} {V : Nat → Value} {R : Nat → Bool} {μ0 : Mu} {w0 : World}
  {listed : Array Bool} {m : Nat} {G : Heap} {μ : Mu} {a : Act} {w : World}

theorem Reg.n0 (r : Reg P C ops l E H V R) {p : Nat} (hp : p ≤ l.length) : (H p).n0 = (H 0).n0 ∧ (H p).old = (H 0).old := (r.tra.grow r.hC (Nat.zero_le p) hp).2
theorem Reg.nexts (r : Reg P C ops l E H V R) {p q : Nat} (hpq : p ≤ q) (hq : q ≤ l.length) : (H p).next ≤ (H q).next := (r.tra.grow r.hC hpq hq).1
theorem Reg.lt (r : Reg P C ops l E H V R) {p : Nat} {x : Nat × Oper} (hx : l[p]? = some x) : p < l.length := (List.getElem?_eq_some_iff.1 hx).1

/-- What is before a listed operation is listed. -/
theorem Inv.before (r : Reg P C ops l E H V R) (I : Inv P ops l E H V R μ0 w0 listed m G μ a w) {i j : Nat} (hi : listed.getD i false = true) (hb : befB (befM ops) i j = true) : listed.getD j false = true := by
  have hlt : i < ops.size := by
    rcases Nat.lt_or_ge i ops.size with h | h
    · exact h
    · rw [← I.size] at h
      simp [Array.getElem?_eq_none h] at hi
  have ho : ops[i]? = some ops[i] := Array.getElem?_eq_getElem hlt
  refine before_closed (X := fun k => listed.getD k false = true) I.closed i _ ho (I.closed i _ hi ho) ?_ j hb
  intro k hk
  have : k < ops.size := by
    rcases Nat.lt_or_ge k ops.size with h | h
    · exact h
    · rw [← I.size] at h
      simp [Array.getElem?_eq_none h] at hk
  simp [this]

/-- What is before a ready operation is listed. -/
theorem Inv.ready (I : Inv P ops l E H V R μ0 w0 listed m G μ a w) {i : Nat} {o : Oper} (ho : ops[i]? = some o) (hr : ∀ e ∈ o.after.toList, Region.binds .any e = true → listed.getD e.on false = true) {j : Nat}
    (hb : befB (befM ops) i j = true) : listed.getD j false = true := by
  refine before_closed (X := fun k => listed.getD k false = true) I.closed i o ho hr ?_ j hb
  intro k hk
  have : k < ops.size := by
    rcases Nat.lt_or_ge k ops.size with h | h
    · exact h
    · rw [← I.size] at h
      simp [Array.getElem?_eq_none h] at hk
  simp [this]

/-- The point up to which effects have been done moves on over what is listed. -/
theorem Inv.advance (r : Reg P C ops l E H V R) (I : Inv P ops l E H V R μ0 w0 listed m G μ a w) {p : Nat} (hmp : m ≤ p) (hp : p ≤ l.length) (hne : ∀ (q : Nat) (x : Nat × Oper), m ≤ q → q < p → l[q]? = some x → kindOf P x.2 ≠ .eff)
    (hal : ∀ (q : Nat) (x : Nat × Oper), m ≤ q → q < p → l[q]? = some x → kindOf P x.2 = .alloc → listed.getD x.1 false = true) (hend : ∀ (q : Nat) (x : Nat × Oper), p ≤ q → l[q]? = some x → kindOf P x.2 = .eff → listed.getD x.1 false = false) :
    Inv P ops l E H V R μ0 w0 listed p G μ a w := by
  obtain ⟨n1, n2⟩ := r.tra.noeff r.hC hmp hp hne
  refine ⟨I.size, I.closed, hp, ?_, ?_, I.gn0, I.gold, I.gnext, ?_, ?_, ?_, I.sim, I.stp, I.env⟩
  · intro q x hx hk
    constructor
    · intro hl
      rcases Nat.lt_or_ge q p with h | h
      · exact h
      · rw [hend q x h hx hk] at hl; cases hl
    · intro hq
      rcases Nat.lt_or_ge q m with h | h
      · exact (I.effs q x hx hk).2 h
      · exact absurd hk (hne q x h hq hx)
  · intro q x hq hx hk
    rcases Nat.lt_or_ge q m with h | h
    · exact I.allocs q x h hx hk
    · exact hal q x h hq hx hk
  · intro b k hb hg
    rcases n2 b k hg with h | ⟨q, x, h1, h2, h3, h4, h5, rfl, h7⟩
    · exact I.here b k hb h
    · exact I.later q x k h1 h3 h4 (hal q x h1 h2 h3 h4) h5 h7
  · intro q x k hq hx hk hl hr hh
    exact I.later q x k (by omega) hx hk hl hr hh
  · intro b hb hn hne'
    refine I.free b (Nat.le_trans (r.nexts hmp hp) hb) hn ?_
    intro q x hq hx hk hl hr hbq
    rcases Nat.lt_or_ge q p with h | h
    · -- its block was made before p
      have h2 := (r.tra.step q x hx).2.2.1 hr
      obtain ⟨k, mk, h3, _⟩ := kind_alloc hk h2
      have h4 := r.nexts (show q + 1 ≤ p by omega) hp
      rw [h3] at h4
      simp at h4
      omega
    · exact hne' q x h hx hk hl hr hbq
end inv

end Go.Abs
