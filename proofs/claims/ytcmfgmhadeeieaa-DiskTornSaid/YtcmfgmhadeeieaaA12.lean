/-
  The abstract machine: a region whose order the tape draws does what one order does.
  Conditions: the calls' summaries are sound (CSound).
-/
import Derived.Test.YtcmfgmhadeeieaaA11
namespace Go.Abs

section late
variable {P : Program} {ops : Array Oper}

theorem mem_lateGo (P : Program) (m : Array Nat) (y : Nat × Oper) : ∀ (l pend : List (Nat × Oper)), y ∈ lateGo P m l pend ↔ y ∈ l ∨ y ∈ pend
  | [], pend => by simp [lateGo]
  | x :: l, pend => by
    unfold lateGo
    split
    · rw [mem_lateGo P m y l]; simp only [List.mem_append, List.mem_cons, List.not_mem_nil, or_false]
      grind
    · rw [List.mem_append, List.mem_cons, mem_lateGo P m y l, List.mem_filter, List.mem_filter, List.mem_cons]
      cases hb : befB m x.1 y.1 <;> grind

theorem mem_late {i : Nat} {o : Oper} : (i, o) ∈ late P ops ↔ ops[i]? = some o := by
  unfold late
  rw [mem_lateGo]
  simp only [List.not_mem_nil, or_false, List.mem_map, Prod.mk.injEq]
  constructor
  · rintro ⟨⟨u, k⟩, hm, rfl, rfl⟩
    have := List.mem_zipIdx_iff_getElem?.1 hm
    simpa using this
  · intro h
    exact ⟨(o, i), List.mem_zipIdx_iff_getElem?.2 (by simpa using h), rfl, rfl⟩

theorem pairs_spec {r : (Nat × Oper) → (Nat × Oper) → Bool} : ∀ {l : List (Nat × Oper)}, pairsOk r l = true → ∀ {p q : Nat} {x y : Nat × Oper}, p < q → l[p]? = some x → l[q]? = some y → r x y = true
  | [], _, p, q, x, y, _, hx, _ => by simp at hx
  | a :: l, h, p, q, x, y, hpq, hx, hy => by
    simp only [pairsOk, Bool.and_eq_true] at h
    cases q with
    | zero => omega
    | succ q =>
      simp only [List.getElem?_cons_succ] at hy
      cases p with
      | zero =>
        simp only [List.getElem?_cons_zero, Option.some.injEq] at hx
        subst hx
        exact List.all_eq_true.1 h.1 y (List.mem_of_getElem? hy)
      | succ p => exact pairs_spec (p := p) (q := q) h.2 (by omega) (by simpa using hx) hy
end late

/-- A run in one order: frames, heaps, values, and whether each operation ran. -/
structure Tra (P : Program) (C : CallF) (ops : Array Oper) (l : List (Nat × Oper)) (E : Nat → Env) (H : Nat → Heap) (V : Nat → Value) (R : Nat → Bool) : Prop where
  step : ∀ p x, l[p]? = some x → R p = wantA ops x.2 (E p) ∧ E (p + 1) = putD (E p) x.2.dst (V p) ∧
    (R p = true → opA P C x.2 (ev (E p)) (H p) = some (V p, H (p + 1))) ∧ (R p = false → V p = undef ∧ H (p + 1) = H p)

theorem trace_tra {P : Program} {C : CallF} {ops : Array Oper} : ∀ {l : List (Nat × Oper)} {e e' : Env} {h h' : Heap} {tr : List Tr1}, traceA P C ops l e h = some (tr, e', h') →
    ∃ E H V R, E 0 = e ∧ H 0 = h ∧ E l.length = e' ∧ H l.length = h' ∧ Tra P C ops l E H V R ∧ tr = (List.range l.length).map fun p => ⟨E p, H p, V p, R p⟩
  | [], e, e', h, h', tr, he => by
    simp only [traceA, Option.some.injEq, Prod.mk.injEq] at he
    obtain ⟨rfl, rfl, rfl⟩ := he
    exact ⟨fun _ => e, fun _ => h, fun _ => undef, fun _ => false, rfl, rfl, rfl, rfl, ⟨by simp⟩, rfl⟩
  | (i, o) :: l, e, e', h, h', tr, he => by
    have build : ∀ (v : Value) (h1 : Heap) (r : Bool) (tl : List Tr1), r = wantA ops o e → (r = true → opA P C o (ev e) h = some (v, h1)) → (r = false → v = undef ∧ h1 = h) →
        traceA P C ops l (putD e o.dst v) h1 = some (tl, e', h') → tr = ⟨e, h, v, r⟩ :: tl →
        ∃ E H V R, E 0 = e ∧ H 0 = h ∧ E ((i, o) :: l).length = e' ∧ H ((i, o) :: l).length = h' ∧ Tra P C ops ((i, o) :: l) E H V R ∧ tr = (List.range ((i, o) :: l).length).map fun p => ⟨E p, H p, V p, R p⟩ := by
      intro v h1 r tl hr hrt hrf htl htr
      obtain ⟨E, H, V, R, e0, h0, e1, h1', T, ht⟩ := trace_tra htl
      refine ⟨fun p => match p with | 0 => e | p + 1 => E p, fun p => match p with | 0 => h | p + 1 => H p, fun p => match p with | 0 => v | p + 1 => V p, fun p => match p with | 0 => r | p + 1 => R p,
        rfl, rfl, e1, h1', ⟨?_⟩, ?_⟩
      · intro p x hx
        cases p with
        | zero =>
          simp only [List.getElem?_cons_zero, Option.some.injEq] at hx
          subst hx
          refine ⟨hr, e0, fun h => ?_, fun h => ?_⟩
          · simp only; rw [h0]; exact hrt h
          · simp only; rw [h0]; exact hrf h
        | succ p => exact T.step p x (by simpa using hx)
      · rw [htr, ht, List.length_cons, List.range_succ_eq_map]
        simp [List.map_map, Function.comp_def]
    simp only [traceA] at he
    split at he
    · rename_i hw
      split at he
      · rename_i v h1 hop
        split at he
        · rename_i tl r htl
          simp only [Option.some.injEq, Prod.mk.injEq] at he
          obtain ⟨htr, rfl⟩ := he
          exact build v h1 true tl hw.symm (fun _ => hop) (by simp) htl htr.symm
        · cases he
      · cases he
    · rename_i hw
      split at he
      · rename_i tl r htl
        simp only [Option.some.injEq, Prod.mk.injEq] at he
        obtain ⟨htr, rfl⟩ := he
        exact build undef h false tl (by simpa using hw) (by simp) (fun _ => ⟨rfl, rfl⟩) htl htr.symm
      · cases he

/-- The frame when just the chosen operations have written. -/
def envS (l : List (Nat × Oper)) (V : Nat → Value) (x : Nat → Bool) (e : Env) : Nat → Env
  | 0 => e
  | p + 1 => if x p then putD (envS l V x e p) ((l[p]?).bind (·.2.dst)) (V p) else envS l V x e p

section envs
variable {l : List (Nat × Oper)} {V : Nat → Value} {e : Env}

theorem length_putD (e : Env) (d : Option Tmp) (v : Value) : (putD e d v).length = e.length := by cases d <;> simp [putD]
theorem length_envS (x : Nat → Bool) : ∀ n, (envS l V x e n).length = e.length
  | 0 => rfl
  | n + 1 => by
    unfold envS
    split
    · rw [length_putD, length_envS x n]
    · exact length_envS x n

theorem envS_congr {x y : Nat → Bool} {t : Tmp} : ∀ n, (∀ q, q < n → (l[q]?).bind (·.2.dst) = some t → x q = y q) → (envS l V x e n)[t]? = (envS l V y e n)[t]?
  | 0, _ => rfl
  | n + 1, h => by
    have ih := envS_congr n (fun q hq => h q (by omega))
    have hl : (envS l V x e n).length = (envS l V y e n).length := by rw [length_envS, length_envS]
    unfold envS
    by_cases hd : (l[n]?).bind (·.2.dst) = some t
    · have hxy := h n (by omega) hd
      rw [hd, hxy]
      split
      · show ((envS l V x e n).set t (V n))[t]? = ((envS l V y e n).set t (V n))[t]?
        rw [List.getElem?_set, List.getElem?_set, if_pos rfl, if_pos rfl, hl]
      · exact ih
    · have hput : ∀ z : Env, (putD z ((l[n]?).bind (·.2.dst)) (V n))[t]? = z[t]? := by
        intro z
        cases hz : (l[n]?).bind (·.2.dst) with
        | none => rfl
        | some u =>
          have : u ≠ t := by rintro rfl; exact hd hz
          simp only [putD]
          rw [List.getElem?_set_ne this]
      split <;> split <;> (try rw [hput]) <;> (try rw [hput]) <;> exact ih

theorem envS_first {x : Nat → Bool} {p : Nat} : ∀ n, p ≤ n → (∀ q, x q = decide (q < p)) → envS l V x e n = envS l V (fun _ => true) e p
  | 0, hp, _ => by obtain rfl : p = 0 := by omega
                   rfl
  | n + 1, hp, hx => by
    by_cases e1 : p = n + 1
    · subst e1
      have key : ∀ m, m ≤ n + 1 → envS l V x e m = envS l V (fun _ => true) e m := by
        intro m
        induction m with
        | zero => intro _; rfl
        | succ m ih =>
          intro hm
          unfold envS
          rw [ih (by omega), hx m]
          simp [show m < n + 1 from by omega]
      exact key _ (Nat.le_refl _)
    · have : x n = false := by rw [hx n]; simp; omega
      conv => lhs; unfold envS
      rw [this]
      exact envS_first n (by omega) hx

theorem tra_env {P : Program} {C : CallF} {ops : Array Oper} {E : Nat → Env} {H : Nat → Heap} {R : Nat → Bool} (T : Tra P C ops l E H V R) (h0 : E 0 = e) : ∀ p, p ≤ l.length → E p = envS l V (fun _ => true) e p
  | 0, _ => h0
  | p + 1, hp => by
    have hlt : p < l.length := by omega
    obtain ⟨_, h2, _⟩ := T.step p l[p] (List.getElem?_eq_getElem hlt)
    rw [h2, tra_env T h0 p (by omega)]
    simp [envS, List.getElem?_eq_getElem hlt]
end envs

end Go.Abs
