/-
  The abstract machine in passing style: the code with what comes behind it, as the walk's texts are printed; it says what codeA says.
  Conditions: none (definitions and lemmas).
-/
import Derived.Test.YtcmfgmhadeeieaaA17
namespace Go.Abs

/-- A result, handed on. -/
def thenV {α : Type} (r : Out) (k : Value → Heap → Option α) : Option α :=
  match r with
  | some (v, h) => k v h
  | none => none

/-- An operation under a guard. -/
def guardK (g : Bool) (o : Out) (h : Heap) : Out :=
  match g with
  | true => o
  | false => some (undef, h)

def opsK {α : Type} (P : Program) (C : CallF) (ops : Array Oper) : List Oper → Env → Heap → (Env → Heap → Option α) → Option α
  | [], e, h, k => k e h
  | o :: rest, e, h, k =>
    match o.guard with
    | none => thenV (opA P C o (ev e) h) fun v h' => opsK P C ops rest (putD e o.dst v) h' k
    | some (j, want) => thenV (guardK (yieldA ops e j == some want) (opA P C o (ev e) h) h) fun v h' => opsK P C ops rest (putD e o.dst v) h' k

theorem opsK_eq {α : Type} (P : Program) (C : CallF) (ops : Array Oper) : ∀ (l : List Oper) (e : Env) (h : Heap) (k : Env → Heap → Option α),
    opsK P C ops l e h k = match opsA P C ops l e h with | some (e', h') => k e' h' | none => none
  | [], e, h, k => rfl
  | o :: rest, e, h, k => by
    unfold opsK opsA stepA wantA thenV
    cases hg : o.guard with
    | none =>
      simp only [if_true]
      cases opA P C o (ev e) h with
      | none => rfl
      | some r => exact opsK_eq P C ops rest _ _ k
    | some g =>
      obtain ⟨j, want⟩ := g
      simp only
      by_cases hy : (yieldA ops e j == some want) = true
      · simp only [hy, if_true, guardK]
        cases opA P C o (ev e) h with
        | none => rfl
        | some r => exact opsK_eq P C ops rest _ _ k
      · rw [if_neg hy]
        rw [Bool.not_eq_true] at hy
        simp only [hy, guardK]
        exact opsK_eq P C ops rest _ _ k

/-- No reader stands beside an effect that it does not hang on, nor that on it. -/
def dynTriv (P : Program) (ops : Array Oper) (l : List (Nat × Oper)) : Bool :=
  let m := befM ops
  l.all fun x => !(kindOf P x.2 == .read) || l.all fun y => !(kindOf P y.2 == .eff) || befB m x.1 y.1 || befB m y.1 x.1

theorem dynTriv_ok {P : Program} {C : CallF} {ops : Array Oper} {l : List (Nat × Oper)} (ht : dynTriv P ops l = true) (tr : List Tr1) (hE : Heap) : dynOk P C ops l tr hE = true := by
  unfold dynOk
  unfold dynTriv at ht
  simp only [List.all_eq_true, Bool.or_eq_true, Bool.not_eq_true', Bool.and_eq_false_iff] at ht ⊢
  intro x hx
  by_cases hr : (kindOf P x.1.1.2 == .read && x.1.2.ran) = true
  · right
    have hx1 : x.1.1 ∈ l := by
      obtain ⟨i, hi⟩ := List.getElem?_of_mem hx
      rw [List.getElem?_zipIdx, Option.map_eq_some_iff] at hi
      obtain ⟨z, hz, rfl⟩ := hi
      exact List.of_mem_zip (a := z.1) (b := z.2) (List.mem_of_getElem? hz) |>.1
    intro y hy
    have hy1 : y.1 ∈ l ∧ (kindOf P y.1.2 == .eff) = true := by
      rw [List.mem_filter] at hy
      refine ⟨?_, hy.2⟩
      obtain ⟨i, hi⟩ := List.getElem?_of_mem hy.1
      rw [List.getElem?_zipIdx, Option.map_eq_some_iff] at hi
      obtain ⟨z, hz, rfl⟩ := hi
      exact List.mem_of_getElem? hz
    left
    rcases ht x.1.1 hx1 with h1 | h1
    · rw [h1] at hr; simp at hr
    · rcases h1 y.1 hy1.1 with (h2 | h2) | h2
      · rw [hy1.2] at h2; cases h2
      · exact .inl h2
      · exact .inr h2
  · left
    cases h1 : (kindOf P x.1.1.2 == .read) with
    | false => simp
    | true => rw [h1] at hr; simpa using hr

theorem trace_ops {P : Program} {C : CallF} {ops : Array Oper} : ∀ (l : List (Nat × Oper)) (e : Env) (h : Heap),
    (traceA P C ops l e h).map (·.2) = opsA P C ops (l.map (·.2)) e h
  | [], e, h => rfl
  | (i, o) :: rest, e, h => by
    simp only [traceA, List.map_cons, opsA, stepA]
    by_cases hw : wantA ops o e = true
    · rw [if_pos hw, if_pos hw]
      cases opA P C o (ev e) h with
      | none => rfl
      | some r =>
        obtain ⟨v, h'⟩ := r
        simp only
        have := trace_ops (P := P) (C := C) (ops := ops) rest (putD e o.dst v) h'
        rw [← this]
        cases traceA P C ops rest (putD e o.dst v) h' <;> rfl
    · rw [if_neg hw, if_neg hw]
      simp only
      have := trace_ops (P := P) (C := C) (ops := ops) rest (putD e o.dst undef) h
      rw [← this]
      cases traceA P C ops rest (putD e o.dst undef) h <;> rfl

def lateOk (P : Program) (ops : Array Oper) : Bool := statOk P ops (late P ops) && dynTriv P ops (late P ops)

/-- Readers and effects that do not hang on one another, by their places. -/
def dynPairs (P : Program) (ops : Array Oper) (l : List (Nat × Oper)) : List (Nat × Nat) :=
  let m := befM ops
  (l.zipIdx.filter fun x => kindOf P x.1.2 == .read).flatMap fun x =>
    (l.zipIdx.filter fun y => kindOf P y.1.2 == .eff && !(befB m x.1.1 y.1.1 || befB m y.1.1 x.1.1)).map fun y => (x.2, y.2)
def chkR (ran : Bool) (r : Out) (v : Value) : Bool := !ran || same r v
def chkAt (P : Program) (C : CallF) (l : List (Nat × Oper)) (tr : List Tr1) (hs : List Heap) (x : Nat × Nat) : Bool :=
  match l[x.1]?, tr[x.1]?, hs[if x.2 < x.1 then x.2 else x.2 + 1]? with
  | some y, some t, some h => chkR t.ran (opA P C y.2 (ev t.e) h) t.v
  | some _, some t, none => !t.ran
  | _, _, _ => false
def dynChk (P : Program) (C : CallF) (ops : Array Oper) (l : List (Nat × Oper)) (tr : List Tr1) (hEnd : Heap) : Bool :=
  (dynPairs P ops l).foldr (fun x acc => chkAt P C l tr (tr.map (·.h) ++ [hEnd]) x && acc) true

theorem foldr_all {α : Type} (f : α → Bool) : ∀ l : List α, l.foldr (fun x acc => f x && acc) true = l.all f
  | [] => rfl
  | x :: l => by simp only [List.foldr_cons, List.all_cons, foldr_all f l]

theorem mem_zipIdx_get {α : Type} {l : List α} {x : α} {i : Nat} : (x, i) ∈ l.zipIdx ↔ l[i]? = some x := by
  constructor
  · intro h
    obtain ⟨j, hj⟩ := List.getElem?_of_mem h
    rw [List.getElem?_zipIdx, Option.map_eq_some_iff] at hj
    obtain ⟨z, hz, he⟩ := hj
    simp only [Prod.mk.injEq, Nat.zero_add] at he
    obtain ⟨rfl, rfl⟩ := he
    exact hz
  · intro h
    have : l.zipIdx[i]? = some (x, i) := by rw [List.getElem?_zipIdx, h]; simp
    exact List.mem_of_getElem? this

theorem dynChk_eq {P : Program} {C : CallF} {ops : Array Oper} {l : List (Nat × Oper)} {tr : List Tr1} {hEnd : Heap} (hlen : tr.length = l.length) : dynChk P C ops l tr hEnd = dynOk P C ops l tr hEnd := by
  unfold dynChk dynOk
  rw [foldr_all, Bool.eq_iff_iff]
  simp only [List.all_eq_true]
  have hz : ∀ (x : Nat × Oper) (t : Tr1) (i : Nat), ((x, t), i) ∈ (l.zip tr).zipIdx ↔ l[i]? = some x ∧ tr[i]? = some t := by
    intro x t i
    rw [mem_zipIdx_get, List.getElem?_zip_eq_some]
  constructor
  · rintro h ⟨⟨x, t⟩, i⟩ hx
    obtain ⟨hx1, hx2⟩ := (hz x t i).1 hx
    simp only [Bool.or_eq_true, Bool.not_eq_true', Bool.and_eq_false_iff, List.all_eq_true]
    by_cases hr : (kindOf P x.2 == .read) = true
    · by_cases hran : t.ran = true
      · right
        rintro ⟨y, j⟩ hy
        rw [List.mem_filter, mem_zipIdx_get] at hy
        simp only at hy ⊢
        by_cases hb : (befB (befM ops) x.1 y.1 || befB (befM ops) y.1 x.1) = true
        · left; simpa using hb
        · right
          have hp : (i, j) ∈ dynPairs P ops l := by
            unfold dynPairs
            simp only [List.mem_flatMap, List.mem_filter, List.mem_map]
            exact ⟨(x, i), ⟨mem_zipIdx_get.2 hx1, hr⟩, (y, j), ⟨mem_zipIdx_get.2 hy.1, by simp only [hy.2, Bool.true_and]; simpa using hb⟩, rfl⟩
          have := h _ hp
          unfold chkAt at this
          simp only [hx1, hx2] at this
          split at this
          · rename_i h1 h2 h3
            cases h1; cases h2
            rw [h3]
            simpa [chkR, hran] using this
          · rename_i h1 h2 h3
            cases h2
            rw [hran] at this; simp at this
          · simp at this
      · left; right; simpa using hran
    · left; left; simpa using hr
  · rintro h ⟨i, j⟩ hp
    unfold dynPairs at hp
    simp only [List.mem_flatMap, List.mem_filter, List.mem_map] at hp
    obtain ⟨⟨x, i'⟩, ⟨hx1, hr⟩, ⟨y, j'⟩, ⟨hy1, hy2⟩, he⟩ := hp
    simp only [Prod.mk.injEq] at he
    obtain ⟨rfl, rfl⟩ := he
    rw [mem_zipIdx_get] at hx1 hy1
    simp only [Bool.and_eq_true] at hr hy2
    have hi : i' < tr.length := by rw [hlen]; exact (List.getElem?_eq_some_iff.1 hx1).1
    have ht : tr[i']? = some tr[i'] := List.getElem?_eq_getElem hi
    have hq := h ((x, tr[i']), i') ((hz _ _ _).2 ⟨hx1, ht⟩)
    simp only [hr, Bool.true_and, Bool.or_eq_true, Bool.not_eq_true', List.all_eq_true] at hq
    unfold chkAt
    simp only [hx1, ht]
    have key : tr[i'].ran = true → (match (List.map (fun x => x.h) tr ++ [hEnd])[if j' < i' then j' else j' + 1]? with | some h => same (opA P C x.2 (ev tr[i'].e) h) tr[i'].v | none => false) = true := by
      intro hran
      rcases hq with hq | hq
      · rw [hran] at hq; cases hq
      · have := hq (y, j') (List.mem_filter.2 ⟨mem_zipIdx_get.2 hy1, hy2.1⟩)
        simp only at this
        have hy3 := hy2.2
        rcases this with h1 | h1
        · have h1' : (befB (befM ops) x.1 y.1 || befB (befM ops) y.1 x.1) = true := by simpa using h1
          simp [h1'] at hy3
        · exact h1
    split
    · rename_i h1 h2 h3
      cases h1; cases h2
      unfold chkR
      cases hran : tr[i'].ran with
      | false => rfl
      | true => have := key hran; rw [h3] at this; simpa using this
    · rename_i h1 h2 h3
      cases h2
      cases hran : tr[i'].ran with
      | false => rfl
      | true => have := key hran; rw [h3] at this; simp at this
    · rename_i h1 h2
      cases hh : (List.map (fun x => x.h) tr ++ [hEnd])[if j' < i' then j' else j' + 1]? with
      | some hp' => exact absurd hh (h1 _ _ _ rfl rfl)
      | none => exact absurd hh (h2 _ _ rfl rfl)

def traceK {α : Type} (P : Program) (C : CallF) (ops : Array Oper) : List (Nat × Oper) → Env → Heap → (List Tr1 → Env → Heap → Option α) → Option α
  | [], e, h, k => k [] e h
  | x :: rest, e, h, k =>
    match x.2.guard with
    | none => thenV (opA P C x.2 (ev e) h) fun v h' => traceK P C ops rest (putD e x.2.dst v) h' fun tr => k (⟨e, h, v, true⟩ :: tr)
    | some (j, want) => thenV (guardK (yieldA ops e j == some want) (opA P C x.2 (ev e) h) h) fun v h' => traceK P C ops rest (putD e x.2.dst v) h' fun tr => k (⟨e, h, v, yieldA ops e j == some want⟩ :: tr)

theorem traceK_eq {α : Type} (P : Program) (C : CallF) (ops : Array Oper) : ∀ (l : List (Nat × Oper)) (e : Env) (h : Heap) (k : List Tr1 → Env → Heap → Option α),
    traceK P C ops l e h k = match traceA P C ops l e h with | some (tr, e', h') => k tr e' h' | none => none
  | [], e, h, k => rfl
  | (i, o) :: rest, e, h, k => by
    unfold traceK traceA wantA thenV
    simp only
    cases hg : o.guard with
    | none =>
      simp only [if_true]
      cases opA P C o (ev e) h with
      | none => rfl
      | some r =>
        simp only
        rw [traceK_eq P C ops rest]
        cases traceA P C ops rest (putD e o.dst r.1) r.2 <;> rfl
    | some g =>
      obtain ⟨j, want⟩ := g
      simp only
      by_cases hy : (yieldA ops e j == some want) = true
      · simp only [hy, if_true, guardK]
        cases opA P C o (ev e) h with
        | none => rfl
        | some r =>
          simp only
          rw [traceK_eq P C ops rest]
          cases traceA P C ops rest (putD e o.dst r.1) r.2 <;> rfl
      · rw [if_neg hy]
        rw [Bool.not_eq_true] at hy
        simp only [hy, guardK]
        rw [traceK_eq P C ops rest]
        cases traceA P C ops rest (putD e o.dst undef) h <;> rfl

theorem traceA_length {P : Program} {C : CallF} {ops : Array Oper} : ∀ {l : List (Nat × Oper)} {e e' : Env} {h h' : Heap} {tr : List Tr1}, traceA P C ops l e h = some (tr, e', h') → tr.length = l.length
  | [], e, e', h, h', tr, ht => by simp only [traceA, Option.some.injEq, Prod.mk.injEq] at ht; rw [← ht.1]; rfl
  | (i, o) :: rest, e, e', h, h', tr, ht => by
    simp only [traceA] at ht
    split at ht
    · split at ht
      · split at ht
        · rename_i r h5
          obtain ⟨e2, h2⟩ := r
          simp only [Option.some.injEq, Prod.mk.injEq] at ht
          obtain ⟨rfl, _⟩ := ht
          simp [traceA_length h5]
        · cases ht
      · cases ht
    · split at ht
      · rename_i r h5
        obtain ⟨e2, h2⟩ := r
        simp only [Option.some.injEq, Prod.mk.injEq] at ht
        obtain ⟨rfl, _⟩ := ht
        simp [traceA_length h5]
      · cases ht

def regionK {α : Type} (P : Program) (C : CallF) (ops : Array Oper) (draw : Bool) (e : Env) (h : Heap) (k : Env → Heap → Option α) : Option α :=
  match draw with
  | false => opsK P C ops ops.toList e h k
  | true =>
    match lateOk P ops with
    | true => opsK P C ops ((late P ops).map (·.2)) e h k
    | false => match statOk P ops (late P ops) with
      | true => traceK P C ops (late P ops) e h fun tr e' h' => match dynChk P C ops (late P ops) tr h' with
        | true => k e' h'
        | false => none
      | false => none

theorem regionK_eq {α : Type} (P : Program) (C : CallF) (ops : Array Oper) (draw : Bool) (e : Env) (h : Heap) (k : Env → Heap → Option α) :
    regionK P C ops draw e h k = match regionA P C ops draw e h with | some (e', h') => k e' h' | none => none := by
  unfold regionK
  cases draw with
  | false => simp only [opsK_eq, regionA]; rfl
  | true =>
    simp only
    cases hl : lateOk P ops with
    | false =>
      simp only [traceK_eq, regionA, if_true]
      cases hs : statOk P ops (late P ops) with
      | false => rfl
      | true =>
        simp only [if_true]
        cases ht : traceA P C ops (late P ops) e h with
        | none => rfl
        | some r =>
          obtain ⟨tr, e', h'⟩ := r
          simp only
          rw [dynChk_eq (traceA_length ht)]
          cases dynOk P C ops (late P ops) tr h' <;> rfl
    | true =>
      simp only [lateOk, Bool.and_eq_true] at hl
      simp only [opsK_eq, regionA, if_true, hl.1, ← trace_ops]
      cases ht : traceA P C ops (late P ops) e h with
      | none => rfl
      | some r =>
        obtain ⟨tr, e', h'⟩ := r
        simp [dynTriv_ok hl.2]

/-- Code, and what comes behind it: on the way on, on a return, on an exit. -/
def codeK {α : Type} (P : Program) (C : CallF) : Code → Env → Heap → (Env → Heap → Option α) → (Env → Heap → Option α) → (Nat → Env → Heap → Option α) → Option α
  | .skip, e, h, n, _, _ => n e h
  | .region _ ops draw, e, h, n, _, _ => regionK P C ops draw e h n
  | .seq a b, e, h, n, r, x => codeK P C a e h (fun e' h' => codeK P C b e' h' n r x) r x
  | .cond c a b, e, h, n, r, x => match ev e c with
    | .bool true => codeK P C a e h n r x
    | .bool false => codeK P C b e h n r x
    | _ => none
  | .block id b, e, h, n, r, x => codeK P C b e h n r (fun i e' h' => if i = id then n e' h' else x i e' h')
  | .loop b, e, h, _, r, x => match iter (codeA P C b) rounds e h with
    | some (.ret, e', h') => r e' h'
    | some (.exit i, e', h') => x i e' h'
    | _ => none
  | .exit i, e, h, _, _, x => x i e h
  | .scope b, e, h, n, r, x => codeK P C b e h n r x
  | .label _, e, h, n, _, _ => n e h
  | .ret, e, h, _, r, _ => r e h
  | .goto _, _, _, _, _, _ => none
  | .rangeFunc .., _, _, _, _, _ => none
  | .refuse _, _, _, _, _, _ => none

theorem iter_not_normal {step : Env → Heap → Option (Ex × Env × Heap)} : ∀ (n : Nat) (e : Env) (h : Heap) {e' : Env} {h' : Heap}, iter step n e h ≠ some (.normal, e', h')
  | 0, _, _, _, _ => by simp [iter]
  | n + 1, e, h, e', h' => by
    unfold iter
    split
    · exact iter_not_normal n _ _
    · rename_i hne
      exact hne e' h'

def endK {α : Type} (n r : Env → Heap → Option α) (x : Nat → Env → Heap → Option α) : Option (Ex × Env × Heap) → Option α
  | some (.normal, e, h) => n e h
  | some (.ret, e, h) => r e h
  | some (.exit i, e, h) => x i e h
  | none => none

theorem codeK_eq {α : Type} (P : Program) (C : CallF) : ∀ (c : Code) (e : Env) (h : Heap) (n r : Env → Heap → Option α) (x : Nat → Env → Heap → Option α),
    codeK P C c e h n r x = endK n r x (codeA P C c e h)
  | .skip, e, h, n, r, x => rfl
  | .region id ops d, e, h, n, r, x => by
    simp only [codeK, codeA, regionK_eq]
    cases regionA P C ops d e h <;> rfl
  | .seq a b, e, h, n, r, x => by
    simp only [codeK, codeA]
    rw [codeK_eq P C a]
    cases ha : codeA P C a e h with
    | none => rfl
    | some y =>
      obtain ⟨ex, e', h'⟩ := y
      cases ex with
      | normal => simp only [endK]; exact codeK_eq P C b _ _ _ _ _
      | ret => rfl
      | exit i => rfl
  | .cond c a b, e, h, n, r, x => by
    simp only [codeK, codeA]
    generalize ev e c = v
    cases v with
    | bool t =>
      cases t with
      | true => exact codeK_eq P C a _ _ _ _ _
      | false => exact codeK_eq P C b _ _ _ _ _
    | _ => rfl
  | .block id b, e, h, n, r, x => by
    simp only [codeK, codeA]
    rw [codeK_eq P C b]
    cases hb : codeA P C b e h with
    | none => rfl
    | some y =>
      obtain ⟨ex, e', h'⟩ := y
      cases ex with
      | normal => rfl
      | ret => rfl
      | exit i =>
        simp only [endK]
        by_cases hi : i = id
        · simp [hi]
        · simp [hi]
  | .loop b, e, h, n, r, x => by
    simp only [codeK, codeA]
    cases hb : iter (codeA P C b) rounds e h with
    | none => rfl
    | some y =>
      obtain ⟨ex, e', h'⟩ := y
      cases ex with
      | normal => exact absurd hb (iter_not_normal _ _ _)
      | ret => rfl
      | exit i => rfl
  | .exit i, e, h, n, r, x => rfl
  | .scope b, e, h, n, r, x => by simp only [codeK, codeA]; exact codeK_eq P C b _ _ _ _ _
  | .label _, e, h, n, r, x => rfl
  | .ret, e, h, n, r, x => rfl
  | .goto _, e, h, n, r, x => rfl
  | .rangeFunc .., e, h, n, r, x => rfl
  | .refuse _, e, h, n, r, x => rfl

def bodyK (P : Program) (C : CallF) (fn : Func) (args : List Value) (h : Heap) : Out :=
  match fn.body with
  | none => none
  | some c => codeK P C c (args ++ List.replicate (fn.ntmps - args.length) undef) h (resultsA P fn.results.toList) (resultsA P fn.results.toList) (fun _ _ _ => none)

theorem bodyK_eq (P : Program) (C : CallF) (fn : Func) (args : List Value) (h : Heap) : bodyK P C fn args h = bodyA P C fn args h := by
  unfold bodyK bodyA
  cases fn.body with
  | none => rfl
  | some c =>
    simp only [codeK_eq]
    cases codeA P C c (args ++ List.replicate (fn.ntmps - args.length) undef) h with
    | none => rfl
    | some y =>
      obtain ⟨ex, e', h'⟩ := y
      cases ex <;> rfl

/-- One round of a loop, in passing style. -/
def roundK (P : Program) (C : CallF) (b : Code) (e : Env) (h : Heap) : Option (Ex × Env × Heap) :=
  codeK P C b e h (fun e h => some (.normal, e, h)) (fun e h => some (.ret, e, h)) (fun i e h => some (.exit i, e, h))
theorem roundK_eq (P : Program) (C : CallF) (b : Code) (e : Env) (h : Heap) : roundK P C b e h = codeA P C b e h := by
  unfold roundK
  rw [codeK_eq]
  cases codeA P C b e h with
  | none => rfl
  | some y =>
    obtain ⟨ex, e', h'⟩ := y
    cases ex <;> rfl

end Go.Abs
