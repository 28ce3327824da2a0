/-
  The wire's known run; the calls' evaluator; lists of typed cells, and their equality.
  Conditions: as each theorem states.
  The wire: records compared; slices of typed cells; lists of cells that are compared element by element.
  Conditions: as each theorem states.
  Printed by a program: the texts of some of the seat's functions, each linked to the program.
  Conditions: none.
-/
import Derived.Test.YtjghlcdidopcpaaGreatDoorG6
import Derived.Test.YtjghlcdidopcpaaGreatDoorProg
import Derived.KernelRfl
namespace Go.Proofs.YtjghlcdidopcpaaGreatDoor
open Go Go.Abs

theorem mixed : Tryz.prog.follows .mixedOrders = true := by kernel_rfl
noncomputable def okF (f : FuncId) : Bool := match Tryz.prog.funcs[f]? with | some fn => fnOk Tryz.prog fn | none => false
theorem okF_ok : ∀ f fn, okF f = true → Tryz.prog.funcs[f]? = some fn → fnOk Tryz.prog fn = true := by
  intro f fn h1 h2
  unfold okF at h1
  rw [h2] at h1; exact h1
noncomputable def isTrue (o : Out) : Bool := match o with | some (.bool true, _) => true | _ => false
theorem isTrue_eq {o : Out} (h : isTrue o = true) : ∃ h1, o = some (.bool true, h1) := by
  unfold isTrue at h
  split at h
  · exact ⟨_, rfl⟩
  · cases h
noncomputable def run0 : CallF := callF Tryz.prog okF (callL []) (fun _ => false) 100000 40
theorem run0_sound : CSound Tryz.prog run0 := callF_sound (callL_sound [] (by simp)) (by decide) mixed okF_ok 40
theorem known_runs : isTrue (run0 12 [] (bare Tryz.prog)) = true := by kernel_rfl
def s12 : List Value → Heap → Out := fun args h => match args with | [] => some (.bool true, h) | _ => none
theorem c12 : Contract Tryz.prog 12 s12 := Contract.closed run0_sound rfl (isTrue_eq known_runs)

noncomputable abbrev XL : List (FuncId × (List Value → Heap → Out)) := [(12, s12)]
noncomputable abbrev XX : CallF := callL XL
theorem XX_sound : CSound Tryz.prog XX := callL_sound _ (by
  intro p hp
  rcases List.mem_singleton.1 hp with rfl
  exact c12)
/-- Calls of the seat's functions: what is known of some, and the bodies of all others. -/
noncomputable def CW : CallF := CC Tryz.prog XX
theorem globals4 : Tryz.prog.globals.size = 4 := by kernel_rfl
theorem CW_body {f : FuncId} {fn : Func} (i : IsFn Tryz.prog f fn) {args : List Value} {h : Heap} {r : Value × Heap} (hg : 4 ≤ h.n0) (hX : XX f args h = none) (e : bodyK Tryz.prog CW fn args h = some r) : CW f args h = some r :=
  CC_body i (by rw [globals4]; exact hg) hX e
theorem r12 (h : Heap) : CW 12 [] h = some (.bool true, h) := CC_known (show XX 12 [] h = some (.bool true, h) from rfl)

/-- Nothing that was there has changed. -/
abbrev Old (h h' : Heap) : Prop := Kept h h' (fun _ => False)
theorem Old.get {h h' : Heap} (o : Old h h') {b : Nat} {k : Blk} (e : h.get b = some k) : h'.get b = some k := (Kept.get o b (h.lt_of_get e) (fun h => h)).trans e
theorem thenV_congr {γ : Type} {o o' : Out} {f : Value → Heap → Option γ} (h : o = o') : thenV o f = thenV o' f := by rw [h]

/-- Kinds of cells. -/
inductive Kd where
  | u8
  | i (k : IntKind)
  | b
def Kd.has : Kd → Value → Prop
  | .u8, v => ∃ n : Nat, v = .int .u8 n ∧ n < 256
  | .i k, v => ∃ n : Int, v = .int k n
  | .b, v => ∃ t : Bool, v = .bool t
theorem Kd.has.cell {k : Kd} {v : Value} (h : k.has v) : isHole v = false ∧ v.oneCell' = true ∧ flat v = true ∧ v.cells = #[v] := by
  cases k with
  | u8 => obtain ⟨n, rfl, _⟩ := h; exact ⟨rfl, rfl, rfl, rfl⟩
  | i k => obtain ⟨n, rfl⟩ := h; exact ⟨rfl, rfl, rfl, rfl⟩
  | b => obtain ⟨t, rfl⟩ := h; exact ⟨rfl, rfl, rfl, rfl⟩
/-- Cells of these kinds. -/
def Typed (ks : List Kd) (cs : List Value) : Prop := cs.length = ks.length ∧ ∀ (j : Nat) (k : Kd), ks[j]? = some k → ∃ v, cs[j]? = some v ∧ k.has v
/-- Elements whose cells are of these kinds. -/
def TypedN (ks : List Kd) (n : Nat) (cs : List Value) : Prop := cs.length = n * ks.length ∧ ∀ i, i < n → Typed ks ((cs.drop (i * ks.length)).take ks.length)
theorem Typed.cell {ks : List Kd} {cs : List Value} (h : Typed ks cs) {j : Nat} {v : Value} (hv : cs[j]? = some v) : isHole v = false ∧ v.oneCell' = true ∧ flat v = true ∧ v.cells = #[v] := by
  have hj := (List.getElem?_eq_some_iff.1 hv).1
  have hj' : j < ks.length := by rw [← h.1]; exact hj
  obtain ⟨w, hw, hk⟩ := h.2 j _ (List.getElem?_eq_getElem hj')
  rw [hv] at hw
  cases hw
  exact hk.cell
theorem Typed.all {ks : List Kd} {cs : List Value} (h : Typed ks cs) : Abs.noHoles cs = true ∧ oneCells cs = true ∧ flatAll cs = true := by
  have key : ∀ v ∈ cs, isHole v = false ∧ v.oneCell' = true ∧ flat v = true := fun v hv => by
    obtain ⟨j, hj⟩ := List.mem_iff_getElem?.1 hv
    obtain ⟨a, b, c, _⟩ := h.cell hj
    exact ⟨a, b, c⟩
  refine ⟨?_, ?_, ?_⟩
  · unfold Abs.noHoles
    rw [List.all_eq_true]
    exact fun v hv => by rw [(key v hv).1]; rfl
  · unfold oneCells
    rw [List.all_eq_true]
    exact fun v hv => (key v hv).2.1
  · unfold flatAll
    rw [List.all_eq_true]
    exact fun v hv => (key v hv).2.2
theorem TypedN.all {ks : List Kd} {n : Nat} {cs : List Value} (h : TypedN ks n cs) : Abs.noHoles cs = true ∧ oneCells cs = true := by
  have key : ∀ v ∈ cs, isHole v = false ∧ v.oneCell' = true := fun v hv => by
    obtain ⟨j, hj⟩ := List.mem_iff_getElem?.1 hv
    have hj2 := (List.getElem?_eq_some_iff.1 hj).1
    rw [h.1] at hj2
    have hpos : 0 < ks.length := Nat.pos_of_ne_zero (fun e => by rw [e] at hj2; omega)
    have hi : j / ks.length < n := (Nat.div_lt_iff_lt_mul hpos).2 hj2
    have h3 := (h.2 _ hi).cell (j := j % ks.length) (v := v) (by
      have hm := Nat.mod_lt j hpos
      rw [List.getElem?_take, if_pos hm, List.getElem?_drop]
      have := Nat.div_add_mod j ks.length
      rw [Nat.mul_comm] at this
      rw [this]; exact hj)
    exact ⟨h3.1, h3.2.1⟩
  refine ⟨?_, ?_⟩
  · unfold Abs.noHoles
    rw [List.all_eq_true]
    exact fun v hv => by rw [(key v hv).1]; rfl
  · unfold oneCells
    rw [List.all_eq_true]
    exact fun v hv => (key v hv).2

/-- Elements of a type can be compared. -/
def EqT (t : TypeId) (ks : List Kd) : Prop := ∀ xs ys : List Value, Typed ks xs → Typed ks ys → ∃ r : Bool, (r = true ↔ xs = ys) ∧ bin Tryz.prog .eql t (.agg xs.toArray) (.agg ys.toArray) = some (.bool r) ∧ bin Tryz.prog .neq t (.agg xs.toArray) (.agg ys.toArray) = some (.bool !r)
def digK : List Kd := List.replicate 32 .u8
def memK : List Kd := [.i .u64, .u8]
def recK : List Kd := .u8 :: (List.replicate 32 .u8 ++ [.i .i64, .i .u64, .i .u64, .b, .i .i64, .i .i64])
theorem size1 : sizeT Tryz.prog 5 = some 1 := by kernel_rfl
theorem size32 : sizeT Tryz.prog 28 = some 32 := by kernel_rfl
theorem ground_agg {xs : List Value} (h : flatAll xs = true) : ground (.agg xs.toArray) = true := by
  show flatAll xs.toArray.toList = true
  exact h
theorem dig_get {xs : List Value} (h : Typed digK xs) {i : Nat} (hi : i < 32) : ∃ n : Nat, xs[i]? = some (.int .u8 n) ∧ n < 256 := by
  obtain ⟨v, h1, n, rfl, h2⟩ := h.2 i .u8 (by unfold digK; rw [List.getElem?_replicate, if_pos hi])
  exact ⟨n, h1, h2⟩
theorem dig_run {d : Nat} {xs ys : List Value} (hx : Typed digK xs) (hy : Typed digK ys) : ∃ r : Bool, (r = true ↔ xs = ys) ∧ pureRun Tryz.prog (Op.equalIn (d + 2) 28 (.agg xs.toArray) (.agg ys.toArray)) = some r := by
  obtain ⟨r, h1, h2⟩ := pr_eq_arr (P := Tryz.prog) (d := d) (m := 32) (t := 28) (e := 5) (k := .u8) (j := .u8) (xs := xs.toArray) (ys := ys.toArray) Tryz.underlying28 size1 Tryz.underlying5 (fun i hi => by
    obtain ⟨a, ha, _⟩ := dig_get hx hi
    obtain ⟨b, hb, _⟩ := dig_get hy hi
    exact ⟨a, b, by simpa using ha, by simpa using hb⟩)
  refine ⟨r, h1.trans ⟨fun hh => ?_, fun hh i hi => by rw [hh]⟩, h2⟩
  have lx : xs.length = 32 := hx.1
  have ly : ys.length = 32 := hy.1
  refine List.ext_getElem? fun i => ?_
  by_cases hi : i < 32
  · simpa using hh i hi
  · rw [List.getElem?_eq_none (by omega), List.getElem?_eq_none (by omega)]
theorem eq28 : EqT 28 digK := by
  intro xs ys hx hy
  obtain ⟨r, h1, h2⟩ := dig_run (d := 9998) hx hy
  exact ⟨r, h1, bin_agg (by kernel_rfl) (ground_agg hx.all.2.2) (ground_agg hy.all.2.2) h2⟩
theorem eq58 : EqT 58 memK := by
  intro xs ys hx hy
  have two : ∀ {l : List Value}, Typed memK l → ∃ (a : Int) (b : Nat), l = [.int .u64 a, .int .u8 b] := by
    intro l h
    have hl : l.length = 2 := h.1
    match l, hl with
    | [v, w], _ =>
      obtain ⟨_, h1, a, rfl⟩ := h.2 0 (.i .u64) rfl
      obtain ⟨_, h2, b, rfl, _⟩ := h.2 1 .u8 rfl
      cases h1; cases h2
      exact ⟨a, b, rfl⟩
  obtain ⟨a, b, rfl⟩ := two hx
  obtain ⟨c, d, rfl⟩ := two hy
  have hr : pureRun Tryz.prog (Op.equalIn 10000 58 (.agg [Value.int .u64 a, .int .u8 b].toArray) (.agg [Value.int .u64 c, .int .u8 d].toArray)) = some (decide (a = c) && decide ((b : Int) = d)) := by
    rw [pr_eq_struct (P := Tryz.prog) (d := 9999) Tryz.underlying58 (by kernel_rfl)]
    simp only [eqF]
    rw [if_pos (by decide), if_pos (by decide)]
    rw [pr_part_int (v := .int .u64 a) Tryz.underlying25 rfl, pr_part_int (v := .int .u64 c) Tryz.underlying25 rfl, pr_part_int (v := .int .u8 b) Tryz.underlying56 rfl, pr_part_int (v := .int .u8 d) Tryz.underlying56 rfl]
    simp only [Option.bind_some, pr_eq_int (d := 9998) Tryz.underlying25, pr_eq_int (d := 9998) Tryz.underlying56]
    by_cases e1 : a = c <;> by_cases e2 : (b : Int) = d <;> simp [e1, e2]
  refine ⟨_, ?_, bin_agg (by kernel_rfl) rfl rfl hr⟩
  simp
end Go.Proofs.YtjghlcdidopcpaaGreatDoor

namespace Go.Proofs.YtjghlcdidopcpaaGreatDoor
open Go Go.Abs

theorem rec_form {l : List Value} (h : Typed recK l) : ∃ (a : Nat) (o : List Value) (b c d : Int) (e : Bool) (f g : Int), l = .int .u8 a :: (o ++ [.int .i64 b, .int .u64 c, .int .u64 d, .bool e, .int .i64 f, .int .i64 g]) ∧ Typed digK o := by
  have hl : l.length = 39 := h.1
  obtain ⟨_, h0, a, rfl, _⟩ := h.2 0 .u8 rfl
  obtain ⟨_, h33, b, rfl⟩ := h.2 33 (.i .i64) rfl
  obtain ⟨_, h34, c, rfl⟩ := h.2 34 (.i .u64) rfl
  obtain ⟨_, h35, d, rfl⟩ := h.2 35 (.i .u64) rfl
  obtain ⟨_, h36, e, rfl⟩ := h.2 36 .b rfl
  obtain ⟨_, h37, f, rfl⟩ := h.2 37 (.i .i64) rfl
  obtain ⟨_, h38, g, rfl⟩ := h.2 38 (.i .i64) rfl
  refine ⟨a, (l.drop 1).take 32, b, c, d, e, f, g, ?_, ?_⟩
  · refine List.ext_getElem? fun i => ?_
    have hlo : ((l.drop 1).take 32).length = 32 := by rw [List.length_take, List.length_drop]; omega
    rcases i with _ | i
    · exact h0
    · rw [List.getElem?_cons_succ]
      by_cases hi : i < 32
      · rw [List.getElem?_append_left (by omega), List.getElem?_take, if_pos hi, List.getElem?_drop, Nat.add_comm]
      · rw [List.getElem?_append_right (by omega), hlo]
        rcases (show i = 32 ∨ i = 33 ∨ i = 34 ∨ i = 35 ∨ i = 36 ∨ i = 37 ∨ 38 ≤ i by omega) with rfl | rfl | rfl | rfl | rfl | rfl | h38'
        · exact h33
        · exact h34
        · exact h35
        · exact h36
        · exact h37
        · exact h38
        · rw [List.getElem?_eq_none (by omega), List.getElem?_eq_none (by simp; omega)]
  · refine ⟨by rw [List.length_take, List.length_drop, hl]; rfl, fun j k hk => ?_⟩
    have hj : j < 32 := by
      have := (List.getElem?_eq_some_iff.1 hk).1
      simpa [digK] using this
    have hk' : k = .u8 := by
      unfold digK at hk
      rw [List.getElem?_replicate, if_pos hj] at hk
      exact (Option.some.inj hk).symm
    subst hk'
    obtain ⟨v, hv, hh⟩ := h.2 (j + 1) .u8 (by
      unfold recK
      rw [List.getElem?_cons_succ, List.getElem?_append_left (by simpa using hj), List.getElem?_replicate, if_pos hj])
    exact ⟨v, by rw [List.getElem?_take, if_pos hj, List.getElem?_drop, Nat.add_comm]; exact hv, hh⟩
theorem rec_at {a b c d e f : Value} {x : Value} {o : List Value} (ho : o.length = 32) (i : Nat) : (x :: (o ++ [a, b, c, d, e, f])).toArray[33 + i]? = [a, b, c, d, e, f][i]? := by
  rw [List.getElem?_toArray, show 33 + i = (32 + i) + 1 by omega, List.getElem?_cons_succ, List.getElem?_append_right (by omega), ho, Nat.add_sub_cancel_left]
theorem rec_obj {x : Value} {o t : List Value} (ho : o.length = 32) : (x :: (o ++ t)).toArray.extract 1 (1 + 32) = o.toArray := by
  rw [List.extract_toArray]
  congr 1
  show ((x :: (o ++ t)).drop 1).take (1 + 32 - 1) = o
  rw [List.drop_succ_cons, List.drop_zero, show 1 + 32 - 1 = 32 from rfl, ← ho, List.take_left']
  rfl
theorem eq61 : EqT 61 recK := by
  intro xs ys hx hy
  have fx := hx.all.2.2
  have fy := hy.all.2.2
  obtain ⟨a, o, b, c, d, e, f, g, rfl, ho⟩ := rec_form hx
  obtain ⟨a', o', b', c', d', e', f', g', rfl, ho'⟩ := rec_form hy
  obtain ⟨r, hr, hrun⟩ := dig_run (d := 9997) ho ho'
  have l1 : o.length = 32 := ho.1
  have l2 : o'.length = 32 := ho'.1
  have hp : pureRun Tryz.prog (Op.equalIn 10000 61 (.agg (Value.int .u8 a :: (o ++ [.int .i64 b, .int .u64 c, .int .u64 d, .bool e, .int .i64 f, .int .i64 g])).toArray) (.agg (Value.int .u8 a' :: (o' ++ [.int .i64 b', .int .u64 c', .int .u64 d', .bool e', .int .i64 f', .int .i64 g'])).toArray))
      = some (decide ((a : Int) = a') && (r && (decide (b = b') && (decide (c = c') && (decide (d = d') && (decide (e = e') && (decide (f = f') && decide (g = g')))))))) := by
    rw [pr_eq_struct (P := Tryz.prog) (d := 9999) Tryz.underlying61 (by kernel_rfl)]
    simp only [eqF]
    rw [if_pos (by decide), if_pos (by decide), if_pos (by decide), if_pos (by decide), if_pos (by decide), if_pos (by decide), if_pos (by decide), if_pos (by decide)]
    rw [pr_part_int (v := .int .u8 a) Tryz.underlying59 rfl, pr_part_int (v := .int .u8 a') Tryz.underlying59 rfl, pr_part_arr Tryz.underlying28 size32, pr_part_arr Tryz.underlying28 size32, rec_obj l1, rec_obj l2]
    rw [pr_part_int (v := .int .i64 b) Tryz.underlying3 (rec_at l1 0), pr_part_int (v := .int .i64 b') Tryz.underlying3 (rec_at l2 0), pr_part_int (v := .int .u64 c) Tryz.underlying25 (rec_at l1 1), pr_part_int (v := .int .u64 c') Tryz.underlying25 (rec_at l2 1),
      pr_part_int (v := .int .u64 d) Tryz.underlying25 (rec_at l1 2), pr_part_int (v := .int .u64 d') Tryz.underlying25 (rec_at l2 2), pr_part_bool (v := .bool e) Tryz.underlying4 (rec_at l1 3), pr_part_bool (v := .bool e') Tryz.underlying4 (rec_at l2 3),
      pr_part_int (v := .int .i64 f) Tryz.underlying3 (rec_at l1 4), pr_part_int (v := .int .i64 f') Tryz.underlying3 (rec_at l2 4), pr_part_int (v := .int .i64 g) Tryz.underlying3 (rec_at l1 5), pr_part_int (v := .int .i64 g') Tryz.underlying3 (rec_at l2 5)]
    simp only [Option.bind_some, pr_eq_int (d := 9998) Tryz.underlying59, pr_eq_int (d := 9998) Tryz.underlying3, pr_eq_int (d := 9998) Tryz.underlying25, pr_eq_bool (d := 9998) Tryz.underlying4, hrun]
    by_cases e1 : (a : Int) = a'
    · cases r
      · simp [e1]
      · by_cases e2 : b = b' <;> by_cases e3 : c = c' <;> by_cases e4 : d = d' <;> by_cases e5 : e = e' <;> by_cases e6 : f = f' <;> by_cases e7 : g = g' <;> simp [e1, e2, e3, e4, e5, e6, e7]
    · simp [e1]
  refine ⟨_, ?_, bin_agg (by kernel_rfl) (ground_agg fx) (ground_agg fy) hp⟩
  constructor
  · intro h
    simp only [Bool.and_eq_true, decide_eq_true_eq] at h
    obtain ⟨h1, h2, h3, h4, h5, h6, h7, h8⟩ := h
    rw [h1, hr.1 h2, h3, h4, h5, h6, h7, h8]
  · intro h
    rw [List.cons.injEq] at h
    obtain ⟨h1, h2⟩ := h
    have h3 := List.append_inj h2 (by omega)
    obtain ⟨h4, h5⟩ := h3
    simp only [List.cons.injEq, Value.int.injEq, Value.bool.injEq, true_and, and_true] at h5 h1
    simp only [Bool.and_eq_true, decide_eq_true_eq]
    exact ⟨h1, hr.2 h4, h5⟩
end Go.Proofs.YtjghlcdidopcpaaGreatDoor

namespace Go.Proofs.YtjghlcdidopcpaaGreatDoor
open Go Go.Abs
noncomputable def k53_4 (C : CallF) (e : Env) (h : Heap) : Out := codeK Tryz.prog C (partOf Tryz.f53 [1, 1, 1]) e h (resultsA Tryz.prog Tryz.f53.results.toList) (resultsA Tryz.prog Tryz.f53.results.toList) (fun _ _ _ => none)
noncomputable def b53_6 (C : CallF) (i : Nat) (e : Env) (h : Heap) : Out := if i = 0 then (k53_4 C) e h else (fun _ _ _ => none) i e h
/-- slices.Equal[[]stolon/api.Member,stolon/api.Member] -/
noncomputable def t53 (C : CallF) (x0 x1 : Value) (h : Heap) : Out :=
  thenV (some ((.bool false), h)) fun y4 h =>
  thenV (some (x0, h)) fun y6 h =>
  thenV (pu (lenL y6) h) fun y7 h =>
  thenV (some (x1, h)) fun y8 h =>
  thenV (pu (lenL y8) h) fun y9 h =>
  thenV (pu (bin Tryz.prog .neq 3 y7 y9) h) fun y10 h =>
  (match y10 with
  | .bool true =>
  thenV (some ((.bool false), h)) fun y4_1 h =>
  some (y4_1, h)
  | .bool false =>
  thenV (some (x0, h)) fun y11 h =>
  thenV (pu (lenL y11) h) fun y12 h =>
  thenV (some ((.int .i64 0), h)) fun y13 h =>
  endL (iter (codeA Tryz.prog C (partOf Tryz.f53 [1, 1, 0, 1, 0, 0])) rounds (mkF 26 (up (bs [x0, x1]) [(4, y4), (6, y6), (7, y7), (8, y8), (9, y9), (10, y10), (11, y11), (12, y12), (13, y13)])) h) (resultsA Tryz.prog Tryz.f53.results.toList) (b53_6 C)
  | _ => none)
noncomputable def t53k53_4 (_C : CallF) (_x : Nat → Value) (h : Heap) : Out :=
  thenV (some ((.bool true), h)) fun y4 h =>
  some (y4, h)
noncomputable def t53l53_11010 (_C : CallF) (x : Nat → Value) (h : Heap) : Option (Ex × Env × Heap) :=
  thenV (pu (bin Tryz.prog .lss 3 (x 13) (x 12)) h) fun y14 h =>
  (match y14 with
  | .bool true =>
  thenV (some ((x 13), h)) fun y15 h =>
  thenV (some (y15, h)) fun y5 h =>
  thenV (some ((x 0), h)) fun y16 h =>
  thenV (some (y5, h)) fun y17 h =>
  thenV (pu (idxS 2 y16 y17) h) fun y18 h =>
  thenV (ldN 2 y18 h) fun y19 h =>
  thenV (some ((x 1), h)) fun y20 h =>
  thenV (some (y5, h)) fun y21 h =>
  thenV (pu (idxS 2 y20 y21) h) fun y22 h =>
  thenV (ldN 2 y22 h) fun y23 h =>
  thenV (pu (bin Tryz.prog .neq 58 y19 y23) h) fun y24 h =>
  (match y24 with
  | .bool true =>
  thenV (some ((.bool false), h)) fun y4 h =>
  some (.ret, (mkF 26 (up x [(4, y4), (5, y5), (14, y14), (15, y15), (16, y16), (17, y17), (18, y18), (19, y19), (20, y20), (21, y21), (22, y22), (23, y23), (24, y24)])), h)
  | .bool false =>
  thenV (pu (bin Tryz.prog .add 3 (x 13) (.int .i64 1)) h) fun y25 h =>
  thenV (some (y25, h)) fun y13 h =>
  some (.normal, (mkF 26 (up x [(5, y5), (13, y13), (14, y14), (15, y15), (16, y16), (17, y17), (18, y18), (19, y19), (20, y20), (21, y21), (22, y22), (23, y23), (24, y24), (25, y25)])), h)
  | _ => none)
  | .bool false =>
  some (.exit 0, (mkF 26 (up x [(14, y14)])), h)
  | _ => none)
theorem t53_eq (C : CallF) (x0 x1 : Value) (h : Heap) : bodyK Tryz.prog C Tryz.f53 [x0, x1] h = t53 C x0 x1 h :=
  (bodyB_eq Tryz.prog C Tryz.f53 [x0, x1] h (by kernel_rfl)).trans (by kernel_rfl)
theorem t53k53_4_eq (C : CallF) (x : Nat → Value) (h : Heap) : k53_4 C (mkF 26 x) h = t53k53_4 C x h :=
  link_partF (b := (partOf Tryz.f53 [1, 1, 1])) (kE := (resultsA Tryz.prog Tryz.f53.results.toList)) (rE := (resultsA Tryz.prog Tryz.f53.results.toList)) (xE := (fun _ _ _ => none)) (T := t53k53_4 C) (fun x h => by kernel_rfl) x h
theorem t53l53_11010_eq (C : CallF) (x : Nat → Value) (h : Heap) : codeA Tryz.prog C (partOf Tryz.f53 [1, 1, 0, 1, 0, 0]) (mkF 26 x) h = t53l53_11010 C x h :=
  link_roundF (T := t53l53_11010 C) (fun x h => by kernel_rfl) x h

noncomputable def k54_4 (C : CallF) (e : Env) (h : Heap) : Out := codeK Tryz.prog C (partOf Tryz.f54 [1, 1, 1]) e h (resultsA Tryz.prog Tryz.f54.results.toList) (resultsA Tryz.prog Tryz.f54.results.toList) (fun _ _ _ => none)
noncomputable def b54_6 (C : CallF) (i : Nat) (e : Env) (h : Heap) : Out := if i = 0 then (k54_4 C) e h else (fun _ _ _ => none) i e h
/-- slices.Equal[[]byte,byte] -/
noncomputable def t54 (C : CallF) (x0 x1 : Value) (h : Heap) : Out :=
  thenV (some ((.bool false), h)) fun y4 h =>
  thenV (some (x0, h)) fun y6 h =>
  thenV (pu (lenL y6) h) fun y7 h =>
  thenV (some (x1, h)) fun y8 h =>
  thenV (pu (lenL y8) h) fun y9 h =>
  thenV (pu (bin Tryz.prog .neq 3 y7 y9) h) fun y10 h =>
  (match y10 with
  | .bool true =>
  thenV (some ((.bool false), h)) fun y4_1 h =>
  some (y4_1, h)
  | .bool false =>
  thenV (some (x0, h)) fun y11 h =>
  thenV (pu (lenL y11) h) fun y12 h =>
  thenV (some ((.int .i64 0), h)) fun y13 h =>
  endL (iter (codeA Tryz.prog C (partOf Tryz.f54 [1, 1, 0, 1, 0, 0])) rounds (mkF 26 (up (bs [x0, x1]) [(4, y4), (6, y6), (7, y7), (8, y8), (9, y9), (10, y10), (11, y11), (12, y12), (13, y13)])) h) (resultsA Tryz.prog Tryz.f54.results.toList) (b54_6 C)
  | _ => none)
noncomputable def t54k54_4 (_C : CallF) (_x : Nat → Value) (h : Heap) : Out :=
  thenV (some ((.bool true), h)) fun y4 h =>
  some (y4, h)
noncomputable def t54l54_11010 (_C : CallF) (x : Nat → Value) (h : Heap) : Option (Ex × Env × Heap) :=
  thenV (pu (bin Tryz.prog .lss 3 (x 13) (x 12)) h) fun y14 h =>
  (match y14 with
  | .bool true =>
  thenV (some ((x 13), h)) fun y15 h =>
  thenV (some (y15, h)) fun y5 h =>
  thenV (some ((x 0), h)) fun y16 h =>
  thenV (some (y5, h)) fun y17 h =>
  thenV (pu (idxS 1 y16 y17) h) fun y18 h =>
  thenV (ld1 y18 h) fun y19 h =>
  thenV (some ((x 1), h)) fun y20 h =>
  thenV (some (y5, h)) fun y21 h =>
  thenV (pu (idxS 1 y20 y21) h) fun y22 h =>
  thenV (ld1 y22 h) fun y23 h =>
  thenV (pu (bin Tryz.prog .neq 5 y19 y23) h) fun y24 h =>
  (match y24 with
  | .bool true =>
  thenV (some ((.bool false), h)) fun y4 h =>
  some (.ret, (mkF 26 (up x [(4, y4), (5, y5), (14, y14), (15, y15), (16, y16), (17, y17), (18, y18), (19, y19), (20, y20), (21, y21), (22, y22), (23, y23), (24, y24)])), h)
  | .bool false =>
  thenV (pu (bin Tryz.prog .add 3 (x 13) (.int .i64 1)) h) fun y25 h =>
  thenV (some (y25, h)) fun y13 h =>
  some (.normal, (mkF 26 (up x [(5, y5), (13, y13), (14, y14), (15, y15), (16, y16), (17, y17), (18, y18), (19, y19), (20, y20), (21, y21), (22, y22), (23, y23), (24, y24), (25, y25)])), h)
  | _ => none)
  | .bool false =>
  some (.exit 0, (mkF 26 (up x [(14, y14)])), h)
  | _ => none)
theorem t54_eq (C : CallF) (x0 x1 : Value) (h : Heap) : bodyK Tryz.prog C Tryz.f54 [x0, x1] h = t54 C x0 x1 h :=
  (bodyB_eq Tryz.prog C Tryz.f54 [x0, x1] h (by kernel_rfl)).trans (by kernel_rfl)
theorem t54k54_4_eq (C : CallF) (x : Nat → Value) (h : Heap) : k54_4 C (mkF 26 x) h = t54k54_4 C x h :=
  link_partF (b := (partOf Tryz.f54 [1, 1, 1])) (kE := (resultsA Tryz.prog Tryz.f54.results.toList)) (rE := (resultsA Tryz.prog Tryz.f54.results.toList)) (xE := (fun _ _ _ => none)) (T := t54k54_4 C) (fun x h => by kernel_rfl) x h
theorem t54l54_11010_eq (C : CallF) (x : Nat → Value) (h : Heap) : codeA Tryz.prog C (partOf Tryz.f54 [1, 1, 0, 1, 0, 0]) (mkF 26 x) h = t54l54_11010 C x h :=
  link_roundF (T := t54l54_11010 C) (fun x h => by kernel_rfl) x h

noncomputable def k55_4 (C : CallF) (e : Env) (h : Heap) : Out := codeK Tryz.prog C (partOf Tryz.f55 [1, 1, 1]) e h (resultsA Tryz.prog Tryz.f55.results.toList) (resultsA Tryz.prog Tryz.f55.results.toList) (fun _ _ _ => none)
noncomputable def b55_6 (C : CallF) (i : Nat) (e : Env) (h : Heap) : Out := if i = 0 then (k55_4 C) e h else (fun _ _ _ => none) i e h
/-- slices.Equal[[]stolon/api.Record,stolon/api.Record] -/
noncomputable def t55 (C : CallF) (x0 x1 : Value) (h : Heap) : Out :=
  thenV (some ((.bool false), h)) fun y4 h =>
  thenV (some (x0, h)) fun y6 h =>
  thenV (pu (lenL y6) h) fun y7 h =>
  thenV (some (x1, h)) fun y8 h =>
  thenV (pu (lenL y8) h) fun y9 h =>
  thenV (pu (bin Tryz.prog .neq 3 y7 y9) h) fun y10 h =>
  (match y10 with
  | .bool true =>
  thenV (some ((.bool false), h)) fun y4_1 h =>
  some (y4_1, h)
  | .bool false =>
  thenV (some (x0, h)) fun y11 h =>
  thenV (pu (lenL y11) h) fun y12 h =>
  thenV (some ((.int .i64 0), h)) fun y13 h =>
  endL (iter (codeA Tryz.prog C (partOf Tryz.f55 [1, 1, 0, 1, 0, 0])) rounds (mkF 26 (up (bs [x0, x1]) [(4, y4), (6, y6), (7, y7), (8, y8), (9, y9), (10, y10), (11, y11), (12, y12), (13, y13)])) h) (resultsA Tryz.prog Tryz.f55.results.toList) (b55_6 C)
  | _ => none)
noncomputable def t55k55_4 (_C : CallF) (_x : Nat → Value) (h : Heap) : Out :=
  thenV (some ((.bool true), h)) fun y4 h =>
  some (y4, h)
noncomputable def t55l55_11010 (_C : CallF) (x : Nat → Value) (h : Heap) : Option (Ex × Env × Heap) :=
  thenV (pu (bin Tryz.prog .lss 3 (x 13) (x 12)) h) fun y14 h =>
  (match y14 with
  | .bool true =>
  thenV (some ((x 13), h)) fun y15 h =>
  thenV (some (y15, h)) fun y5 h =>
  thenV (some ((x 0), h)) fun y16 h =>
  thenV (some (y5, h)) fun y17 h =>
  thenV (pu (idxS 39 y16 y17) h) fun y18 h =>
  thenV (ldN 39 y18 h) fun y19 h =>
  thenV (some ((x 1), h)) fun y20 h =>
  thenV (some (y5, h)) fun y21 h =>
  thenV (pu (idxS 39 y20 y21) h) fun y22 h =>
  thenV (ldN 39 y22 h) fun y23 h =>
  thenV (pu (bin Tryz.prog .neq 61 y19 y23) h) fun y24 h =>
  (match y24 with
  | .bool true =>
  thenV (some ((.bool false), h)) fun y4 h =>
  some (.ret, (mkF 26 (up x [(4, y4), (5, y5), (14, y14), (15, y15), (16, y16), (17, y17), (18, y18), (19, y19), (20, y20), (21, y21), (22, y22), (23, y23), (24, y24)])), h)
  | .bool false =>
  thenV (pu (bin Tryz.prog .add 3 (x 13) (.int .i64 1)) h) fun y25 h =>
  thenV (some (y25, h)) fun y13 h =>
  some (.normal, (mkF 26 (up x [(5, y5), (13, y13), (14, y14), (15, y15), (16, y16), (17, y17), (18, y18), (19, y19), (20, y20), (21, y21), (22, y22), (23, y23), (24, y24), (25, y25)])), h)
  | _ => none)
  | .bool false =>
  some (.exit 0, (mkF 26 (up x [(14, y14)])), h)
  | _ => none)
theorem t55_eq (C : CallF) (x0 x1 : Value) (h : Heap) : bodyK Tryz.prog C Tryz.f55 [x0, x1] h = t55 C x0 x1 h :=
  (bodyB_eq Tryz.prog C Tryz.f55 [x0, x1] h (by kernel_rfl)).trans (by kernel_rfl)
theorem t55k55_4_eq (C : CallF) (x : Nat → Value) (h : Heap) : k55_4 C (mkF 26 x) h = t55k55_4 C x h :=
  link_partF (b := (partOf Tryz.f55 [1, 1, 1])) (kE := (resultsA Tryz.prog Tryz.f55.results.toList)) (rE := (resultsA Tryz.prog Tryz.f55.results.toList)) (xE := (fun _ _ _ => none)) (T := t55k55_4 C) (fun x h => by kernel_rfl) x h
theorem t55l55_11010_eq (C : CallF) (x : Nat → Value) (h : Heap) : codeA Tryz.prog C (partOf Tryz.f55 [1, 1, 0, 1, 0, 0]) (mkF 26 x) h = t55l55_11010 C x h :=
  link_roundF (T := t55l55_11010 C) (fun x h => by kernel_rfl) x h

noncomputable def k86_4 (C : CallF) (e : Env) (h : Heap) : Out := codeK Tryz.prog C (partOf Tryz.f86 [1, 1, 1]) e h (resultsA Tryz.prog Tryz.f86.results.toList) (resultsA Tryz.prog Tryz.f86.results.toList) (fun _ _ _ => none)
noncomputable def b86_6 (C : CallF) (i : Nat) (e : Env) (h : Heap) : Out := if i = 0 then (k86_4 C) e h else (fun _ _ _ => none) i e h
/-- slices.Equal[[]stolon/api.Digest,stolon/api.Digest] -/
noncomputable def t86 (C : CallF) (x0 x1 : Value) (h : Heap) : Out :=
  thenV (some ((.bool false), h)) fun y4 h =>
  thenV (some (x0, h)) fun y6 h =>
  thenV (pu (lenL y6) h) fun y7 h =>
  thenV (some (x1, h)) fun y8 h =>
  thenV (pu (lenL y8) h) fun y9 h =>
  thenV (pu (bin Tryz.prog .neq 3 y7 y9) h) fun y10 h =>
  (match y10 with
  | .bool true =>
  thenV (some ((.bool false), h)) fun y4_1 h =>
  some (y4_1, h)
  | .bool false =>
  thenV (some (x0, h)) fun y11 h =>
  thenV (pu (lenL y11) h) fun y12 h =>
  thenV (some ((.int .i64 0), h)) fun y13 h =>
  endL (iter (codeA Tryz.prog C (partOf Tryz.f86 [1, 1, 0, 1, 0, 0])) rounds (mkF 26 (up (bs [x0, x1]) [(4, y4), (6, y6), (7, y7), (8, y8), (9, y9), (10, y10), (11, y11), (12, y12), (13, y13)])) h) (resultsA Tryz.prog Tryz.f86.results.toList) (b86_6 C)
  | _ => none)
noncomputable def t86k86_4 (_C : CallF) (_x : Nat → Value) (h : Heap) : Out :=
  thenV (some ((.bool true), h)) fun y4 h =>
  some (y4, h)
noncomputable def t86l86_11010 (_C : CallF) (x : Nat → Value) (h : Heap) : Option (Ex × Env × Heap) :=
  thenV (pu (bin Tryz.prog .lss 3 (x 13) (x 12)) h) fun y14 h =>
  (match y14 with
  | .bool true =>
  thenV (some ((x 13), h)) fun y15 h =>
  thenV (some (y15, h)) fun y5 h =>
  thenV (some ((x 0), h)) fun y16 h =>
  thenV (some (y5, h)) fun y17 h =>
  thenV (pu (idxS 32 y16 y17) h) fun y18 h =>
  thenV (ldN 32 y18 h) fun y19 h =>
  thenV (some ((x 1), h)) fun y20 h =>
  thenV (some (y5, h)) fun y21 h =>
  thenV (pu (idxS 32 y20 y21) h) fun y22 h =>
  thenV (ldN 32 y22 h) fun y23 h =>
  thenV (pu (bin Tryz.prog .neq 28 y19 y23) h) fun y24 h =>
  (match y24 with
  | .bool true =>
  thenV (some ((.bool false), h)) fun y4 h =>
  some (.ret, (mkF 26 (up x [(4, y4), (5, y5), (14, y14), (15, y15), (16, y16), (17, y17), (18, y18), (19, y19), (20, y20), (21, y21), (22, y22), (23, y23), (24, y24)])), h)
  | .bool false =>
  thenV (pu (bin Tryz.prog .add 3 (x 13) (.int .i64 1)) h) fun y25 h =>
  thenV (some (y25, h)) fun y13 h =>
  some (.normal, (mkF 26 (up x [(5, y5), (13, y13), (14, y14), (15, y15), (16, y16), (17, y17), (18, y18), (19, y19), (20, y20), (21, y21), (22, y22), (23, y23), (24, y24), (25, y25)])), h)
  | _ => none)
  | .bool false =>
  some (.exit 0, (mkF 26 (up x [(14, y14)])), h)
  | _ => none)
theorem t86_eq (C : CallF) (x0 x1 : Value) (h : Heap) : bodyK Tryz.prog C Tryz.f86 [x0, x1] h = t86 C x0 x1 h :=
  (bodyB_eq Tryz.prog C Tryz.f86 [x0, x1] h (by kernel_rfl)).trans (by kernel_rfl)
theorem t86k86_4_eq (C : CallF) (x : Nat → Value) (h : Heap) : k86_4 C (mkF 26 x) h = t86k86_4 C x h :=
  link_partF (b := (partOf Tryz.f86 [1, 1, 1])) (kE := (resultsA Tryz.prog Tryz.f86.results.toList)) (rE := (resultsA Tryz.prog Tryz.f86.results.toList)) (xE := (fun _ _ _ => none)) (T := t86k86_4 C) (fun x h => by kernel_rfl) x h
theorem t86l86_11010_eq (C : CallF) (x : Nat → Value) (h : Heap) : codeA Tryz.prog C (partOf Tryz.f86 [1, 1, 0, 1, 0, 0]) (mkF 26 x) h = t86l86_11010 C x h :=
  link_roundF (T := t86l86_11010 C) (fun x h => by kernel_rfl) x h

noncomputable def k43_4 (C : CallF) (e : Env) (h : Heap) : Out := codeK Tryz.prog C (partOf Tryz.f43 [1, 1, 1]) e h (resultsA Tryz.prog Tryz.f43.results.toList) (resultsA Tryz.prog Tryz.f43.results.toList) (fun _ _ _ => none)
noncomputable def b43_6 (C : CallF) (i : Nat) (e : Env) (h : Heap) : Out := if i = 0 then (k43_4 C) e h else (fun _ _ _ => none) i e h
/-- stolon/stolonref05.SameTable -/
noncomputable def t43 (C : CallF) (x0 x1 : Value) (h : Heap) : Out :=
  thenV (some ((.bool false), h)) fun y4 h =>
  thenV (some (x0, h)) fun y6 h =>
  thenV (pu (lenL y6) h) fun y7 h =>
  thenV (some (x1, h)) fun y8 h =>
  thenV (pu (lenL y8) h) fun y9 h =>
  thenV (pu (bin Tryz.prog .neq 3 y7 y9) h) fun y10 h =>
  (match y10 with
  | .bool true =>
  thenV (some ((.bool false), h)) fun y4_1 h =>
  some (y4_1, h)
  | .bool false =>
  thenV (some ((.int .i64 0), h)) fun y5 h =>
  endL (iter (codeA Tryz.prog C (partOf Tryz.f43 [1, 1, 0, 1, 0, 0])) rounds (mkF 26 (up (bs [x0, x1]) [(4, y4), (5, y5), (6, y6), (7, y7), (8, y8), (9, y9), (10, y10)])) h) (resultsA Tryz.prog Tryz.f43.results.toList) (b43_6 C)
  | _ => none)
noncomputable def t43k43_4 (_C : CallF) (_x : Nat → Value) (h : Heap) : Out :=
  thenV (some ((.bool true), h)) fun y4 h =>
  some (y4, h)
noncomputable def t43l43_11010 (_C : CallF) (x : Nat → Value) (h : Heap) : Option (Ex × Env × Heap) :=
  thenV (some ((x 5), h)) fun y11 h =>
  thenV (some ((x 0), h)) fun y12 h =>
  thenV (pu (lenL y12) h) fun y13 h =>
  thenV (pu (bin Tryz.prog .lss 3 y11 y13) h) fun y14 h =>
  (match y14 with
  | .bool true =>
  thenV (some ((x 0), h)) fun y17 h =>
  thenV (some ((x 5), h)) fun y18 h =>
  thenV (pu (idxS 2 y17 y18) h) fun y19 h =>
  thenV (ldN 2 y19 h) fun y20 h =>
  thenV (some ((x 1), h)) fun y21 h =>
  thenV (some ((x 5), h)) fun y22 h =>
  thenV (pu (idxS 2 y21 y22) h) fun y23 h =>
  thenV (ldN 2 y23 h) fun y24 h =>
  thenV (pu (bin Tryz.prog .neq 58 y20 y24) h) fun y25 h =>
  (match y25 with
  | .bool true =>
  thenV (some ((.bool false), h)) fun y4 h =>
  some (.ret, (mkF 26 (up x [(4, y4), (11, y11), (12, y12), (13, y13), (14, y14), (17, y17), (18, y18), (19, y19), (20, y20), (21, y21), (22, y22), (23, y23), (24, y24), (25, y25)])), h)
  | .bool false =>
  thenV (some ((x 5), h)) fun y15 h =>
  thenV (pu (bin Tryz.prog .add 3 y15 (.int .i64 1)) h) fun y16 h =>
  thenV (some (y16, h)) fun y5 h =>
  some (.normal, (mkF 26 (up x [(5, y5), (11, y11), (12, y12), (13, y13), (14, y14), (15, y15), (16, y16), (17, y17), (18, y18), (19, y19), (20, y20), (21, y21), (22, y22), (23, y23), (24, y24), (25, y25)])), h)
  | _ => none)
  | .bool false =>
  some (.exit 0, (mkF 26 (up x [(11, y11), (12, y12), (13, y13), (14, y14)])), h)
  | _ => none)
theorem t43_eq (C : CallF) (x0 x1 : Value) (h : Heap) : bodyK Tryz.prog C Tryz.f43 [x0, x1] h = t43 C x0 x1 h :=
  (bodyB_eq Tryz.prog C Tryz.f43 [x0, x1] h (by kernel_rfl)).trans (by kernel_rfl)
theorem t43k43_4_eq (C : CallF) (x : Nat → Value) (h : Heap) : k43_4 C (mkF 26 x) h = t43k43_4 C x h :=
  link_partF (b := (partOf Tryz.f43 [1, 1, 1])) (kE := (resultsA Tryz.prog Tryz.f43.results.toList)) (rE := (resultsA Tryz.prog Tryz.f43.results.toList)) (xE := (fun _ _ _ => none)) (T := t43k43_4 C) (fun x h => by kernel_rfl) x h
theorem t43l43_11010_eq (C : CallF) (x : Nat → Value) (h : Heap) : codeA Tryz.prog C (partOf Tryz.f43 [1, 1, 0, 1, 0, 0]) (mkF 26 x) h = t43l43_11010 C x h :=
  link_roundF (T := t43l43_11010 C) (fun x h => by kernel_rfl) x h

noncomputable def k44_4 (C : CallF) (e : Env) (h : Heap) : Out := codeK Tryz.prog C (partOf Tryz.f44 [1, 1, 1]) e h (resultsA Tryz.prog Tryz.f44.results.toList) (resultsA Tryz.prog Tryz.f44.results.toList) (fun _ _ _ => none)
noncomputable def b44_6 (C : CallF) (i : Nat) (e : Env) (h : Heap) : Out := if i = 0 then (k44_4 C) e h else (fun _ _ _ => none) i e h
/-- stolon/stolonref06.Same -/
noncomputable def t44 (C : CallF) (x0 x1 : Value) (h : Heap) : Out :=
  thenV (some ((.bool false), h)) fun y4 h =>
  thenV (some (x0, h)) fun y6 h =>
  thenV (pu (lenL y6) h) fun y7 h =>
  thenV (some (x1, h)) fun y8 h =>
  thenV (pu (lenL y8) h) fun y9 h =>
  thenV (pu (bin Tryz.prog .neq 3 y7 y9) h) fun y10 h =>
  (match y10 with
  | .bool true =>
  thenV (some ((.bool false), h)) fun y4_1 h =>
  some (y4_1, h)
  | .bool false =>
  thenV (some ((.int .i64 0), h)) fun y5 h =>
  endL (iter (codeA Tryz.prog C (partOf Tryz.f44 [1, 1, 0, 1, 0, 0])) rounds (mkF 26 (up (bs [x0, x1]) [(4, y4), (5, y5), (6, y6), (7, y7), (8, y8), (9, y9), (10, y10)])) h) (resultsA Tryz.prog Tryz.f44.results.toList) (b44_6 C)
  | _ => none)
noncomputable def t44k44_4 (_C : CallF) (_x : Nat → Value) (h : Heap) : Out :=
  thenV (some ((.bool true), h)) fun y4 h =>
  some (y4, h)
noncomputable def t44l44_11010 (_C : CallF) (x : Nat → Value) (h : Heap) : Option (Ex × Env × Heap) :=
  thenV (some ((x 5), h)) fun y11 h =>
  thenV (some ((x 0), h)) fun y12 h =>
  thenV (pu (lenL y12) h) fun y13 h =>
  thenV (pu (bin Tryz.prog .lss 3 y11 y13) h) fun y14 h =>
  (match y14 with
  | .bool true =>
  thenV (some ((x 0), h)) fun y17 h =>
  thenV (some ((x 5), h)) fun y18 h =>
  thenV (pu (idxS 39 y17 y18) h) fun y19 h =>
  thenV (ldN 39 y19 h) fun y20 h =>
  thenV (some ((x 1), h)) fun y21 h =>
  thenV (some ((x 5), h)) fun y22 h =>
  thenV (pu (idxS 39 y21 y22) h) fun y23 h =>
  thenV (ldN 39 y23 h) fun y24 h =>
  thenV (pu (bin Tryz.prog .neq 61 y20 y24) h) fun y25 h =>
  (match y25 with
  | .bool true =>
  thenV (some ((.bool false), h)) fun y4 h =>
  some (.ret, (mkF 26 (up x [(4, y4), (11, y11), (12, y12), (13, y13), (14, y14), (17, y17), (18, y18), (19, y19), (20, y20), (21, y21), (22, y22), (23, y23), (24, y24), (25, y25)])), h)
  | .bool false =>
  thenV (some ((x 5), h)) fun y15 h =>
  thenV (pu (bin Tryz.prog .add 3 y15 (.int .i64 1)) h) fun y16 h =>
  thenV (some (y16, h)) fun y5 h =>
  some (.normal, (mkF 26 (up x [(5, y5), (11, y11), (12, y12), (13, y13), (14, y14), (15, y15), (16, y16), (17, y17), (18, y18), (19, y19), (20, y20), (21, y21), (22, y22), (23, y23), (24, y24), (25, y25)])), h)
  | _ => none)
  | .bool false =>
  some (.exit 0, (mkF 26 (up x [(11, y11), (12, y12), (13, y13), (14, y14)])), h)
  | _ => none)
theorem t44_eq (C : CallF) (x0 x1 : Value) (h : Heap) : bodyK Tryz.prog C Tryz.f44 [x0, x1] h = t44 C x0 x1 h :=
  (bodyB_eq Tryz.prog C Tryz.f44 [x0, x1] h (by kernel_rfl)).trans (by kernel_rfl)
theorem t44k44_4_eq (C : CallF) (x : Nat → Value) (h : Heap) : k44_4 C (mkF 26 x) h = t44k44_4 C x h :=
  link_partF (b := (partOf Tryz.f44 [1, 1, 1])) (kE := (resultsA Tryz.prog Tryz.f44.results.toList)) (rE := (resultsA Tryz.prog Tryz.f44.results.toList)) (xE := (fun _ _ _ => none)) (T := t44k44_4 C) (fun x h => by kernel_rfl) x h
theorem t44l44_11010_eq (C : CallF) (x : Nat → Value) (h : Heap) : codeA Tryz.prog C (partOf Tryz.f44 [1, 1, 0, 1, 0, 0]) (mkF 26 x) h = t44l44_11010 C x h :=
  link_roundF (T := t44l44_11010 C) (fun x h => by kernel_rfl) x h

noncomputable def k45_4 (C : CallF) (e : Env) (h : Heap) : Out := codeK Tryz.prog C (partOf Tryz.f45 [1, 1, 1]) e h (resultsA Tryz.prog Tryz.f45.results.toList) (resultsA Tryz.prog Tryz.f45.results.toList) (fun _ _ _ => none)
noncomputable def b45_6 (C : CallF) (i : Nat) (e : Env) (h : Heap) : Out := if i = 0 then (k45_4 C) e h else (fun _ _ _ => none) i e h
/-- stolon/stolonref02.Same -/
noncomputable def t45 (C : CallF) (x0 x1 : Value) (h : Heap) : Out :=
  thenV (box x0 h) fun y2 h =>
  thenV (box x1 h) fun y3 h =>
  thenV (some ((.bool false), h)) fun y4 h =>
  thenV (pu (addP y2 0) h) fun y6 h =>
  thenV (ld1 y6 h) fun y7 h =>
  thenV (pu (addP y3 0) h) fun y8 h =>
  thenV (ld1 y8 h) fun y9 h =>
  thenV (pu (bin Tryz.prog .neq 3 y7 y9) h) fun y10 h =>
  thenV (some (y10, h)) fun y11 h =>
  thenV (guardK (bOf y11 == some false) (pu (addP y2 1) h) h) fun y12 h =>
  thenV (guardK (bOf y11 == some false) (ld1 y12 h) h) fun y13 h =>
  thenV (guardK (bOf y11 == some false) (pu (addP y3 1) h) h) fun y14 h =>
  thenV (guardK (bOf y11 == some false) (ld1 y14 h) h) fun y15 h =>
  thenV (guardK (bOf y11 == some false) (pu (bin Tryz.prog .neq 3 y13 y15) h) h) fun y16 h =>
  thenV (match y11 with | .bool t => some (if t then (.bool true) else y16, h) | _ => none) fun y17 h =>
  thenV (some (y17, h)) fun y18 h =>
  thenV (guardK (bOf y18 == some false) (pu (addP y2 2) h) h) fun y19 h =>
  thenV (guardK (bOf y18 == some false) (ld1 y19 h) h) fun y20 h =>
  thenV (guardK (bOf y18 == some false) (pu (addP y3 2) h) h) fun y21 h =>
  thenV (guardK (bOf y18 == some false) (ld1 y21 h) h) fun y22 h =>
  thenV (guardK (bOf y18 == some false) (pu (bin Tryz.prog .neq 3 y20 y22) h) h) fun y23 h =>
  thenV (match y18 with | .bool t => some (if t then (.bool true) else y23, h) | _ => none) fun y24 h =>
  thenV (some (y24, h)) fun y25 h =>
  thenV (guardK (bOf y25 == some false) (pu (addP y2 3) h) h) fun y26 h =>
  thenV (guardK (bOf y25 == some false) (ld1 y26 h) h) fun y27 h =>
  thenV (guardK (bOf y25 == some false) (pu (addP y3 3) h) h) fun y28 h =>
  thenV (guardK (bOf y25 == some false) (ld1 y28 h) h) fun y29 h =>
  thenV (guardK (bOf y25 == some false) (pu (bin Tryz.prog .neq 3 y27 y29) h) h) fun y30 h =>
  thenV (match y25 with | .bool t => some (if t then (.bool true) else y30, h) | _ => none) fun y31 h =>
  thenV (some (y31, h)) fun y32 h =>
  thenV (guardK (bOf y32 == some false) (pu (addP y2 4) h) h) fun y33 h =>
  thenV (guardK (bOf y32 == some false) (ldN 32 y33 h) h) fun y34 h =>
  thenV (guardK (bOf y32 == some false) (pu (addP y3 4) h) h) fun y35 h =>
  thenV (guardK (bOf y32 == some false) (ldN 32 y35 h) h) fun y36 h =>
  thenV (guardK (bOf y32 == some false) (pu (bin Tryz.prog .neq 28 y34 y36) h) h) fun y37 h =>
  thenV (match y32 with | .bool t => some (if t then (.bool true) else y37, h) | _ => none) fun y38 h =>
  thenV (some (y38, h)) fun y39 h =>
  thenV (guardK (bOf y39 == some false) (pu (addP y2 36) h) h) fun y40 h =>
  thenV (guardK (bOf y39 == some false) (ld1 y40 h) h) fun y41 h =>
  thenV (guardK (bOf y39 == some false) (pu (lenL y41) h) h) fun y42 h =>
  thenV (guardK (bOf y39 == some false) (pu (addP y3 36) h) h) fun y43 h =>
  thenV (guardK (bOf y39 == some false) (ld1 y43 h) h) fun y44 h =>
  thenV (guardK (bOf y39 == some false) (pu (lenL y44) h) h) fun y45 h =>
  thenV (guardK (bOf y39 == some false) (pu (bin Tryz.prog .neq 3 y42 y45) h) h) fun y46 h =>
  thenV (match y39 with | .bool t => some (if t then (.bool true) else y46, h) | _ => none) fun y47 h =>
  (match y47 with
  | .bool true =>
  thenV (some ((.bool false), h)) fun y4_1 h =>
  some (y4_1, h)
  | .bool false =>
  thenV (some ((.int .i64 0), h)) fun y5 h =>
  endL (iter (codeA Tryz.prog C (partOf Tryz.f45 [1, 1, 0, 1, 0, 0])) rounds (mkF 66 (up (bs [x0, x1]) [(2, y2), (3, y3), (4, y4), (5, y5), (6, y6), (7, y7), (8, y8), (9, y9), (10, y10), (11, y11), (12, y12), (13, y13), (14, y14), (15, y15), (16, y16), (17, y17), (18, y18), (19, y19), (20, y20), (21, y21), (22, y22), (23, y23), (24, y24), (25, y25), (26, y26), (27, y27), (28, y28), (29, y29), (30, y30), (31, y31), (32, y32), (33, y33), (34, y34), (35, y35), (36, y36), (37, y37), (38, y38), (39, y39), (40, y40), (41, y41), (42, y42), (43, y43), (44, y44), (45, y45), (46, y46), (47, y47)])) h) (resultsA Tryz.prog Tryz.f45.results.toList) (b45_6 C)
  | _ => none)
noncomputable def t45k45_4 (_C : CallF) (_x : Nat → Value) (h : Heap) : Out :=
  thenV (some ((.bool true), h)) fun y4 h =>
  some (y4, h)
noncomputable def t45l45_11010 (_C : CallF) (x : Nat → Value) (h : Heap) : Option (Ex × Env × Heap) :=
  thenV (some ((x 5), h)) fun y48 h =>
  thenV (pu (addP (x 2) 36) h) fun y49 h =>
  thenV (ld1 y49 h) fun y50 h =>
  thenV (pu (lenL y50) h) fun y51 h =>
  thenV (pu (bin Tryz.prog .lss 3 y48 y51) h) fun y52 h =>
  (match y52 with
  | .bool true =>
  thenV (pu (addP (x 2) 36) h) fun y55 h =>
  thenV (ld1 y55 h) fun y56 h =>
  thenV (some ((x 5), h)) fun y57 h =>
  thenV (pu (idxS 32 y56 y57) h) fun y58 h =>
  thenV (ldN 32 y58 h) fun y59 h =>
  thenV (pu (addP (x 3) 36) h) fun y60 h =>
  thenV (ld1 y60 h) fun y61 h =>
  thenV (some ((x 5), h)) fun y62 h =>
  thenV (pu (idxS 32 y61 y62) h) fun y63 h =>
  thenV (ldN 32 y63 h) fun y64 h =>
  thenV (pu (bin Tryz.prog .neq 28 y59 y64) h) fun y65 h =>
  (match y65 with
  | .bool true =>
  thenV (some ((.bool false), h)) fun y4 h =>
  some (.ret, (mkF 66 (up x [(4, y4), (48, y48), (49, y49), (50, y50), (51, y51), (52, y52), (55, y55), (56, y56), (57, y57), (58, y58), (59, y59), (60, y60), (61, y61), (62, y62), (63, y63), (64, y64), (65, y65)])), h)
  | .bool false =>
  thenV (some ((x 5), h)) fun y53 h =>
  thenV (pu (bin Tryz.prog .add 3 y53 (.int .i64 1)) h) fun y54 h =>
  thenV (some (y54, h)) fun y5 h =>
  some (.normal, (mkF 66 (up x [(5, y5), (48, y48), (49, y49), (50, y50), (51, y51), (52, y52), (53, y53), (54, y54), (55, y55), (56, y56), (57, y57), (58, y58), (59, y59), (60, y60), (61, y61), (62, y62), (63, y63), (64, y64), (65, y65)])), h)
  | _ => none)
  | .bool false =>
  some (.exit 0, (mkF 66 (up x [(48, y48), (49, y49), (50, y50), (51, y51), (52, y52)])), h)
  | _ => none)
theorem t45_eq (C : CallF) (x0 x1 : Value) (h : Heap) : bodyK Tryz.prog C Tryz.f45 [x0, x1] h = t45 C x0 x1 h :=
  (bodyB_eq Tryz.prog C Tryz.f45 [x0, x1] h (by kernel_rfl)).trans (by kernel_rfl)
theorem t45k45_4_eq (C : CallF) (x : Nat → Value) (h : Heap) : k45_4 C (mkF 66 x) h = t45k45_4 C x h :=
  link_partF (b := (partOf Tryz.f45 [1, 1, 1])) (kE := (resultsA Tryz.prog Tryz.f45.results.toList)) (rE := (resultsA Tryz.prog Tryz.f45.results.toList)) (xE := (fun _ _ _ => none)) (T := t45k45_4 C) (fun x h => by kernel_rfl) x h
theorem t45l45_11010_eq (C : CallF) (x : Nat → Value) (h : Heap) : codeA Tryz.prog C (partOf Tryz.f45 [1, 1, 0, 1, 0, 0]) (mkF 66 x) h = t45l45_11010 C x h :=
  link_roundF (T := t45l45_11010 C) (fun x h => by kernel_rfl) x h

/-- stolon/wire.equalManifests -/
noncomputable def t56 (C : CallF) (x0 x1 : Value) (h : Heap) : Out :=
  thenV (box x0 h) fun y2 h =>
  thenV (box x1 h) fun y3 h =>
  thenV (some ((.bool false), h)) fun _y4 h =>
  thenV (pu (addP y2 0) h) fun y5 h =>
  thenV (ld1 y5 h) fun y6 h =>
  thenV (pu (addP y3 0) h) fun y7 h =>
  thenV (ld1 y7 h) fun y8 h =>
  thenV (pu (bin Tryz.prog .eql 3 y6 y8) h) fun y9 h =>
  thenV (some (y9, h)) fun y10 h =>
  thenV (guardK (bOf y10 == some true) (pu (addP y2 1) h) h) fun y11 h =>
  thenV (guardK (bOf y10 == some true) (ld1 y11 h) h) fun y12 h =>
  thenV (guardK (bOf y10 == some true) (pu (addP y3 1) h) h) fun y13 h =>
  thenV (guardK (bOf y10 == some true) (ld1 y13 h) h) fun y14 h =>
  thenV (guardK (bOf y10 == some true) (pu (bin Tryz.prog .eql 3 y12 y14) h) h) fun y15 h =>
  thenV (match y10 with | .bool t => some (if t then y15 else (.bool false), h) | _ => none) fun y16 h =>
  thenV (some (y16, h)) fun y17 h =>
  thenV (guardK (bOf y17 == some true) (pu (addP y2 2) h) h) fun y18 h =>
  thenV (guardK (bOf y17 == some true) (ld1 y18 h) h) fun y19 h =>
  thenV (guardK (bOf y17 == some true) (pu (addP y3 2) h) h) fun y20 h =>
  thenV (guardK (bOf y17 == some true) (ld1 y20 h) h) fun y21 h =>
  thenV (guardK (bOf y17 == some true) (pu (bin Tryz.prog .eql 3 y19 y21) h) h) fun y22 h =>
  thenV (match y17 with | .bool t => some (if t then y22 else (.bool false), h) | _ => none) fun y23 h =>
  thenV (some (y23, h)) fun y24 h =>
  thenV (guardK (bOf y24 == some true) (pu (addP y2 3) h) h) fun y25 h =>
  thenV (guardK (bOf y24 == some true) (ld1 y25 h) h) fun y26 h =>
  thenV (guardK (bOf y24 == some true) (pu (addP y3 3) h) h) fun y27 h =>
  thenV (guardK (bOf y24 == some true) (ld1 y27 h) h) fun y28 h =>
  thenV (guardK (bOf y24 == some true) (pu (bin Tryz.prog .eql 3 y26 y28) h) h) fun y29 h =>
  thenV (match y24 with | .bool t => some (if t then y29 else (.bool false), h) | _ => none) fun y30 h =>
  thenV (some (y30, h)) fun y31 h =>
  thenV (guardK (bOf y31 == some true) (pu (addP y2 4) h) h) fun y32 h =>
  thenV (guardK (bOf y31 == some true) (ldN 32 y32 h) h) fun y33 h =>
  thenV (guardK (bOf y31 == some true) (pu (addP y3 4) h) h) fun y34 h =>
  thenV (guardK (bOf y31 == some true) (ldN 32 y34 h) h) fun y35 h =>
  thenV (guardK (bOf y31 == some true) (pu (bin Tryz.prog .eql 28 y33 y35) h) h) fun y36 h =>
  thenV (match y31 with | .bool t => some (if t then y36 else (.bool false), h) | _ => none) fun y37 h =>
  thenV (some (y37, h)) fun y38 h =>
  thenV (guardK (bOf y38 == some true) (pu (addP y2 36) h) h) fun y39 h =>
  thenV (guardK (bOf y38 == some true) (ld1 y39 h) h) fun y40 h =>
  thenV (guardK (bOf y38 == some true) (pu (addP y3 36) h) h) fun y41 h =>
  thenV (guardK (bOf y38 == some true) (ld1 y41 h) h) fun y42 h =>
  thenV (guardK (bOf y38 == some true) (C 86 [y40, y42] h) h) fun y43 h =>
  thenV (match y38 with | .bool t => some (if t then y43 else (.bool false), h) | _ => none) fun y44 h =>
  thenV (some (y44, h)) fun y4_1 h =>
  some (y4_1, h)
theorem t56_eq (C : CallF) (x0 x1 : Value) (h : Heap) : bodyK Tryz.prog C Tryz.f56 [x0, x1] h = t56 C x0 x1 h :=
  (bodyB_eq Tryz.prog C Tryz.f56 [x0, x1] h (by kernel_rfl)).trans (by kernel_rfl)

/-- stolon/stolonref08.Same -/
noncomputable def t15 (C : CallF) (x0 x1 : Value) (h : Heap) : Out :=
  thenV (box x0 h) fun y2 h =>
  thenV (box x1 h) fun y3 h =>
  thenV (some ((.bool false), h)) fun _y4 h =>
  thenV (pu (addP y2 0) h) fun y5 h =>
  thenV (ld1 y5 h) fun y6 h =>
  thenV (pu (addP y3 0) h) fun y7 h =>
  thenV (ld1 y7 h) fun y8 h =>
  thenV (pu (bin Tryz.prog .neq 24 y6 y8) h) fun y9 h =>
  thenV (some (y9, h)) fun y10 h =>
  thenV (guardK (bOf y10 == some false) (pu (addP y2 1) h) h) fun y11 h =>
  thenV (guardK (bOf y10 == some false) (ld1 y11 h) h) fun y12 h =>
  thenV (guardK (bOf y10 == some false) (pu (addP y3 1) h) h) fun y13 h =>
  thenV (guardK (bOf y10 == some false) (ld1 y13 h) h) fun y14 h =>
  thenV (guardK (bOf y10 == some false) (pu (bin Tryz.prog .neq 3 y12 y14) h) h) fun y15 h =>
  thenV (match y10 with | .bool t => some (if t then (.bool true) else y15, h) | _ => none) fun y16 h =>
  thenV (some (y16, h)) fun y17 h =>
  thenV (guardK (bOf y17 == some false) (pu (addP y2 2) h) h) fun y18 h =>
  thenV (guardK (bOf y17 == some false) (ld1 y18 h) h) fun y19 h =>
  thenV (guardK (bOf y17 == some false) (pu (addP y3 2) h) h) fun y20 h =>
  thenV (guardK (bOf y17 == some false) (ld1 y20 h) h) fun y21 h =>
  thenV (guardK (bOf y17 == some false) (pu (bin Tryz.prog .neq 3 y19 y21) h) h) fun y22 h =>
  thenV (match y17 with | .bool t => some (if t then (.bool true) else y22, h) | _ => none) fun y23 h =>
  thenV (some (y23, h)) fun y24 h =>
  thenV (guardK (bOf y24 == some false) (pu (addP y2 3) h) h) fun y25 h =>
  thenV (guardK (bOf y24 == some false) (ld1 y25 h) h) fun y26 h =>
  thenV (guardK (bOf y24 == some false) (pu (addP y3 3) h) h) fun y27 h =>
  thenV (guardK (bOf y24 == some false) (ld1 y27 h) h) fun y28 h =>
  thenV (guardK (bOf y24 == some false) (pu (bin Tryz.prog .neq 25 y26 y28) h) h) fun y29 h =>
  thenV (match y24 with | .bool t => some (if t then (.bool true) else y29, h) | _ => none) fun y30 h =>
  thenV (some (y30, h)) fun y31 h =>
  thenV (guardK (bOf y31 == some false) (pu (addP y2 4) h) h) fun y32 h =>
  thenV (guardK (bOf y31 == some false) (ld1 y32 h) h) fun y33 h =>
  thenV (guardK (bOf y31 == some false) (pu (addP y3 4) h) h) fun y34 h =>
  thenV (guardK (bOf y31 == some false) (ld1 y34 h) h) fun y35 h =>
  thenV (guardK (bOf y31 == some false) (pu (bin Tryz.prog .neq 3 y33 y35) h) h) fun y36 h =>
  thenV (match y31 with | .bool t => some (if t then (.bool true) else y36, h) | _ => none) fun y37 h =>
  thenV (some (y37, h)) fun y38 h =>
  thenV (guardK (bOf y38 == some false) (pu (addP y2 5) h) h) fun y39 h =>
  thenV (guardK (bOf y38 == some false) (ld1 y39 h) h) fun y40 h =>
  thenV (guardK (bOf y38 == some false) (pu (addP y3 5) h) h) fun y41 h =>
  thenV (guardK (bOf y38 == some false) (ld1 y41 h) h) fun y42 h =>
  thenV (guardK (bOf y38 == some false) (pu (bin Tryz.prog .neq 3 y40 y42) h) h) fun y43 h =>
  thenV (match y38 with | .bool t => some (if t then (.bool true) else y43, h) | _ => none) fun y44 h =>
  thenV (some (y44, h)) fun y45 h =>
  thenV (guardK (bOf y45 == some false) (pu (addP y2 6) h) h) fun y46 h =>
  thenV (guardK (bOf y45 == some false) (ld1 y46 h) h) fun y47 h =>
  thenV (guardK (bOf y45 == some false) (pu (addP y3 6) h) h) fun y48 h =>
  thenV (guardK (bOf y45 == some false) (ld1 y48 h) h) fun y49 h =>
  thenV (guardK (bOf y45 == some false) (C 43 [y47, y49] h) h) fun y50 h =>
  thenV (guardK (bOf y45 == some false) (pu (unA .not y50) h) h) fun y51 h =>
  thenV (match y45 with | .bool t => some (if t then (.bool true) else y51, h) | _ => none) fun y52 h =>
  (match y52 with
  | .bool true =>
  thenV (some ((.bool false), h)) fun y4_1 h =>
  some (y4_1, h)
  | .bool false =>
  thenV (pu (addP y2 7) h) fun y53 h =>
  thenV (ld1 y53 h) fun y54 h =>
  thenV (cvBS y54 h) fun y55 h =>
  thenV (pu (addP y3 7) h) fun y56 h =>
  thenV (ld1 y56 h) fun y57 h =>
  thenV (cvBS y57 h) fun y58 h =>
  thenV (pu (bin Tryz.prog .neq 9 y55 y58) h) fun y59 h =>
  thenV (some (y59, h)) fun y60 h =>
  thenV (guardK (bOf y60 == some false) (pu (addP y2 8) h) h) fun y61 h =>
  thenV (guardK (bOf y60 == some false) (ld1 y61 h) h) fun y62 h =>
  thenV (guardK (bOf y60 == some false) (cvBS y62 h) h) fun y63 h =>
  thenV (guardK (bOf y60 == some false) (pu (addP y3 8) h) h) fun y64 h =>
  thenV (guardK (bOf y60 == some false) (ld1 y64 h) h) fun y65 h =>
  thenV (guardK (bOf y60 == some false) (cvBS y65 h) h) fun y66 h =>
  thenV (guardK (bOf y60 == some false) (pu (bin Tryz.prog .neq 9 y63 y66) h) h) fun y67 h =>
  thenV (match y60 with | .bool t => some (if t then (.bool true) else y67, h) | _ => none) fun y68 h =>
  thenV (some (y68, h)) fun y69 h =>
  thenV (guardK (bOf y69 == some false) (pu (addP y2 9) h) h) fun y70 h =>
  thenV (guardK (bOf y69 == some false) (ld1 y70 h) h) fun y71 h =>
  thenV (guardK (bOf y69 == some false) (pu (addP y3 9) h) h) fun y72 h =>
  thenV (guardK (bOf y69 == some false) (ld1 y72 h) h) fun y73 h =>
  thenV (guardK (bOf y69 == some false) (pu (bin Tryz.prog .neq 3 y71 y73) h) h) fun y74 h =>
  thenV (match y69 with | .bool t => some (if t then (.bool true) else y74, h) | _ => none) fun y75 h =>
  thenV (some (y75, h)) fun y76 h =>
  thenV (guardK (bOf y76 == some false) (pu (addP y2 10) h) h) fun y77 h =>
  thenV (guardK (bOf y76 == some false) (ldN 32 y77 h) h) fun y78 h =>
  thenV (guardK (bOf y76 == some false) (pu (addP y3 10) h) h) fun y79 h =>
  thenV (guardK (bOf y76 == some false) (ldN 32 y79 h) h) fun y80 h =>
  thenV (guardK (bOf y76 == some false) (pu (bin Tryz.prog .neq 28 y78 y80) h) h) fun y81 h =>
  thenV (match y76 with | .bool t => some (if t then (.bool true) else y81, h) | _ => none) fun y82 h =>
  thenV (some (y82, h)) fun y83 h =>
  thenV (guardK (bOf y83 == some false) (pu (addP y2 42) h) h) fun y84 h =>
  thenV (guardK (bOf y83 == some false) (ld1 y84 h) h) fun y85 h =>
  thenV (guardK (bOf y83 == some false) (pu (addP y3 42) h) h) fun y86 h =>
  thenV (guardK (bOf y83 == some false) (ld1 y86 h) h) fun y87 h =>
  thenV (guardK (bOf y83 == some false) (C 44 [y85, y87] h) h) fun y88 h =>
  thenV (guardK (bOf y83 == some false) (pu (unA .not y88) h) h) fun y89 h =>
  thenV (match y83 with | .bool t => some (if t then (.bool true) else y89, h) | _ => none) fun y90 h =>
  thenV (some (y90, h)) fun y91 h =>
  thenV (guardK (bOf y91 == some false) (pu (addP y2 43) h) h) fun y92 h =>
  thenV (guardK (bOf y91 == some false) (ld1 y92 h) h) fun y93 h =>
  thenV (guardK (bOf y91 == some false) (pu (addP y3 43) h) h) fun y94 h =>
  thenV (guardK (bOf y91 == some false) (ld1 y94 h) h) fun y95 h =>
  thenV (guardK (bOf y91 == some false) (pu (bin Tryz.prog .neq 4 y93 y95) h) h) fun y96 h =>
  thenV (match y91 with | .bool t => some (if t then (.bool true) else y96, h) | _ => none) fun y97 h =>
  (match y97 with
  | .bool true =>
  thenV (some ((.bool false), h)) fun y4_1 h =>
  some (y4_1, h)
  | .bool false =>
  thenV (pu (addP y2 44) h) fun y98 h =>
  thenV (ldN 32 y98 h) fun y99 h =>
  thenV (pu (addP y3 44) h) fun y100 h =>
  thenV (ldN 32 y100 h) fun y101 h =>
  thenV (pu (bin Tryz.prog .eql 28 y99 y101) h) fun y102 h =>
  thenV (some (y102, h)) fun y103 h =>
  thenV (guardK (bOf y103 == some true) (pu (addP y2 76) h) h) fun y104 h =>
  thenV (guardK (bOf y103 == some true) (ldN 37 y104 h) h) fun y105 h =>
  thenV (guardK (bOf y103 == some true) (pu (addP y3 76) h) h) fun y106 h =>
  thenV (guardK (bOf y103 == some true) (ldN 37 y106 h) h) fun y107 h =>
  thenV (guardK (bOf y103 == some true) (C 45 [y105, y107] h) h) fun y108 h =>
  thenV (match y103 with | .bool t => some (if t then y108 else (.bool false), h) | _ => none) fun y109 h =>
  thenV (some (y109, h)) fun y110 h =>
  thenV (guardK (bOf y110 == some true) (pu (addP y2 113) h) h) fun y111 h =>
  thenV (guardK (bOf y110 == some true) (pu (addP y111 0) h) h) fun y112 h =>
  thenV (guardK (bOf y110 == some true) (ld1 y112 h) h) fun y113 h =>
  thenV (guardK (bOf y110 == some true) (pu (addP y3 113) h) h) fun y114 h =>
  thenV (guardK (bOf y110 == some true) (pu (addP y114 0) h) h) fun y115 h =>
  thenV (guardK (bOf y110 == some true) (ld1 y115 h) h) fun y116 h =>
  thenV (guardK (bOf y110 == some true) (pu (bin Tryz.prog .eql 3 y113 y116) h) h) fun y117 h =>
  thenV (match y110 with | .bool t => some (if t then y117 else (.bool false), h) | _ => none) fun y118 h =>
  thenV (some (y118, h)) fun y119 h =>
  thenV (guardK (bOf y119 == some true) (pu (addP y2 113) h) h) fun y120 h =>
  thenV (guardK (bOf y119 == some true) (pu (addP y120 1) h) h) fun y121 h =>
  thenV (guardK (bOf y119 == some true) (ld1 y121 h) h) fun y122 h =>
  thenV (guardK (bOf y119 == some true) (cvBS y122 h) h) fun y123 h =>
  thenV (guardK (bOf y119 == some true) (pu (addP y3 113) h) h) fun y124 h =>
  thenV (guardK (bOf y119 == some true) (pu (addP y124 1) h) h) fun y125 h =>
  thenV (guardK (bOf y119 == some true) (ld1 y125 h) h) fun y126 h =>
  thenV (guardK (bOf y119 == some true) (cvBS y126 h) h) fun y127 h =>
  thenV (guardK (bOf y119 == some true) (pu (bin Tryz.prog .eql 9 y123 y127) h) h) fun y128 h =>
  thenV (match y119 with | .bool t => some (if t then y128 else (.bool false), h) | _ => none) fun y129 h =>
  thenV (some (y129, h)) fun y130 h =>
  thenV (guardK (bOf y130 == some true) (pu (addP y2 115) h) h) fun y131 h =>
  thenV (guardK (bOf y130 == some true) (ld1 y131 h) h) fun y132 h =>
  thenV (guardK (bOf y130 == some true) (pu (addP y3 115) h) h) fun y133 h =>
  thenV (guardK (bOf y130 == some true) (ld1 y133 h) h) fun y134 h =>
  thenV (guardK (bOf y130 == some true) (pu (bin Tryz.prog .eql 35 y132 y134) h) h) fun y135 h =>
  thenV (match y130 with | .bool t => some (if t then y135 else (.bool false), h) | _ => none) fun y136 h =>
  thenV (some (y136, h)) fun y4_1 h =>
  some (y4_1, h)
  | _ => none)
  | _ => none)
theorem t15_eq (C : CallF) (x0 x1 : Value) (h : Heap) : bodyK Tryz.prog C Tryz.f15 [x0, x1] h = t15 C x0 x1 h :=
  (bodyB_eq Tryz.prog C Tryz.f15 [x0, x1] h (by kernel_rfl)).trans (by kernel_rfl)

/-- stolon/wire.Equal -/
noncomputable def t22 (C : CallF) (x0 x1 : Value) (h : Heap) : Out :=
  thenV (box x0 h) fun y2 h =>
  thenV (box x1 h) fun y3 h =>
  thenV (some ((.bool false), h)) fun _y4 h =>
  thenV (pu (addP y2 0) h) fun y5 h =>
  thenV (ld1 y5 h) fun y6 h =>
  thenV (pu (addP y3 0) h) fun y7 h =>
  thenV (ld1 y7 h) fun y8 h =>
  thenV (pu (bin Tryz.prog .eql 24 y6 y8) h) fun y9 h =>
  thenV (some (y9, h)) fun y10 h =>
  thenV (guardK (bOf y10 == some true) (pu (addP y2 1) h) h) fun y11 h =>
  thenV (guardK (bOf y10 == some true) (ld1 y11 h) h) fun y12 h =>
  thenV (guardK (bOf y10 == some true) (pu (addP y3 1) h) h) fun y13 h =>
  thenV (guardK (bOf y10 == some true) (ld1 y13 h) h) fun y14 h =>
  thenV (guardK (bOf y10 == some true) (pu (bin Tryz.prog .eql 3 y12 y14) h) h) fun y15 h =>
  thenV (match y10 with | .bool t => some (if t then y15 else (.bool false), h) | _ => none) fun y16 h =>
  thenV (some (y16, h)) fun y17 h =>
  thenV (guardK (bOf y17 == some true) (pu (addP y2 2) h) h) fun y18 h =>
  thenV (guardK (bOf y17 == some true) (ld1 y18 h) h) fun y19 h =>
  thenV (guardK (bOf y17 == some true) (pu (addP y3 2) h) h) fun y20 h =>
  thenV (guardK (bOf y17 == some true) (ld1 y20 h) h) fun y21 h =>
  thenV (guardK (bOf y17 == some true) (pu (bin Tryz.prog .eql 3 y19 y21) h) h) fun y22 h =>
  thenV (match y17 with | .bool t => some (if t then y22 else (.bool false), h) | _ => none) fun y23 h =>
  thenV (some (y23, h)) fun y24 h =>
  thenV (guardK (bOf y24 == some true) (pu (addP y2 3) h) h) fun y25 h =>
  thenV (guardK (bOf y24 == some true) (ld1 y25 h) h) fun y26 h =>
  thenV (guardK (bOf y24 == some true) (pu (addP y3 3) h) h) fun y27 h =>
  thenV (guardK (bOf y24 == some true) (ld1 y27 h) h) fun y28 h =>
  thenV (guardK (bOf y24 == some true) (pu (bin Tryz.prog .eql 25 y26 y28) h) h) fun y29 h =>
  thenV (match y24 with | .bool t => some (if t then y29 else (.bool false), h) | _ => none) fun y30 h =>
  thenV (some (y30, h)) fun y31 h =>
  thenV (guardK (bOf y31 == some true) (pu (addP y2 4) h) h) fun y32 h =>
  thenV (guardK (bOf y31 == some true) (ld1 y32 h) h) fun y33 h =>
  thenV (guardK (bOf y31 == some true) (pu (addP y3 4) h) h) fun y34 h =>
  thenV (guardK (bOf y31 == some true) (ld1 y34 h) h) fun y35 h =>
  thenV (guardK (bOf y31 == some true) (pu (bin Tryz.prog .eql 3 y33 y35) h) h) fun y36 h =>
  thenV (match y31 with | .bool t => some (if t then y36 else (.bool false), h) | _ => none) fun y37 h =>
  thenV (some (y37, h)) fun y38 h =>
  thenV (guardK (bOf y38 == some true) (pu (addP y2 5) h) h) fun y39 h =>
  thenV (guardK (bOf y38 == some true) (ld1 y39 h) h) fun y40 h =>
  thenV (guardK (bOf y38 == some true) (pu (addP y3 5) h) h) fun y41 h =>
  thenV (guardK (bOf y38 == some true) (ld1 y41 h) h) fun y42 h =>
  thenV (guardK (bOf y38 == some true) (pu (bin Tryz.prog .eql 3 y40 y42) h) h) fun y43 h =>
  thenV (match y38 with | .bool t => some (if t then y43 else (.bool false), h) | _ => none) fun y44 h =>
  thenV (some (y44, h)) fun y45 h =>
  thenV (guardK (bOf y45 == some true) (pu (addP y2 6) h) h) fun y46 h =>
  thenV (guardK (bOf y45 == some true) (ld1 y46 h) h) fun y47 h =>
  thenV (guardK (bOf y45 == some true) (pu (addP y3 6) h) h) fun y48 h =>
  thenV (guardK (bOf y45 == some true) (ld1 y48 h) h) fun y49 h =>
  thenV (guardK (bOf y45 == some true) (C 53 [y47, y49] h) h) fun y50 h =>
  thenV (match y45 with | .bool t => some (if t then y50 else (.bool false), h) | _ => none) fun y51 h =>
  thenV (some (y51, h)) fun y52 h =>
  thenV (guardK (bOf y52 == some true) (pu (addP y2 7) h) h) fun y53 h =>
  thenV (guardK (bOf y52 == some true) (ld1 y53 h) h) fun y54 h =>
  thenV (guardK (bOf y52 == some true) (pu (addP y3 7) h) h) fun y55 h =>
  thenV (guardK (bOf y52 == some true) (ld1 y55 h) h) fun y56 h =>
  thenV (guardK (bOf y52 == some true) (C 54 [y54, y56] h) h) fun y57 h =>
  thenV (match y52 with | .bool t => some (if t then y57 else (.bool false), h) | _ => none) fun y58 h =>
  thenV (some (y58, h)) fun y59 h =>
  thenV (guardK (bOf y59 == some true) (pu (addP y2 8) h) h) fun y60 h =>
  thenV (guardK (bOf y59 == some true) (ld1 y60 h) h) fun y61 h =>
  thenV (guardK (bOf y59 == some true) (pu (addP y3 8) h) h) fun y62 h =>
  thenV (guardK (bOf y59 == some true) (ld1 y62 h) h) fun y63 h =>
  thenV (guardK (bOf y59 == some true) (C 54 [y61, y63] h) h) fun y64 h =>
  thenV (match y59 with | .bool t => some (if t then y64 else (.bool false), h) | _ => none) fun y65 h =>
  thenV (some (y65, h)) fun y66 h =>
  thenV (guardK (bOf y66 == some true) (pu (addP y2 9) h) h) fun y67 h =>
  thenV (guardK (bOf y66 == some true) (ld1 y67 h) h) fun y68 h =>
  thenV (guardK (bOf y66 == some true) (pu (addP y3 9) h) h) fun y69 h =>
  thenV (guardK (bOf y66 == some true) (ld1 y69 h) h) fun y70 h =>
  thenV (guardK (bOf y66 == some true) (pu (bin Tryz.prog .eql 3 y68 y70) h) h) fun y71 h =>
  thenV (match y66 with | .bool t => some (if t then y71 else (.bool false), h) | _ => none) fun y72 h =>
  thenV (some (y72, h)) fun y73 h =>
  thenV (guardK (bOf y73 == some true) (pu (addP y2 10) h) h) fun y74 h =>
  thenV (guardK (bOf y73 == some true) (ldN 32 y74 h) h) fun y75 h =>
  thenV (guardK (bOf y73 == some true) (pu (addP y3 10) h) h) fun y76 h =>
  thenV (guardK (bOf y73 == some true) (ldN 32 y76 h) h) fun y77 h =>
  thenV (guardK (bOf y73 == some true) (pu (bin Tryz.prog .eql 28 y75 y77) h) h) fun y78 h =>
  thenV (match y73 with | .bool t => some (if t then y78 else (.bool false), h) | _ => none) fun y79 h =>
  thenV (some (y79, h)) fun y80 h =>
  thenV (guardK (bOf y80 == some true) (pu (addP y2 42) h) h) fun y81 h =>
  thenV (guardK (bOf y80 == some true) (ld1 y81 h) h) fun y82 h =>
  thenV (guardK (bOf y80 == some true) (pu (addP y3 42) h) h) fun y83 h =>
  thenV (guardK (bOf y80 == some true) (ld1 y83 h) h) fun y84 h =>
  thenV (guardK (bOf y80 == some true) (C 55 [y82, y84] h) h) fun y85 h =>
  thenV (match y80 with | .bool t => some (if t then y85 else (.bool false), h) | _ => none) fun y86 h =>
  thenV (some (y86, h)) fun y87 h =>
  thenV (guardK (bOf y87 == some true) (pu (addP y2 43) h) h) fun y88 h =>
  thenV (guardK (bOf y87 == some true) (ld1 y88 h) h) fun y89 h =>
  thenV (guardK (bOf y87 == some true) (pu (addP y3 43) h) h) fun y90 h =>
  thenV (guardK (bOf y87 == some true) (ld1 y90 h) h) fun y91 h =>
  thenV (guardK (bOf y87 == some true) (pu (bin Tryz.prog .eql 4 y89 y91) h) h) fun y92 h =>
  thenV (match y87 with | .bool t => some (if t then y92 else (.bool false), h) | _ => none) fun y93 h =>
  thenV (some (y93, h)) fun y94 h =>
  thenV (guardK (bOf y94 == some true) (pu (addP y2 44) h) h) fun y95 h =>
  thenV (guardK (bOf y94 == some true) (ldN 32 y95 h) h) fun y96 h =>
  thenV (guardK (bOf y94 == some true) (pu (addP y3 44) h) h) fun y97 h =>
  thenV (guardK (bOf y94 == some true) (ldN 32 y97 h) h) fun y98 h =>
  thenV (guardK (bOf y94 == some true) (pu (bin Tryz.prog .eql 28 y96 y98) h) h) fun y99 h =>
  thenV (match y94 with | .bool t => some (if t then y99 else (.bool false), h) | _ => none) fun y100 h =>
  thenV (some (y100, h)) fun y101 h =>
  thenV (guardK (bOf y101 == some true) (pu (addP y2 76) h) h) fun y102 h =>
  thenV (guardK (bOf y101 == some true) (ldN 37 y102 h) h) fun y103 h =>
  thenV (guardK (bOf y101 == some true) (pu (addP y3 76) h) h) fun y104 h =>
  thenV (guardK (bOf y101 == some true) (ldN 37 y104 h) h) fun y105 h =>
  thenV (guardK (bOf y101 == some true) (C 56 [y103, y105] h) h) fun y106 h =>
  thenV (match y101 with | .bool t => some (if t then y106 else (.bool false), h) | _ => none) fun y107 h =>
  thenV (some (y107, h)) fun y108 h =>
  thenV (guardK (bOf y108 == some true) (pu (addP y2 113) h) h) fun y109 h =>
  thenV (guardK (bOf y108 == some true) (pu (addP y109 0) h) h) fun y110 h =>
  thenV (guardK (bOf y108 == some true) (ld1 y110 h) h) fun y111 h =>
  thenV (guardK (bOf y108 == some true) (pu (addP y3 113) h) h) fun y112 h =>
  thenV (guardK (bOf y108 == some true) (pu (addP y112 0) h) h) fun y113 h =>
  thenV (guardK (bOf y108 == some true) (ld1 y113 h) h) fun y114 h =>
  thenV (guardK (bOf y108 == some true) (pu (bin Tryz.prog .eql 3 y111 y114) h) h) fun y115 h =>
  thenV (match y108 with | .bool t => some (if t then y115 else (.bool false), h) | _ => none) fun y116 h =>
  thenV (some (y116, h)) fun y117 h =>
  thenV (guardK (bOf y117 == some true) (pu (addP y2 113) h) h) fun y118 h =>
  thenV (guardK (bOf y117 == some true) (pu (addP y118 1) h) h) fun y119 h =>
  thenV (guardK (bOf y117 == some true) (ld1 y119 h) h) fun y120 h =>
  thenV (guardK (bOf y117 == some true) (pu (addP y3 113) h) h) fun y121 h =>
  thenV (guardK (bOf y117 == some true) (pu (addP y121 1) h) h) fun y122 h =>
  thenV (guardK (bOf y117 == some true) (ld1 y122 h) h) fun y123 h =>
  thenV (guardK (bOf y117 == some true) (C 54 [y120, y123] h) h) fun y124 h =>
  thenV (match y117 with | .bool t => some (if t then y124 else (.bool false), h) | _ => none) fun y125 h =>
  thenV (some (y125, h)) fun y126 h =>
  thenV (guardK (bOf y126 == some true) (pu (addP y2 115) h) h) fun y127 h =>
  thenV (guardK (bOf y126 == some true) (ld1 y127 h) h) fun y128 h =>
  thenV (guardK (bOf y126 == some true) (pu (addP y3 115) h) h) fun y129 h =>
  thenV (guardK (bOf y126 == some true) (ld1 y129 h) h) fun y130 h =>
  thenV (guardK (bOf y126 == some true) (pu (bin Tryz.prog .eql 35 y128 y130) h) h) fun y131 h =>
  thenV (match y126 with | .bool t => some (if t then y131 else (.bool false), h) | _ => none) fun y132 h =>
  thenV (some (y132, h)) fun y4_1 h =>
  some (y4_1, h)
theorem t22_eq (C : CallF) (x0 x1 : Value) (h : Heap) : bodyK Tryz.prog C Tryz.f22 [x0, x1] h = t22 C x0 x1 h :=
  (bodyB_eq Tryz.prog C Tryz.f22 [x0, x1] h (by kernel_rfl)).trans (by kernel_rfl)

/-- stolon/stolonlaw08.large -/
noncomputable def t18 (_C : CallF) (x0 : Value) (h : Heap) : Out :=
  thenV (box x0 h) fun y1 h =>
  thenV (some ((.bool false), h)) fun _y2 h =>
  thenV (pu (addP y1 6) h) fun y3 h =>
  thenV (ld1 y3 h) fun y4 h =>
  thenV (pu (lenL y4) h) fun y5 h =>
  thenV (pu (bin Tryz.prog .gtr 3 y5 (.int .i64 40)) h) fun y6 h =>
  thenV (some (y6, h)) fun y7 h =>
  thenV (guardK (bOf y7 == some false) (pu (addP y1 7) h) h) fun y8 h =>
  thenV (guardK (bOf y7 == some false) (ld1 y8 h) h) fun y9 h =>
  thenV (guardK (bOf y7 == some false) (pu (lenL y9) h) h) fun y10 h =>
  thenV (guardK (bOf y7 == some false) (pu (bin Tryz.prog .gtr 3 y10 (.int .i64 100)) h) h) fun y11 h =>
  thenV (match y7 with | .bool t => some (if t then (.bool true) else y11, h) | _ => none) fun y12 h =>
  thenV (some (y12, h)) fun y13 h =>
  thenV (guardK (bOf y13 == some false) (pu (addP y1 8) h) h) fun y14 h =>
  thenV (guardK (bOf y13 == some false) (ld1 y14 h) h) fun y15 h =>
  thenV (guardK (bOf y13 == some false) (pu (lenL y15) h) h) fun y16 h =>
  thenV (guardK (bOf y13 == some false) (pu (bin Tryz.prog .gtr 3 y16 (.int .i64 100)) h) h) fun y17 h =>
  thenV (match y13 with | .bool t => some (if t then (.bool true) else y17, h) | _ => none) fun y18 h =>
  thenV (some (y18, h)) fun y19 h =>
  thenV (guardK (bOf y19 == some false) (pu (addP y1 42) h) h) fun y20 h =>
  thenV (guardK (bOf y19 == some false) (ld1 y20 h) h) fun y21 h =>
  thenV (guardK (bOf y19 == some false) (pu (lenL y21) h) h) fun y22 h =>
  thenV (guardK (bOf y19 == some false) (pu (bin Tryz.prog .gtr 3 y22 (.int .i64 100)) h) h) fun y23 h =>
  thenV (match y19 with | .bool t => some (if t then (.bool true) else y23, h) | _ => none) fun y24 h =>
  thenV (some (y24, h)) fun y25 h =>
  thenV (guardK (bOf y25 == some false) (pu (addP y1 76) h) h) fun y26 h =>
  thenV (guardK (bOf y25 == some false) (pu (addP y26 36) h) h) fun y27 h =>
  thenV (guardK (bOf y25 == some false) (ld1 y27 h) h) fun y28 h =>
  thenV (guardK (bOf y25 == some false) (pu (lenL y28) h) h) fun y29 h =>
  thenV (guardK (bOf y25 == some false) (pu (bin Tryz.prog .gtr 3 y29 (.int .i64 300)) h) h) fun y30 h =>
  thenV (match y25 with | .bool t => some (if t then (.bool true) else y30, h) | _ => none) fun y31 h =>
  thenV (some (y31, h)) fun y32 h =>
  thenV (guardK (bOf y32 == some false) (pu (addP y1 113) h) h) fun y33 h =>
  thenV (guardK (bOf y32 == some false) (pu (addP y33 1) h) h) fun y34 h =>
  thenV (guardK (bOf y32 == some false) (ld1 y34 h) h) fun y35 h =>
  thenV (guardK (bOf y32 == some false) (pu (lenL y35) h) h) fun y36 h =>
  thenV (guardK (bOf y32 == some false) (pu (bin Tryz.prog .gtr 3 y36 (.int .i64 9000)) h) h) fun y37 h =>
  thenV (match y32 with | .bool t => some (if t then (.bool true) else y37, h) | _ => none) fun y38 h =>
  thenV (some (y38, h)) fun y2_1 h =>
  some (y2_1, h)
theorem t18_eq (C : CallF) (x0 : Value) (h : Heap) : bodyK Tryz.prog C Tryz.f18 [x0] h = t18 C x0 h :=
  (bodyB_eq Tryz.prog C Tryz.f18 [x0] h (by kernel_rfl)).trans (by kernel_rfl)

/-- stolon/stolonlaw08.own -/
noncomputable def t20 (_C : CallF) (x0 : Value) (h : Heap) : Out :=
  thenV (box x0 h) fun y1 h =>
  thenV (newC [(.int .u8 0), (.int .i64 0), (.int .i64 0), (.int .u64 0), (.int .i64 0), (.int .i64 0), (.slice none 0 0), (.slice none 0 0), (.slice none 0 0), (.int .i64 0), (.int .u8 0), (.int .u8 0), (.int .u8 0), (.int .u8 0), (.int .u8 0), (.int .u8 0), (.int .u8 0), (.int .u8 0), (.int .u8 0), (.int .u8 0), (.int .u8 0), (.int .u8 0), (.int .u8 0), (.int .u8 0), (.int .u8 0), (.int .u8 0), (.int .u8 0), (.int .u8 0), (.int .u8 0), (.int .u8 0), (.int .u8 0), (.int .u8 0), (.int .u8 0), (.int .u8 0), (.int .u8 0), (.int .u8 0), (.int .u8 0), (.int .u8 0), (.int .u8 0), (.int .u8 0), (.int .u8 0), (.int .u8 0), (.slice none 0 0), (.bool false), (.int .u8 0), (.int .u8 0), (.int .u8 0), (.int .u8 0), (.int .u8 0), (.int .u8 0), (.int .u8 0), (.int .u8 0), (.int .u8 0), (.int .u8 0), (.int .u8 0), (.int .u8 0), (.int .u8 0), (.int .u8 0), (.int .u8 0), (.int .u8 0), (.int .u8 0), (.int .u8 0), (.int .u8 0), (.int .u8 0), (.int .u8 0), (.int .u8 0), (.int .u8 0), (.int .u8 0), (.int .u8 0), (.int .u8 0), (.int .u8 0), (.int .u8 0), (.int .u8 0), (.int .u8 0), (.int .u8 0), (.int .u8 0), (.int .i64 0), (.int .i64 0), (.int .i64 0), (.int .i64 0), (.int .u8 0), (.int .u8 0), (.int .u8 0), (.int .u8 0), (.int .u8 0), (.int .u8 0), (.int .u8 0), (.int .u8 0), (.int .u8 0), (.int .u8 0), (.int .u8 0), (.int .u8 0), (.int .u8 0), (.int .u8 0), (.int .u8 0), (.int .u8 0), (.int .u8 0), (.int .u8 0), (.int .u8 0), (.int .u8 0), (.int .u8 0), (.int .u8 0), (.int .u8 0), (.int .u8 0), (.int .u8 0), (.int .u8 0), (.int .u8 0), (.int .u8 0), (.int .u8 0), (.int .u8 0), (.int .u8 0), (.int .u8 0), (.slice none 0 0), (.int .i64 0), (.slice none 0 0), (.int .i64 0)] h) fun y2 h =>
  thenV (bslR 2 (.agg #[(.int .u64 0), (.int .u8 0)]) 0 [] h) fun y3 h =>
  thenV (pu (addP y1 6) h) fun y4 h =>
  thenV (ld1 y4 h) fun y5 h =>
  thenV (appendA 2 16 y3 y5 h) fun y6 h =>
  thenV (pu (addP y1 6) h) fun y7 h =>
  thenV (stN 1 y7 y6 h) fun _ h =>
  thenV (bslR 1 (.int .u8 0) 0 [] h) fun y8 h =>
  thenV (pu (addP y1 7) h) fun y9 h =>
  thenV (ld1 y9 h) fun y10 h =>
  thenV (appendA 1 1 y8 y10 h) fun y11 h =>
  thenV (pu (addP y1 7) h) fun y12 h =>
  thenV (stN 1 y12 y11 h) fun _ h =>
  thenV (bslR 1 (.int .u8 0) 0 [] h) fun y13 h =>
  thenV (pu (addP y1 8) h) fun y14 h =>
  thenV (ld1 y14 h) fun y15 h =>
  thenV (appendA 1 1 y13 y15 h) fun y16 h =>
  thenV (pu (addP y1 8) h) fun y17 h =>
  thenV (stN 1 y17 y16 h) fun _ h =>
  thenV (bslR 39 (.agg #[(.int .u8 0), (.int .u8 0), (.int .u8 0), (.int .u8 0), (.int .u8 0), (.int .u8 0), (.int .u8 0), (.int .u8 0), (.int .u8 0), (.int .u8 0), (.int .u8 0), (.int .u8 0), (.int .u8 0), (.int .u8 0), (.int .u8 0), (.int .u8 0), (.int .u8 0), (.int .u8 0), (.int .u8 0), (.int .u8 0), (.int .u8 0), (.int .u8 0), (.int .u8 0), (.int .u8 0), (.int .u8 0), (.int .u8 0), (.int .u8 0), (.int .u8 0), (.int .u8 0), (.int .u8 0), (.int .u8 0), (.int .u8 0), (.int .u8 0), (.int .i64 0), (.int .u64 0), (.int .u64 0), (.bool false), (.int .i64 0), (.int .i64 0)]) 0 [] h) fun y18 h =>
  thenV (pu (addP y1 42) h) fun y19 h =>
  thenV (ld1 y19 h) fun y20 h =>
  thenV (appendA 39 88 y18 y20 h) fun y21 h =>
  thenV (pu (addP y1 42) h) fun y22 h =>
  thenV (stN 1 y22 y21 h) fun _ h =>
  thenV (bslR 32 (.agg (List.replicate 32 (.int .u8 0)).toArray) 0 [] h) fun y23 h =>
  thenV (pu (addP y1 76) h) fun y24 h =>
  thenV (pu (addP y24 36) h) fun y25 h =>
  thenV (ld1 y25 h) fun y26 h =>
  thenV (appendA 32 32 y23 y26 h) fun y27 h =>
  thenV (pu (addP y1 76) h) fun y28 h =>
  thenV (pu (addP y28 36) h) fun y29 h =>
  thenV (stN 1 y29 y27 h) fun _ h =>
  thenV (bslR 1 (.int .u8 0) 0 [] h) fun y30 h =>
  thenV (pu (addP y1 113) h) fun y31 h =>
  thenV (pu (addP y31 1) h) fun y32 h =>
  thenV (ld1 y32 h) fun y33 h =>
  thenV (appendA 1 1 y30 y33 h) fun y34 h =>
  thenV (pu (addP y1 113) h) fun y35 h =>
  thenV (pu (addP y35 1) h) fun y36 h =>
  thenV (stN 1 y36 y34 h) fun _ h =>
  thenV (ldN 116 y1 h) fun y37 h =>
  thenV (stN 116 y2 y37 h) fun _ h =>
  resultsA Tryz.prog Tryz.f20.results.toList (mkF 38 (up (bs [x0]) [(1, y1), (2, y2), (3, y3), (4, y4), (5, y5), (6, y6), (7, y7), (8, y8), (9, y9), (10, y10), (11, y11), (12, y12), (13, y13), (14, y14), (15, y15), (16, y16), (17, y17), (18, y18), (19, y19), (20, y20), (21, y21), (22, y22), (23, y23), (24, y24), (25, y25), (26, y26), (27, y27), (28, y28), (29, y29), (30, y30), (31, y31), (32, y32), (33, y33), (34, y34), (35, y35), (36, y36), (37, y37)])) h
theorem t20_eq (C : CallF) (x0 : Value) (h : Heap) : bodyK Tryz.prog C Tryz.f20 [x0] h = t20 C x0 h :=
  (bodyB_eq Tryz.prog C Tryz.f20 [x0] h (by kernel_rfl)).trans (by kernel_rfl)

/-- stolon/wire.Clone -/
noncomputable def t28 (C : CallF) (x0 : Value) (h : Heap) : Out :=
  thenV (box x0 h) fun y1 h =>
  thenV (newC [(.int .u8 0), (.int .i64 0), (.int .i64 0), (.int .u64 0), (.int .i64 0), (.int .i64 0), (.slice none 0 0), (.slice none 0 0), (.slice none 0 0), (.int .i64 0), (.int .u8 0), (.int .u8 0), (.int .u8 0), (.int .u8 0), (.int .u8 0), (.int .u8 0), (.int .u8 0), (.int .u8 0), (.int .u8 0), (.int .u8 0), (.int .u8 0), (.int .u8 0), (.int .u8 0), (.int .u8 0), (.int .u8 0), (.int .u8 0), (.int .u8 0), (.int .u8 0), (.int .u8 0), (.int .u8 0), (.int .u8 0), (.int .u8 0), (.int .u8 0), (.int .u8 0), (.int .u8 0), (.int .u8 0), (.int .u8 0), (.int .u8 0), (.int .u8 0), (.int .u8 0), (.int .u8 0), (.int .u8 0), (.slice none 0 0), (.bool false), (.int .u8 0), (.int .u8 0), (.int .u8 0), (.int .u8 0), (.int .u8 0), (.int .u8 0), (.int .u8 0), (.int .u8 0), (.int .u8 0), (.int .u8 0), (.int .u8 0), (.int .u8 0), (.int .u8 0), (.int .u8 0), (.int .u8 0), (.int .u8 0), (.int .u8 0), (.int .u8 0), (.int .u8 0), (.int .u8 0), (.int .u8 0), (.int .u8 0), (.int .u8 0), (.int .u8 0), (.int .u8 0), (.int .u8 0), (.int .u8 0), (.int .u8 0), (.int .u8 0), (.int .u8 0), (.int .u8 0), (.int .u8 0), (.int .i64 0), (.int .i64 0), (.int .i64 0), (.int .i64 0), (.int .u8 0), (.int .u8 0), (.int .u8 0), (.int .u8 0), (.int .u8 0), (.int .u8 0), (.int .u8 0), (.int .u8 0), (.int .u8 0), (.int .u8 0), (.int .u8 0), (.int .u8 0), (.int .u8 0), (.int .u8 0), (.int .u8 0), (.int .u8 0), (.int .u8 0), (.int .u8 0), (.int .u8 0), (.int .u8 0), (.int .u8 0), (.int .u8 0), (.int .u8 0), (.int .u8 0), (.int .u8 0), (.int .u8 0), (.int .u8 0), (.int .u8 0), (.int .u8 0), (.int .u8 0), (.int .u8 0), (.int .u8 0), (.slice none 0 0), (.int .i64 0), (.slice none 0 0), (.int .i64 0)] h) fun y2 h =>
  let g2_0 := h
  thenV (pu (addP y1 6) g2_0) fun y3 g2_1 =>
  thenV (ld1 y3 g2_1) fun y4 g2_2 =>
  thenV (C 68 [y4] g2_2) fun y5 g2_3 =>
  thenV (pu (addP y1 7) g2_3) fun y6 g2_4 =>
  thenV (ld1 y6 g2_4) fun y7 g2_5 =>
  thenV (C 69 [y7] g2_5) fun y8 g2_6 =>
  thenV (pu (addP y1 8) g2_6) fun y9 g2_7 =>
  thenV (ld1 y9 g2_7) fun y10 g2_8 =>
  thenV (C 69 [y10] g2_8) fun y11 g2_9 =>
  thenV (pu (addP y1 6) g2_9) fun y12 g2_10 =>
  thenV (stN 1 y12 y5 g2_10) fun _ g2_11 =>
  thenV (pu (addP y1 7) g2_11) fun y13 g2_12 =>
  thenV (stN 1 y13 y8 g2_12) fun _ g2_13 =>
  thenV (pu (addP y1 8) g2_13) fun y14 g2_14 =>
  thenV (stN 1 y14 y11 g2_14) fun _ g2_15 =>
  (match (chkR true (ld1 y6 g2_2) y7 && (chkR true (ld1 y9 g2_2) y10 && (chkR true (ld1 y9 g2_5) y10 && true))) with
  | true =>
  let h := g2_15
  let g4_0 := h
  thenV (pu (addP y1 42) g4_0) fun y15 g4_1 =>
  thenV (ld1 y15 g4_1) fun y16 g4_2 =>
  thenV (C 70 [y16] g4_2) fun y17 g4_3 =>
  thenV (pu (addP y1 76) g4_3) fun y18 g4_4 =>
  thenV (pu (addP y18 36) g4_4) fun y19 g4_5 =>
  thenV (ld1 y19 g4_5) fun y20 g4_6 =>
  thenV (C 71 [y20] g4_6) fun y21 g4_7 =>
  thenV (pu (addP y1 113) g4_7) fun y22 g4_8 =>
  thenV (pu (addP y22 1) g4_8) fun y23 g4_9 =>
  thenV (ld1 y23 g4_9) fun y24 g4_10 =>
  thenV (C 69 [y24] g4_10) fun y25 g4_11 =>
  thenV (pu (addP y1 42) g4_11) fun y26 g4_12 =>
  thenV (stN 1 y26 y17 g4_12) fun _ g4_13 =>
  thenV (pu (addP y1 76) g4_13) fun y27 g4_14 =>
  thenV (pu (addP y27 36) g4_14) fun y28 g4_15 =>
  thenV (stN 1 y28 y21 g4_15) fun _ g4_16 =>
  thenV (pu (addP y1 113) g4_16) fun y29 g4_17 =>
  thenV (pu (addP y29 1) g4_17) fun y30 g4_18 =>
  thenV (stN 1 y30 y25 g4_18) fun _ g4_19 =>
  (match (chkR true (ld1 y19 g4_2) y20 && (chkR true (ld1 y23 g4_2) y24 && (chkR true (ld1 y23 g4_6) y24 && true))) with
  | true =>
  let h := g4_19
  thenV (ldN 116 y1 h) fun y31 h =>
  thenV (stN 116 y2 y31 h) fun _ h =>
  resultsA Tryz.prog Tryz.f28.results.toList (mkF 32 (up (bs [x0]) [(1, y1), (2, y2), (3, y3), (4, y4), (5, y5), (6, y6), (7, y7), (8, y8), (9, y9), (10, y10), (11, y11), (12, y12), (13, y13), (14, y14), (15, y15), (16, y16), (17, y17), (18, y18), (19, y19), (20, y20), (21, y21), (22, y22), (23, y23), (24, y24), (25, y25), (26, y26), (27, y27), (28, y28), (29, y29), (30, y30), (31, y31)])) h
  | false => none)
  | false => none)
theorem t28_eq (C : CallF) (x0 : Value) (h : Heap) : bodyK Tryz.prog C Tryz.f28 [x0] h = t28 C x0 h :=
  (bodyB_eq Tryz.prog C Tryz.f28 [x0] h (by kernel_rfl)).trans (by kernel_rfl)

/-- slices.Clone[[]stolon/api.Member,stolon/api.Member] -/
noncomputable def t68 (_C : CallF) (x0 : Value) (h : Heap) : Out :=
  thenV (some ((.slice none 0 0), h)) fun _y2 h =>
  thenV (some (x0, h)) fun y3 h =>
  thenV (pu (bin Tryz.prog .eql 26 y3 (.slice none 0 0)) h) fun y4 h =>
  (match y4 with
  | .bool true =>
  thenV (some ((.slice none 0 0), h)) fun y2_1 h =>
  some (y2_1, h)
  | .bool false =>
  thenV (bslR 2 (.agg #[(.int .u64 0), (.int .u8 0)]) 0 [] h) fun y5 h =>
  thenV (some (x0, h)) fun y6 h =>
  thenV (appendA 2 16 y5 y6 h) fun y7 h =>
  thenV (some (y7, h)) fun y2_1 h =>
  some (y2_1, h)
  | _ => none)
theorem t68_eq (C : CallF) (x0 : Value) (h : Heap) : bodyK Tryz.prog C Tryz.f68 [x0] h = t68 C x0 h :=
  (bodyB_eq Tryz.prog C Tryz.f68 [x0] h (by kernel_rfl)).trans (by kernel_rfl)

/-- slices.Clone[[]byte,byte] -/
noncomputable def t69 (_C : CallF) (x0 : Value) (h : Heap) : Out :=
  thenV (some ((.slice none 0 0), h)) fun _y2 h =>
  thenV (some (x0, h)) fun y3 h =>
  thenV (pu (bin Tryz.prog .eql 22 y3 (.slice none 0 0)) h) fun y4 h =>
  (match y4 with
  | .bool true =>
  thenV (some ((.slice none 0 0), h)) fun y2_1 h =>
  some (y2_1, h)
  | .bool false =>
  thenV (bslR 1 (.int .u8 0) 0 [] h) fun y5 h =>
  thenV (some (x0, h)) fun y6 h =>
  thenV (appendA 1 1 y5 y6 h) fun y7 h =>
  thenV (some (y7, h)) fun y2_1 h =>
  some (y2_1, h)
  | _ => none)
theorem t69_eq (C : CallF) (x0 : Value) (h : Heap) : bodyK Tryz.prog C Tryz.f69 [x0] h = t69 C x0 h :=
  (bodyB_eq Tryz.prog C Tryz.f69 [x0] h (by kernel_rfl)).trans (by kernel_rfl)

/-- slices.Clone[[]stolon/api.Record,stolon/api.Record] -/
noncomputable def t70 (_C : CallF) (x0 : Value) (h : Heap) : Out :=
  thenV (some ((.slice none 0 0), h)) fun _y2 h =>
  thenV (some (x0, h)) fun y3 h =>
  thenV (pu (bin Tryz.prog .eql 29 y3 (.slice none 0 0)) h) fun y4 h =>
  (match y4 with
  | .bool true =>
  thenV (some ((.slice none 0 0), h)) fun y2_1 h =>
  some (y2_1, h)
  | .bool false =>
  thenV (bslR 39 (.agg #[(.int .u8 0), (.int .u8 0), (.int .u8 0), (.int .u8 0), (.int .u8 0), (.int .u8 0), (.int .u8 0), (.int .u8 0), (.int .u8 0), (.int .u8 0), (.int .u8 0), (.int .u8 0), (.int .u8 0), (.int .u8 0), (.int .u8 0), (.int .u8 0), (.int .u8 0), (.int .u8 0), (.int .u8 0), (.int .u8 0), (.int .u8 0), (.int .u8 0), (.int .u8 0), (.int .u8 0), (.int .u8 0), (.int .u8 0), (.int .u8 0), (.int .u8 0), (.int .u8 0), (.int .u8 0), (.int .u8 0), (.int .u8 0), (.int .u8 0), (.int .i64 0), (.int .u64 0), (.int .u64 0), (.bool false), (.int .i64 0), (.int .i64 0)]) 0 [] h) fun y5 h =>
  thenV (some (x0, h)) fun y6 h =>
  thenV (appendA 39 88 y5 y6 h) fun y7 h =>
  thenV (some (y7, h)) fun y2_1 h =>
  some (y2_1, h)
  | _ => none)
theorem t70_eq (C : CallF) (x0 : Value) (h : Heap) : bodyK Tryz.prog C Tryz.f70 [x0] h = t70 C x0 h :=
  (bodyB_eq Tryz.prog C Tryz.f70 [x0] h (by kernel_rfl)).trans (by kernel_rfl)

/-- slices.Clone[[]stolon/api.Digest,stolon/api.Digest] -/
noncomputable def t71 (_C : CallF) (x0 : Value) (h : Heap) : Out :=
  thenV (some ((.slice none 0 0), h)) fun _y2 h =>
  thenV (some (x0, h)) fun y3 h =>
  thenV (pu (bin Tryz.prog .eql 30 y3 (.slice none 0 0)) h) fun y4 h =>
  (match y4 with
  | .bool true =>
  thenV (some ((.slice none 0 0), h)) fun y2_1 h =>
  some (y2_1, h)
  | .bool false =>
  thenV (bslR 32 (.agg (List.replicate 32 (.int .u8 0)).toArray) 0 [] h) fun y5 h =>
  thenV (some (x0, h)) fun y6 h =>
  thenV (appendA 32 32 y5 y6 h) fun y7 h =>
  thenV (some (y7, h)) fun y2_1 h =>
  some (y2_1, h)
  | _ => none)
theorem t71_eq (C : CallF) (x0 : Value) (h : Heap) : bodyK Tryz.prog C Tryz.f71 [x0] h = t71 C x0 h :=
  (bodyB_eq Tryz.prog C Tryz.f71 [x0] h (by kernel_rfl)).trans (by kernel_rfl)

noncomputable def k9_11 (C : CallF) (e : Env) (h : Heap) : Out := codeK Tryz.prog C (partOf Tryz.f9 [1, 1, 1, 1, 1, 1]) e h (resultsA Tryz.prog Tryz.f9.results.toList) (resultsA Tryz.prog Tryz.f9.results.toList) (fun _ _ _ => none)
noncomputable def b9_13 (C : CallF) (i : Nat) (e : Env) (h : Heap) : Out := if i = 0 then (k9_11 C) e h else (fun _ _ _ => none) i e h
noncomputable def k9_14 (C : CallF) (e : Env) (h : Heap) : Out := codeK Tryz.prog C (partOf Tryz.f9 [1, 1, 1, 1, 1, 1, 1]) e h (resultsA Tryz.prog Tryz.f9.results.toList) (resultsA Tryz.prog Tryz.f9.results.toList) (fun _ _ _ => none)
noncomputable def b9_16 (C : CallF) (i : Nat) (e : Env) (h : Heap) : Out := if i = 2 then (k9_14 C) e h else (fun _ _ _ => none) i e h
noncomputable def k9_21 (C : CallF) (e : Env) (h : Heap) : Out := codeK Tryz.prog C (partOf Tryz.f9 [1, 1, 1, 1, 1, 1, 1, 1]) e h (resultsA Tryz.prog Tryz.f9.results.toList) (resultsA Tryz.prog Tryz.f9.results.toList) (fun _ _ _ => none)
noncomputable def b9_23 (C : CallF) (i : Nat) (e : Env) (h : Heap) : Out := if i = 4 then (k9_21 C) e h else (fun _ _ _ => none) i e h
noncomputable def k9_28 (C : CallF) (e : Env) (h : Heap) : Out := codeK Tryz.prog C (partOf Tryz.f9 [1, 1, 1, 1, 1, 1, 1, 1, 1]) e h (resultsA Tryz.prog Tryz.f9.results.toList) (resultsA Tryz.prog Tryz.f9.results.toList) (fun _ _ _ => none)
noncomputable def b9_30 (C : CallF) (i : Nat) (e : Env) (h : Heap) : Out := if i = 6 then (k9_28 C) e h else (fun _ _ _ => none) i e h
noncomputable def k9_35 (C : CallF) (e : Env) (h : Heap) : Out := codeK Tryz.prog C (partOf Tryz.f9 [1, 1, 1, 1, 1, 1, 1, 1, 1, 1]) e h (resultsA Tryz.prog Tryz.f9.results.toList) (resultsA Tryz.prog Tryz.f9.results.toList) (fun _ _ _ => none)
noncomputable def b9_37 (C : CallF) (i : Nat) (e : Env) (h : Heap) : Out := if i = 8 then (k9_35 C) e h else (fun _ _ _ => none) i e h
noncomputable def k9_42 (C : CallF) (e : Env) (h : Heap) : Out := codeK Tryz.prog C (partOf Tryz.f9 [1, 1, 1, 1, 1, 1, 1, 1, 1, 1, 1]) e h (resultsA Tryz.prog Tryz.f9.results.toList) (resultsA Tryz.prog Tryz.f9.results.toList) (fun _ _ _ => none)
noncomputable def b9_44 (C : CallF) (i : Nat) (e : Env) (h : Heap) : Out := if i = 10 then (k9_42 C) e h else (fun _ _ _ => none) i e h
/-- stolon/stolonlaw08.WireEqual -/
noncomputable def t9 (C : CallF) (x0 x1 : Value) (h : Heap) : Out :=
  thenV (box x0 h) fun y2 h =>
  thenV (box x1 h) fun y3 h =>
  thenV (some ((.bool false), h)) fun y4 h =>
  thenV (ldN 116 y2 h) fun y14 h =>
  thenV (C 18 [y14] h) fun y15 h =>
  thenV (some (y15, h)) fun y16 h =>
  thenV (guardK (bOf y16 == some false) (ldN 116 y3 h) h) fun y17 h =>
  thenV (guardK (bOf y16 == some false) (C 18 [y17] h) h) fun y18 h =>
  thenV (match y16 with | .bool t => some (if t then (.bool true) else y18, h) | _ => none) fun y19 h =>
  (match y19 with
  | .bool true =>
  thenV (C 12 [] h) fun y20 h =>
  thenV (some (y20, h)) fun y4_1 h =>
  some (y4_1, h)
  | .bool false =>
  let g5_0 := h
  thenV (ldN 116 y2 g5_0) fun y21 g5_1 =>
  thenV (C 20 [y21] g5_1) fun y22 g5_2 =>
  thenV (ldN 116 y3 g5_2) fun y23 g5_3 =>
  thenV (C 20 [y23] g5_3) fun y24 g5_4 =>
  thenV (newC [(.int .u8 0), (.int .i64 0), (.int .i64 0), (.int .u64 0), (.int .i64 0), (.int .i64 0), (.slice none 0 0), (.slice none 0 0), (.slice none 0 0), (.int .i64 0), (.int .u8 0), (.int .u8 0), (.int .u8 0), (.int .u8 0), (.int .u8 0), (.int .u8 0), (.int .u8 0), (.int .u8 0), (.int .u8 0), (.int .u8 0), (.int .u8 0), (.int .u8 0), (.int .u8 0), (.int .u8 0), (.int .u8 0), (.int .u8 0), (.int .u8 0), (.int .u8 0), (.int .u8 0), (.int .u8 0), (.int .u8 0), (.int .u8 0), (.int .u8 0), (.int .u8 0), (.int .u8 0), (.int .u8 0), (.int .u8 0), (.int .u8 0), (.int .u8 0), (.int .u8 0), (.int .u8 0), (.int .u8 0), (.slice none 0 0), (.bool false), (.int .u8 0), (.int .u8 0), (.int .u8 0), (.int .u8 0), (.int .u8 0), (.int .u8 0), (.int .u8 0), (.int .u8 0), (.int .u8 0), (.int .u8 0), (.int .u8 0), (.int .u8 0), (.int .u8 0), (.int .u8 0), (.int .u8 0), (.int .u8 0), (.int .u8 0), (.int .u8 0), (.int .u8 0), (.int .u8 0), (.int .u8 0), (.int .u8 0), (.int .u8 0), (.int .u8 0), (.int .u8 0), (.int .u8 0), (.int .u8 0), (.int .u8 0), (.int .u8 0), (.int .u8 0), (.int .u8 0), (.int .u8 0), (.int .i64 0), (.int .i64 0), (.int .i64 0), (.int .i64 0), (.int .u8 0), (.int .u8 0), (.int .u8 0), (.int .u8 0), (.int .u8 0), (.int .u8 0), (.int .u8 0), (.int .u8 0), (.int .u8 0), (.int .u8 0), (.int .u8 0), (.int .u8 0), (.int .u8 0), (.int .u8 0), (.int .u8 0), (.int .u8 0), (.int .u8 0), (.int .u8 0), (.int .u8 0), (.int .u8 0), (.int .u8 0), (.int .u8 0), (.int .u8 0), (.int .u8 0), (.int .u8 0), (.int .u8 0), (.int .u8 0), (.int .u8 0), (.int .u8 0), (.int .u8 0), (.int .u8 0), (.int .u8 0), (.slice none 0 0), (.int .i64 0), (.slice none 0 0), (.int .i64 0)] g5_4) fun y5 g5_5 =>
  thenV (newC [(.int .u8 0), (.int .i64 0), (.int .i64 0), (.int .u64 0), (.int .i64 0), (.int .i64 0), (.slice none 0 0), (.slice none 0 0), (.slice none 0 0), (.int .i64 0), (.int .u8 0), (.int .u8 0), (.int .u8 0), (.int .u8 0), (.int .u8 0), (.int .u8 0), (.int .u8 0), (.int .u8 0), (.int .u8 0), (.int .u8 0), (.int .u8 0), (.int .u8 0), (.int .u8 0), (.int .u8 0), (.int .u8 0), (.int .u8 0), (.int .u8 0), (.int .u8 0), (.int .u8 0), (.int .u8 0), (.int .u8 0), (.int .u8 0), (.int .u8 0), (.int .u8 0), (.int .u8 0), (.int .u8 0), (.int .u8 0), (.int .u8 0), (.int .u8 0), (.int .u8 0), (.int .u8 0), (.int .u8 0), (.slice none 0 0), (.bool false), (.int .u8 0), (.int .u8 0), (.int .u8 0), (.int .u8 0), (.int .u8 0), (.int .u8 0), (.int .u8 0), (.int .u8 0), (.int .u8 0), (.int .u8 0), (.int .u8 0), (.int .u8 0), (.int .u8 0), (.int .u8 0), (.int .u8 0), (.int .u8 0), (.int .u8 0), (.int .u8 0), (.int .u8 0), (.int .u8 0), (.int .u8 0), (.int .u8 0), (.int .u8 0), (.int .u8 0), (.int .u8 0), (.int .u8 0), (.int .u8 0), (.int .u8 0), (.int .u8 0), (.int .u8 0), (.int .u8 0), (.int .u8 0), (.int .i64 0), (.int .i64 0), (.int .i64 0), (.int .i64 0), (.int .u8 0), (.int .u8 0), (.int .u8 0), (.int .u8 0), (.int .u8 0), (.int .u8 0), (.int .u8 0), (.int .u8 0), (.int .u8 0), (.int .u8 0), (.int .u8 0), (.int .u8 0), (.int .u8 0), (.int .u8 0), (.int .u8 0), (.int .u8 0), (.int .u8 0), (.int .u8 0), (.int .u8 0), (.int .u8 0), (.int .u8 0), (.int .u8 0), (.int .u8 0), (.int .u8 0), (.int .u8 0), (.int .u8 0), (.int .u8 0), (.int .u8 0), (.int .u8 0), (.int .u8 0), (.int .u8 0), (.int .u8 0), (.slice none 0 0), (.int .i64 0), (.slice none 0 0), (.int .i64 0)] g5_5) fun y6 g5_6 =>
  thenV (stN 116 y5 y22 g5_6) fun _ g5_7 =>
  thenV (stN 116 y6 y24 g5_7) fun _ g5_8 =>
  (match (chkR true (ldN 116 y3 g5_1) y23 && true) with
  | true =>
  let h := g5_8
  thenV (ldN 116 y5 h) fun y25 h =>
  thenV (C 28 [y25] h) fun y26 h =>
  thenV (newC [(.int .u8 0), (.int .i64 0), (.int .i64 0), (.int .u64 0), (.int .i64 0), (.int .i64 0), (.slice none 0 0), (.slice none 0 0), (.slice none 0 0), (.int .i64 0), (.int .u8 0), (.int .u8 0), (.int .u8 0), (.int .u8 0), (.int .u8 0), (.int .u8 0), (.int .u8 0), (.int .u8 0), (.int .u8 0), (.int .u8 0), (.int .u8 0), (.int .u8 0), (.int .u8 0), (.int .u8 0), (.int .u8 0), (.int .u8 0), (.int .u8 0), (.int .u8 0), (.int .u8 0), (.int .u8 0), (.int .u8 0), (.int .u8 0), (.int .u8 0), (.int .u8 0), (.int .u8 0), (.int .u8 0), (.int .u8 0), (.int .u8 0), (.int .u8 0), (.int .u8 0), (.int .u8 0), (.int .u8 0), (.slice none 0 0), (.bool false), (.int .u8 0), (.int .u8 0), (.int .u8 0), (.int .u8 0), (.int .u8 0), (.int .u8 0), (.int .u8 0), (.int .u8 0), (.int .u8 0), (.int .u8 0), (.int .u8 0), (.int .u8 0), (.int .u8 0), (.int .u8 0), (.int .u8 0), (.int .u8 0), (.int .u8 0), (.int .u8 0), (.int .u8 0), (.int .u8 0), (.int .u8 0), (.int .u8 0), (.int .u8 0), (.int .u8 0), (.int .u8 0), (.int .u8 0), (.int .u8 0), (.int .u8 0), (.int .u8 0), (.int .u8 0), (.int .u8 0), (.int .u8 0), (.int .i64 0), (.int .i64 0), (.int .i64 0), (.int .i64 0), (.int .u8 0), (.int .u8 0), (.int .u8 0), (.int .u8 0), (.int .u8 0), (.int .u8 0), (.int .u8 0), (.int .u8 0), (.int .u8 0), (.int .u8 0), (.int .u8 0), (.int .u8 0), (.int .u8 0), (.int .u8 0), (.int .u8 0), (.int .u8 0), (.int .u8 0), (.int .u8 0), (.int .u8 0), (.int .u8 0), (.int .u8 0), (.int .u8 0), (.int .u8 0), (.int .u8 0), (.int .u8 0), (.int .u8 0), (.int .u8 0), (.int .u8 0), (.int .u8 0), (.int .u8 0), (.int .u8 0), (.int .u8 0), (.slice none 0 0), (.int .i64 0), (.slice none 0 0), (.int .i64 0)] h) fun y7 h =>
  thenV (stN 116 y7 y26 h) fun _ h =>
  let g9_0 := h
  thenV (ldN 116 y5 g9_0) fun y27 g9_1 =>
  thenV (ldN 116 y6 g9_1) fun y28 g9_2 =>
  thenV (C 22 [y27, y28] g9_2) fun y29 g9_3 =>
  thenV (ldN 116 y2 g9_3) fun y30 g9_4 =>
  thenV (ldN 116 y3 g9_4) fun y31 g9_5 =>
  thenV (C 15 [y30, y31] g9_5) fun y32 g9_6 =>
  thenV (pu (bin Tryz.prog .neq 4 y29 y32) g9_6) fun y33 g9_7 =>
  thenV (some (y33, g9_7)) fun y34 g9_8 =>
  thenV (guardK (bOf y34 == some false) (ldN 116 y5 g9_8) g9_8) fun y35 g9_9 =>
  thenV (guardK (bOf y34 == some false) (ldN 116 y5 g9_9) g9_9) fun y36 g9_10 =>
  thenV (guardK (bOf y34 == some false) (C 22 [y35, y36] g9_10) g9_10) fun y37 g9_11 =>
  thenV (guardK (bOf y34 == some false) (pu (unA .not y37) g9_11) g9_11) fun y38 g9_12 =>
  thenV (match y34 with | .bool t => some (if t then (.bool true) else y38, g9_12) | _ => none) fun y39 g9_13 =>
  thenV (some (y39, g9_13)) fun y40 g9_14 =>
  thenV (guardK (bOf y40 == some false) (ldN 116 y7 g9_14) g9_14) fun y41 g9_15 =>
  thenV (guardK (bOf y40 == some false) (ldN 116 y5 g9_15) g9_15) fun y42 g9_16 =>
  thenV (guardK (bOf y40 == some false) (C 22 [y41, y42] g9_16) g9_16) fun y43 g9_17 =>
  thenV (guardK (bOf y40 == some false) (pu (unA .not y43) g9_17) g9_17) fun y44 g9_18 =>
  thenV (match y40 with | .bool t => some (if t then (.bool true) else y44, g9_18) | _ => none) fun y45 g9_19 =>
  thenV (some (y45, g9_19)) fun y46 g9_20 =>
  thenV (guardK (bOf y46 == some false) (ldN 116 y7 g9_20) g9_20) fun y47 g9_21 =>
  thenV (guardK (bOf y46 == some false) (ldN 116 y2 g9_21) g9_21) fun y48 g9_22 =>
  thenV (guardK (bOf y46 == some false) (C 15 [y47, y48] g9_22) g9_22) fun y49 g9_23 =>
  thenV (guardK (bOf y46 == some false) (pu (unA .not y49) g9_23) g9_23) fun y50 g9_24 =>
  thenV (match y46 with | .bool t => some (if t then (.bool true) else y50, g9_24) | _ => none) fun y51 g9_25 =>
  (match (chkR true (ldN 116 y2 g9_2) y30 && (chkR true (ldN 116 y3 g9_2) y31 && true)) with
  | true =>
  let h := g9_25
  (match y51 with
  | .bool true =>
  thenV (some ((.bool false), h)) fun y4_1 h =>
  some (y4_1, h)
  | .bool false =>
  thenV (some ((.int .i64 0), h)) fun y8 h =>
  endL (iter (codeA Tryz.prog C (partOf Tryz.f9 [1, 1, 1, 1, 1, 0, 1, 0, 0])) rounds (mkF 148 (up (bs [x0, x1]) [(2, y2), (3, y3), (4, y4), (5, y5), (6, y6), (7, y7), (8, y8), (14, y14), (15, y15), (16, y16), (17, y17), (18, y18), (19, y19), (21, y21), (22, y22), (23, y23), (24, y24), (25, y25), (26, y26), (27, y27), (28, y28), (29, y29), (30, y30), (31, y31), (32, y32), (33, y33), (34, y34), (35, y35), (36, y36), (37, y37), (38, y38), (39, y39), (40, y40), (41, y41), (42, y42), (43, y43), (44, y44), (45, y45), (46, y46), (47, y47), (48, y48), (49, y49), (50, y50), (51, y51)])) h) (resultsA Tryz.prog Tryz.f9.results.toList) (b9_13 C)
  | _ => none)
  | false => none)
  | false => none)
  | _ => none)
noncomputable def t9k9_11 (C : CallF) (x : Nat → Value) (h : Heap) : Out :=
  thenV (some ((.int .i64 0), h)) fun y9 h =>
  endL (iter (codeA Tryz.prog C (partOf Tryz.f9 [1, 1, 1, 1, 1, 1, 0, 1, 0, 0])) rounds (mkF 148 (up x [(9, y9)])) h) (resultsA Tryz.prog Tryz.f9.results.toList) (b9_16 C)
noncomputable def t9l9_11111010 (_C : CallF) (x : Nat → Value) (h : Heap) : Option (Ex × Env × Heap) :=
  thenV (some ((x 8), h)) fun y52 h =>
  thenV (pu (addP (x 7) 6) h) fun y53 h =>
  thenV (ld1 y53 h) fun y54 h =>
  thenV (pu (lenL y54) h) fun y55 h =>
  thenV (pu (bin Tryz.prog .lss 3 y52 y55) h) fun y56 h =>
  (match y56 with
  | .bool true =>
  thenV (pu (addP (x 7) 6) h) fun y59 h =>
  thenV (ld1 y59 h) fun y60 h =>
  thenV (some ((x 8), h)) fun y61 h =>
  thenV (pu (bldR [(.int .u64 0), (.int .u8 0)] [(0, 1, (.int .u64 1099511627776))]) h) fun y62 h =>
  thenV (pu (idxS 2 y60 y61) h) fun y63 h =>
  thenV (stN 2 y63 y62 h) fun _ h =>
  thenV (some ((x 8), h)) fun y57 h =>
  thenV (pu (bin Tryz.prog .add 3 y57 (.int .i64 1)) h) fun y58 h =>
  thenV (some (y58, h)) fun y8 h =>
  some (.normal, (mkF 148 (up x [(8, y8), (52, y52), (53, y53), (54, y54), (55, y55), (56, y56), (57, y57), (58, y58), (59, y59), (60, y60), (61, y61), (62, y62), (63, y63)])), h)
  | .bool false =>
  some (.exit 0, (mkF 148 (up x [(52, y52), (53, y53), (54, y54), (55, y55), (56, y56)])), h)
  | _ => none)
noncomputable def t9k9_14 (C : CallF) (x : Nat → Value) (h : Heap) : Out :=
  thenV (some ((.int .i64 0), h)) fun y10 h =>
  endL (iter (codeA Tryz.prog C (partOf Tryz.f9 [1, 1, 1, 1, 1, 1, 1, 0, 1, 0, 0])) rounds (mkF 148 (up x [(10, y10)])) h) (resultsA Tryz.prog Tryz.f9.results.toList) (b9_23 C)
noncomputable def t9l9_111111010 (_C : CallF) (x : Nat → Value) (h : Heap) : Option (Ex × Env × Heap) :=
  thenV (some ((x 9), h)) fun y64 h =>
  thenV (pu (addP (x 7) 7) h) fun y65 h =>
  thenV (ld1 y65 h) fun y66 h =>
  thenV (pu (lenL y66) h) fun y67 h =>
  thenV (pu (bin Tryz.prog .lss 3 y64 y67) h) fun y68 h =>
  (match y68 with
  | .bool true =>
  thenV (pu (addP (x 7) 7) h) fun y71 h =>
  thenV (ld1 y71 h) fun y72 h =>
  thenV (some ((x 9), h)) fun y73 h =>
  thenV (pu (idxS 1 y72 y73) h) fun y74 h =>
  thenV (ld1 y74 h) fun y75 h =>
  thenV (pu (bin Tryz.prog .xor 5 y75 (.int .u8 255)) h) fun y76 h =>
  thenV (pu (idxS 1 y72 y73) h) fun y77 h =>
  thenV (stN 1 y77 y76 h) fun _ h =>
  thenV (some ((x 9), h)) fun y69 h =>
  thenV (pu (bin Tryz.prog .add 3 y69 (.int .i64 1)) h) fun y70 h =>
  thenV (some (y70, h)) fun y9 h =>
  some (.normal, (mkF 148 (up x [(9, y9), (64, y64), (65, y65), (66, y66), (67, y67), (68, y68), (69, y69), (70, y70), (71, y71), (72, y72), (73, y73), (74, y74), (75, y75), (76, y76), (77, y77)])), h)
  | .bool false =>
  some (.exit 2, (mkF 148 (up x [(64, y64), (65, y65), (66, y66), (67, y67), (68, y68)])), h)
  | _ => none)
noncomputable def t9k9_21 (C : CallF) (x : Nat → Value) (h : Heap) : Out :=
  thenV (some ((.int .i64 0), h)) fun y11 h =>
  endL (iter (codeA Tryz.prog C (partOf Tryz.f9 [1, 1, 1, 1, 1, 1, 1, 1, 0, 1, 0, 0])) rounds (mkF 148 (up x [(11, y11)])) h) (resultsA Tryz.prog Tryz.f9.results.toList) (b9_30 C)
noncomputable def t9l9_1111111010 (_C : CallF) (x : Nat → Value) (h : Heap) : Option (Ex × Env × Heap) :=
  thenV (some ((x 10), h)) fun y78 h =>
  thenV (pu (addP (x 7) 8) h) fun y79 h =>
  thenV (ld1 y79 h) fun y80 h =>
  thenV (pu (lenL y80) h) fun y81 h =>
  thenV (pu (bin Tryz.prog .lss 3 y78 y81) h) fun y82 h =>
  (match y82 with
  | .bool true =>
  thenV (pu (addP (x 7) 8) h) fun y85 h =>
  thenV (ld1 y85 h) fun y86 h =>
  thenV (some ((x 10), h)) fun y87 h =>
  thenV (pu (idxS 1 y86 y87) h) fun y88 h =>
  thenV (ld1 y88 h) fun y89 h =>
  thenV (pu (bin Tryz.prog .xor 5 y89 (.int .u8 255)) h) fun y90 h =>
  thenV (pu (idxS 1 y86 y87) h) fun y91 h =>
  thenV (stN 1 y91 y90 h) fun _ h =>
  thenV (some ((x 10), h)) fun y83 h =>
  thenV (pu (bin Tryz.prog .add 3 y83 (.int .i64 1)) h) fun y84 h =>
  thenV (some (y84, h)) fun y10 h =>
  some (.normal, (mkF 148 (up x [(10, y10), (78, y78), (79, y79), (80, y80), (81, y81), (82, y82), (83, y83), (84, y84), (85, y85), (86, y86), (87, y87), (88, y88), (89, y89), (90, y90), (91, y91)])), h)
  | .bool false =>
  some (.exit 4, (mkF 148 (up x [(78, y78), (79, y79), (80, y80), (81, y81), (82, y82)])), h)
  | _ => none)
noncomputable def t9k9_28 (C : CallF) (x : Nat → Value) (h : Heap) : Out :=
  thenV (some ((.int .i64 0), h)) fun y12 h =>
  endL (iter (codeA Tryz.prog C (partOf Tryz.f9 [1, 1, 1, 1, 1, 1, 1, 1, 1, 0, 1, 0, 0])) rounds (mkF 148 (up x [(12, y12)])) h) (resultsA Tryz.prog Tryz.f9.results.toList) (b9_37 C)
noncomputable def t9l9_11111111010 (_C : CallF) (x : Nat → Value) (h : Heap) : Option (Ex × Env × Heap) :=
  thenV (some ((x 11), h)) fun y92 h =>
  thenV (pu (addP (x 7) 42) h) fun y93 h =>
  thenV (ld1 y93 h) fun y94 h =>
  thenV (pu (lenL y94) h) fun y95 h =>
  thenV (pu (bin Tryz.prog .lss 3 y92 y95) h) fun y96 h =>
  (match y96 with
  | .bool true =>
  thenV (pu (addP (x 7) 42) h) fun y99 h =>
  thenV (ld1 y99 h) fun y100 h =>
  thenV (some ((x 11), h)) fun y101 h =>
  thenV (pu (idxS 39 y100 y101) h) fun y102 h =>
  thenV (pu (addP y102 35) h) fun y103 h =>
  thenV (ld1 y103 h) fun y104 h =>
  thenV (pu (bin Tryz.prog .add 25 y104 (.int .u64 1)) h) fun y105 h =>
  thenV (pu (idxS 39 y100 y101) h) fun y106 h =>
  thenV (pu (addP y106 35) h) fun y107 h =>
  thenV (stN 1 y107 y105 h) fun _ h =>
  thenV (some ((x 11), h)) fun y97 h =>
  thenV (pu (bin Tryz.prog .add 3 y97 (.int .i64 1)) h) fun y98 h =>
  thenV (some (y98, h)) fun y11 h =>
  some (.normal, (mkF 148 (up x [(11, y11), (92, y92), (93, y93), (94, y94), (95, y95), (96, y96), (97, y97), (98, y98), (99, y99), (100, y100), (101, y101), (102, y102), (103, y103), (104, y104), (105, y105), (106, y106), (107, y107)])), h)
  | .bool false =>
  some (.exit 6, (mkF 148 (up x [(92, y92), (93, y93), (94, y94), (95, y95), (96, y96)])), h)
  | _ => none)
noncomputable def t9k9_35 (C : CallF) (x : Nat → Value) (h : Heap) : Out :=
  thenV (some ((.int .i64 0), h)) fun y13 h =>
  endL (iter (codeA Tryz.prog C (partOf Tryz.f9 [1, 1, 1, 1, 1, 1, 1, 1, 1, 1, 0, 1, 0, 0])) rounds (mkF 148 (up x [(13, y13)])) h) (resultsA Tryz.prog Tryz.f9.results.toList) (b9_44 C)
noncomputable def t9l9_111111111010 (_C : CallF) (x : Nat → Value) (h : Heap) : Option (Ex × Env × Heap) :=
  thenV (some ((x 12), h)) fun y108 h =>
  thenV (pu (addP (x 7) 76) h) fun y109 h =>
  thenV (pu (addP y109 36) h) fun y110 h =>
  thenV (ld1 y110 h) fun y111 h =>
  thenV (pu (lenL y111) h) fun y112 h =>
  thenV (pu (bin Tryz.prog .lss 3 y108 y112) h) fun y113 h =>
  (match y113 with
  | .bool true =>
  thenV (pu (addP (x 7) 76) h) fun y116 h =>
  thenV (pu (addP y116 36) h) fun y117 h =>
  thenV (ld1 y117 h) fun y118 h =>
  thenV (some ((x 12), h)) fun y119 h =>
  thenV (pu (idxS 32 y118 y119) h) fun y120 h =>
  thenV (pu (idxA 32 1 y120 (.int .i64 0)) h) fun y121 h =>
  thenV (ld1 y121 h) fun y122 h =>
  thenV (pu (bin Tryz.prog .xor 5 y122 (.int .u8 255)) h) fun y123 h =>
  thenV (pu (idxS 32 y118 y119) h) fun y124 h =>
  thenV (pu (idxA 32 1 y124 (.int .i64 0)) h) fun y125 h =>
  thenV (stN 1 y125 y123 h) fun _ h =>
  thenV (some ((x 12), h)) fun y114 h =>
  thenV (pu (bin Tryz.prog .add 3 y114 (.int .i64 1)) h) fun y115 h =>
  thenV (some (y115, h)) fun y12 h =>
  some (.normal, (mkF 148 (up x [(12, y12), (108, y108), (109, y109), (110, y110), (111, y111), (112, y112), (113, y113), (114, y114), (115, y115), (116, y116), (117, y117), (118, y118), (119, y119), (120, y120), (121, y121), (122, y122), (123, y123), (124, y124), (125, y125)])), h)
  | .bool false =>
  some (.exit 8, (mkF 148 (up x [(108, y108), (109, y109), (110, y110), (111, y111), (112, y112), (113, y113)])), h)
  | _ => none)
noncomputable def t9k9_42 (C : CallF) (x : Nat → Value) (h : Heap) : Out :=
  thenV (ldN 116 (x 5) h) fun y142 h =>
  thenV (ldN 116 (x 2) h) fun y143 h =>
  thenV (C 15 [y142, y143] h) fun y144 h =>
  thenV (some (y144, h)) fun y145 h =>
  thenV (guardK (bOf y145 == some true) (C 12 [] h) h) fun y146 h =>
  thenV (match y145 with | .bool t => some (if t then y146 else (.bool false), h) | _ => none) fun y147 h =>
  thenV (some (y147, h)) fun y4 h =>
  some (y4, h)
noncomputable def t9l9_1111111111010 (_C : CallF) (x : Nat → Value) (h : Heap) : Option (Ex × Env × Heap) :=
  thenV (some ((x 13), h)) fun y126 h =>
  thenV (pu (addP (x 7) 113) h) fun y127 h =>
  thenV (pu (addP y127 1) h) fun y128 h =>
  thenV (ld1 y128 h) fun y129 h =>
  thenV (pu (lenL y129) h) fun y130 h =>
  thenV (pu (bin Tryz.prog .lss 3 y126 y130) h) fun y131 h =>
  (match y131 with
  | .bool true =>
  thenV (pu (addP (x 7) 113) h) fun y134 h =>
  thenV (pu (addP y134 1) h) fun y135 h =>
  thenV (ld1 y135 h) fun y136 h =>
  thenV (some ((x 13), h)) fun y137 h =>
  thenV (pu (idxS 1 y136 y137) h) fun y138 h =>
  thenV (ld1 y138 h) fun y139 h =>
  thenV (pu (bin Tryz.prog .xor 5 y139 (.int .u8 255)) h) fun y140 h =>
  thenV (pu (idxS 1 y136 y137) h) fun y141 h =>
  thenV (stN 1 y141 y140 h) fun _ h =>
  thenV (some ((x 13), h)) fun y132 h =>
  thenV (pu (bin Tryz.prog .add 3 y132 (.int .i64 1)) h) fun y133 h =>
  thenV (some (y133, h)) fun y13 h =>
  some (.normal, (mkF 148 (up x [(13, y13), (126, y126), (127, y127), (128, y128), (129, y129), (130, y130), (131, y131), (132, y132), (133, y133), (134, y134), (135, y135), (136, y136), (137, y137), (138, y138), (139, y139), (140, y140), (141, y141)])), h)
  | .bool false =>
  some (.exit 10, (mkF 148 (up x [(126, y126), (127, y127), (128, y128), (129, y129), (130, y130), (131, y131)])), h)
  | _ => none)
theorem t9_eq (C : CallF) (x0 x1 : Value) (h : Heap) : bodyK Tryz.prog C Tryz.f9 [x0, x1] h = t9 C x0 x1 h :=
  (bodyB_eq Tryz.prog C Tryz.f9 [x0, x1] h (by kernel_rfl)).trans (by kernel_rfl)
theorem t9k9_11_eq (C : CallF) (x : Nat → Value) (h : Heap) : k9_11 C (mkF 148 x) h = t9k9_11 C x h :=
  link_partF (b := (partOf Tryz.f9 [1, 1, 1, 1, 1, 1])) (kE := (resultsA Tryz.prog Tryz.f9.results.toList)) (rE := (resultsA Tryz.prog Tryz.f9.results.toList)) (xE := (fun _ _ _ => none)) (T := t9k9_11 C) (fun x h => by kernel_rfl) x h
theorem t9l9_11111010_eq (C : CallF) (x : Nat → Value) (h : Heap) : codeA Tryz.prog C (partOf Tryz.f9 [1, 1, 1, 1, 1, 0, 1, 0, 0]) (mkF 148 x) h = t9l9_11111010 C x h :=
  link_roundF (T := t9l9_11111010 C) (fun x h => by kernel_rfl) x h
theorem t9k9_14_eq (C : CallF) (x : Nat → Value) (h : Heap) : k9_14 C (mkF 148 x) h = t9k9_14 C x h :=
  link_partF (b := (partOf Tryz.f9 [1, 1, 1, 1, 1, 1, 1])) (kE := (resultsA Tryz.prog Tryz.f9.results.toList)) (rE := (resultsA Tryz.prog Tryz.f9.results.toList)) (xE := (fun _ _ _ => none)) (T := t9k9_14 C) (fun x h => by kernel_rfl) x h
theorem t9l9_111111010_eq (C : CallF) (x : Nat → Value) (h : Heap) : codeA Tryz.prog C (partOf Tryz.f9 [1, 1, 1, 1, 1, 1, 0, 1, 0, 0]) (mkF 148 x) h = t9l9_111111010 C x h :=
  link_roundF (T := t9l9_111111010 C) (fun x h => by kernel_rfl) x h
theorem t9k9_21_eq (C : CallF) (x : Nat → Value) (h : Heap) : k9_21 C (mkF 148 x) h = t9k9_21 C x h :=
  link_partF (b := (partOf Tryz.f9 [1, 1, 1, 1, 1, 1, 1, 1])) (kE := (resultsA Tryz.prog Tryz.f9.results.toList)) (rE := (resultsA Tryz.prog Tryz.f9.results.toList)) (xE := (fun _ _ _ => none)) (T := t9k9_21 C) (fun x h => by kernel_rfl) x h
theorem t9l9_1111111010_eq (C : CallF) (x : Nat → Value) (h : Heap) : codeA Tryz.prog C (partOf Tryz.f9 [1, 1, 1, 1, 1, 1, 1, 0, 1, 0, 0]) (mkF 148 x) h = t9l9_1111111010 C x h :=
  link_roundF (T := t9l9_1111111010 C) (fun x h => by kernel_rfl) x h
theorem t9k9_28_eq (C : CallF) (x : Nat → Value) (h : Heap) : k9_28 C (mkF 148 x) h = t9k9_28 C x h :=
  link_partF (b := (partOf Tryz.f9 [1, 1, 1, 1, 1, 1, 1, 1, 1])) (kE := (resultsA Tryz.prog Tryz.f9.results.toList)) (rE := (resultsA Tryz.prog Tryz.f9.results.toList)) (xE := (fun _ _ _ => none)) (T := t9k9_28 C) (fun x h => by kernel_rfl) x h
theorem t9l9_11111111010_eq (C : CallF) (x : Nat → Value) (h : Heap) : codeA Tryz.prog C (partOf Tryz.f9 [1, 1, 1, 1, 1, 1, 1, 1, 0, 1, 0, 0]) (mkF 148 x) h = t9l9_11111111010 C x h :=
  link_roundF (T := t9l9_11111111010 C) (fun x h => by kernel_rfl) x h
theorem t9k9_35_eq (C : CallF) (x : Nat → Value) (h : Heap) : k9_35 C (mkF 148 x) h = t9k9_35 C x h :=
  link_partF (b := (partOf Tryz.f9 [1, 1, 1, 1, 1, 1, 1, 1, 1, 1])) (kE := (resultsA Tryz.prog Tryz.f9.results.toList)) (rE := (resultsA Tryz.prog Tryz.f9.results.toList)) (xE := (fun _ _ _ => none)) (T := t9k9_35 C) (fun x h => by kernel_rfl) x h
theorem t9l9_111111111010_eq (C : CallF) (x : Nat → Value) (h : Heap) : codeA Tryz.prog C (partOf Tryz.f9 [1, 1, 1, 1, 1, 1, 1, 1, 1, 0, 1, 0, 0]) (mkF 148 x) h = t9l9_111111111010 C x h :=
  link_roundF (T := t9l9_111111111010 C) (fun x h => by kernel_rfl) x h
theorem t9k9_42_eq (C : CallF) (x : Nat → Value) (h : Heap) : k9_42 C (mkF 148 x) h = t9k9_42 C x h :=
  link_partF (b := (partOf Tryz.f9 [1, 1, 1, 1, 1, 1, 1, 1, 1, 1, 1])) (kE := (resultsA Tryz.prog Tryz.f9.results.toList)) (rE := (resultsA Tryz.prog Tryz.f9.results.toList)) (xE := (fun _ _ _ => none)) (T := t9k9_42 C) (fun x h => by kernel_rfl) x h
theorem t9l9_1111111111010_eq (C : CallF) (x : Nat → Value) (h : Heap) : codeA Tryz.prog C (partOf Tryz.f9 [1, 1, 1, 1, 1, 1, 1, 1, 1, 1, 0, 1, 0, 0]) (mkF 148 x) h = t9l9_1111111111010 C x h :=
  link_roundF (T := t9l9_1111111111010 C) (fun x h => by kernel_rfl) x h

end Go.Proofs.YtjghlcdidopcpaaGreatDoor

