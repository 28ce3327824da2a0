/-
  The abstract machine: every operation, as the model does it.
  Conditions: the calls' summaries are sound (CSound).
-/
import Derived.Test.YtcmfgmhadeeieaaA7b
namespace Go.Abs

/-- A summary of calls says what the model's calls do. -/
structure CSound (P : Program) (C : CallF) : Prop where
  fn : ∀ f args h v h', C f args h = some (v, h') → ∃ fn, P.funcs[f]? = some fn ∧ (fn.name == "runtime.NumGoroutine") = false ∧ fn.body.isNone = false
  grow : ∀ f args h v h', C f args h = some (v, h') → h.next ≤ h'.next ∧ h'.n0 = h.n0 ∧ h'.old = h.old
  bd : ∀ f args h v h', C f args h = some (v, h') → bdL h.next args = true → HeapBd h → bdV h'.next v = true ∧ HeapBd h'
  run : ∀ f args h v h', C f args h = some (v, h') → bdL h.next args = true → HeapBd h → P.globals.size ≤ h.n0 → ∀ μ w args', Sim μ h w → Free μ h h' → LRel μ args args' →
    Calls P f args'.toArray w fun e w' => ∃ μ' v', e = .returned v' ∧ Sim μ' h' w' ∧ Step μ h w μ' h' w' ∧ VRel μ' v v'

/-- Constants and variables that an operation names are such as the machine knows. -/
def opdOk (P : Program) : Operand → Bool
  | .const v => flat v
  | .global g => g < P.globals.size
  | _ => true
def operOk (P : Program) (o : Oper) : Bool := o.op.operands.toList.all (opdOk P)

section ops
variable {P : Program} {C : CallF} {μ : Mu} {h : Heap} {w : World}

theorem undef_rel : VRel μ undef undef := VRel.undef μ

/-- What is to be shown of an operation. -/
def Good (P : Program) (o : Oper) (a : Act) (μ : Mu) (h : Heap) (w : World) (v : Value) (h' : Heap) : Prop :=
  ∀ (K : Act → World → Prop) (Q : Exit → Act → World → Prop), (∀ μ' v' w', Sim μ' h' w' → Step μ h w μ' h' w' → VRel μ' v v' → K (a.put o.dst v') w') → o.wp P a w K Q

theorem good_value {o : Oper} {a : Act} {v : Value} {h' : Heap} {s : Sem Value} (ho : execOp a.eval o = (do pure (.value (← s)))) 
    (e : ∃ μ' v' w', s.run P w = .ok v' w' ∧ Sim μ' h' w' ∧ Step μ h w μ' h' w' ∧ VRel μ' v v') : Good P o a μ h w v h' := by
  intro K Q hK
  obtain ⟨μ', v', w', hr, hS, hSt, hv⟩ := e
  unfold Oper.wp
  rw [ho]
  simp only [Sem.run_bind, hr, Result.andThen_ok, Sem.run_pure, Oper.upon]
  exact hK μ' v' w' hS hSt hv
theorem good_skip {o : Oper} {a : Act} {v : Value} {h' : Heap} {s : Sem Unit} (ho : execOp a.eval o = (do s; pure .skip))
    (e : v = undef ∧ ∃ w', s.run P w = .ok () w' ∧ Sim μ h' w' ∧ Step μ h w μ h' w') : Good P o a μ h w v h' := by
  intro K Q hK
  obtain ⟨rfl, w', hr, hS, hSt⟩ := e
  unfold Oper.wp
  rw [ho]
  simp only [Sem.run_bind, hr, Result.andThen_ok, Sem.run_pure, Oper.upon]
  exact hK μ undef w' hS hSt undef_rel
theorem good_pure {o : Oper} {a : Act} {v : Value} {s : Sem Value} (S : Sim μ h w) (ho : execOp a.eval o = (do pure (.value (← s))))
    (e : ∃ v', s.run P w = .ok v' w ∧ VRel μ v v') : Good P o a μ h w v h := by
  obtain ⟨v', hr, hv⟩ := e
  exact good_value ho ⟨μ, v', w, hr, S, .same_world, hv⟩

theorem pairs_rel {ρ ρ' : Operand → Value} {parts : Array (Nat × Operand)} (hρ : ∀ x ∈ (parts.toList.map (·.2)), VRel μ (ρ x) (ρ' x)) :
    (parts.toList.map fun (i, x) => (i, ρ x)).length = (parts.map fun (i, x) => (i, ρ' x)).size ∧
    ∀ (i : Nat) (x y : Nat × Value), (parts.toList.map fun (i, x) => (i, ρ x))[i]? = some x → (parts.map fun (i, x) => (i, ρ' x)).toList[i]? = some y → x.1 = y.1 ∧ VRel μ x.2 y.2 := by
  refine ⟨by simp, fun i x y hx hy => ?_⟩
  rw [Array.toList_map] at hy
  rw [List.getElem?_map] at hx hy
  cases hp : parts.toList[i]? with
  | none => rw [hp] at hx; cases hx
  | some p =>
    rw [hp] at hx hy
    simp only [Option.map_some, Option.some.injEq] at hx hy
    subst hx hy
    exact ⟨rfl, hρ _ (List.mem_map.2 ⟨p, List.mem_of_getElem? hp, rfl⟩)⟩

theorem opt_rel {ρ ρ' : Operand → Value} {x : Option Operand} (hρ : ∀ y, x = some y → VRel μ (ρ y) (ρ' y)) : ORel μ (x.map ρ) (x.map ρ') := by
  cases x with
  | none => exact .inl ⟨rfl, rfl⟩
  | some y => exact .inr ⟨_, _, rfl, rfl, hρ y rfl⟩

theorem list_rel {ρ ρ' : Operand → Value} : ∀ {l : List Operand}, (∀ x ∈ l, VRel μ (ρ x) (ρ' x)) → LRel μ (l.map ρ) (l.map ρ')
  | [], _ => LRel.nil μ
  | x :: l, h => LRel.cons (h x (by simp)) (list_rel fun y hy => h y (by simp [hy]))

theorem builtin_exec {o : Oper} {a : Act} {c : Call} {b : Builtin} (ho : o.op = .call c) (hc : c.callee = .builtin b) :
    execOp a.eval o = builtin b c.argTypes o.type (c.args.map fun | .const _ => true | _ => false) (c.args.map a.eval) := by
  unfold execOp
  rw [ho]
  simp only
  unfold resolve
  rw [hc]
  rfl

theorem array_of_list {α : Type} {x : Array α} {l : List α} (h : x.toList = l) : x = l.toArray := by
  rw [← h]

theorem elemT_some {t el : TypeId} (h : elemT P t = some el) : P.underlying t = some (.slice el) := by
  unfold elemT at h
  split at h
  · cases h; assumption
  · cases h
theorem VRel.func_iff {f : Fn} {x y : Array Value} {v : Value} (hv : VRel μ (.func f x y) v) : ∃ x' y', v = .func f x' y' ∧ LRel μ x.toList x'.toList ∧ LRel μ y.toList y'.toList := by
  cases hv with
  | flat h =>
    cases f <;> simp [Abs.flat] at h
    obtain ⟨rfl, rfl⟩ := h
    exact ⟨_, _, rfl, LRel.nil μ, LRel.nil μ⟩
  | func h1 h2 h3 h4 =>
    exact ⟨_, _, rfl, ⟨by simpa using h1, fun i a b ha hb => h2 i a b (by simpa using ha) (by simpa using hb)⟩, ⟨by simpa using h3, fun i a b ha hb => h4 i a b (by simpa using ha) (by simpa using hb)⟩⟩

theorem opA_sound (hC : CSound P C) {o : Oper} {ρ : Operand → Value} {a : Act} {v : Value} {h' : Heap} (S : Sim μ h w) (hf : Free μ h h')
    (hρ : ∀ x ∈ o.op.operands.toList, VRel μ (ρ x) (a.eval x)) (hg : P.globals.size ≤ h.n0) (hbd : ∀ c f, o.op = .call c → c.callee = .value f → (∀ x ∈ o.op.operands.toList, bdV h.next (ρ x) = true) ∧ HeapBd h)
    (e : opA P C o ρ h = some (v, h')) : Good P o a μ h w v h' := by
  have pure_of : ∀ {r : Option Value} {v : Value} {h' : Heap}, r.map (fun v => (v, h)) = some (v, h') → r = some v ∧ h' = h := by
    intro r v h' e
    simp only [Option.map_eq_some_iff, Prod.mk.injEq] at e
    obtain ⟨x, rfl, rfl, rfl⟩ := e
    exact ⟨rfl, rfl⟩
  have hop : ∀ op, o.op = op → (∀ x ∈ op.operands.toList, VRel μ (ρ x) (a.eval x)) := fun op h => h ▸ hρ
  unfold opA at e
  simp only at e
  split at e
  · rename_i x heq
    cases e
    exact good_pure S (s := pure (a.eval x)) (by unfold execOp; rw [heq]; try rfl) ⟨_, rfl, hop _ heq x (by simp [Op.operands])⟩
  · rename_i x heq
    cases e
    exact good_pure S (s := pure (a.eval x)) (by unfold execOp; rw [heq]; try rfl) ⟨_, rfl, hop _ heq x (by simp [Op.operands])⟩
  · rename_i c x y heq
    split at e
    · rename_i t ht
      cases e
      have hc := hop _ heq c (by simp [Op.operands])
      rw [ht] at hc
      refine good_pure S (s := do pure (if ← asBool (a.eval c) then a.eval x else a.eval y)) (by unfold execOp; rw [heq]; simp) ⟨if t then a.eval x else a.eval y, ?_, ?_⟩
      · rw [hc.bool]; cases t <;> simp [asBool]
      · cases t
        · exact hop _ heq y (by simp [Op.operands])
        · exact hop _ heq x (by simp [Op.operands])
    · cases e
  · rename_i t heq
    exact good_value (s := Instr.alloc t true (.tuple #[])) (by unfold execOp; rw [heq]; try rfl) (zero_sound S hf e)
  · rename_i t x heq
    exact good_value (s := Instr.box t (a.eval x)) (by unfold execOp; rw [heq]; try rfl) (box_sound S hf (hop _ heq x (by simp [Op.operands])) e)
  · rename_i t parts heq
    obtain ⟨e2, rfl⟩ := pure_of e
    have hp := pairs_rel (parts := parts) (fun x hx => hop _ heq x (by simpa [Op.operands] using hx))
    exact good_pure S (s := Instr.build t (parts.map fun (i, x) => (i, a.eval x))) (by unfold execOp; rw [heq]; try rfl) (build_sound hp.1 hp.2 e2)
  · rename_i t len parts heq
    have hp := pairs_rel (parts := parts) (fun x hx => hop _ heq x (by simpa [Op.operands] using hx))
    exact good_value (s := Instr.buildSlice t len (parts.map fun (i, x) => (i, a.eval x))) (by unfold execOp; rw [heq]; try rfl) (buildSlice_sound S hf hp.1 hp.2 e)
  · rename_i t x heq
    obtain ⟨rfl, r', hr, hv⟩ := ld_sound (P := P) S (hop _ heq x (by simp [Op.operands])) e
    exact good_pure S (s := Instr.loadAt t (a.eval x)) (by unfold execOp; rw [heq]; try rfl) ⟨r', hr, hv⟩
  · rename_i t x y heq
    exact good_skip (s := Instr.storeAt t (a.eval x) (a.eval y)) (by unfold execOp; rw [heq]; try rfl) (st_sound S (hop _ heq x (by simp [Op.operands])) (hop _ heq y (by simp [Op.operands])) e)
  · rename_i x heq
    obtain ⟨e2, rfl⟩ := pure_of e
    obtain ⟨hv, hx⟩ := nilCheck_rel (hop _ heq x (by simp [Op.operands])) e2
    refine good_pure S (s := pure (a.eval x)) ?_ ⟨_, rfl, hv⟩
    unfold execOp
    rw [heq]
    rcases hx with ⟨b, hx⟩ | ⟨f, b, c, hx⟩
    · simp only [hx]; rfl
    · simp only [hx]; rfl
  · rename_i op t x y u heq
    obtain ⟨e2, rfl⟩ := pure_of e
    have hx := hop _ heq x (by simp [Op.operands])
    have hy := hop _ heq y (by simp [Op.operands])
    refine good_pure S (s := (do eqGuard op t x y (a.eval x) (a.eval y); binOp op t (a.eval x) (a.eval y))) (by unfold execOp; rw [heq]; try rfl) ⟨v, bin_sound hx hy e2, .flat (bin_flat e2)⟩
  · rename_i op t x heq
    obtain ⟨e2, rfl⟩ := pure_of e
    refine good_pure S (s := Op.unary op (a.eval x)) (by unfold execOp; rw [heq]; try rfl) ⟨v, un_sound (hop _ heq x (by simp [Op.operands])) e2, .flat (un_flat e2)⟩
  · rename_i s d x heq
    exact good_value (s := convert s d (a.eval x)) (by unfold execOp; rw [heq]; try rfl) (conv_sound S hf (hop _ heq x (by simp [Op.operands])) e)
  · rename_i t l c heq
    exact good_value (s := Instr.makeSlice t (a.eval l) (a.eval c)) (by unfold execOp; rw [heq]; try rfl) (make_sound S hf (hop _ heq l (by simp [Op.operands])) (hop _ heq c (by simp [Op.operands])) e)
  · rename_i t x lo hi mx heq
    obtain ⟨e2, rfl⟩ := pure_of e
    exact good_pure S (s := Instr.sliceAt t (a.eval x) (lo.map a.eval) (hi.map a.eval) (mx.map a.eval)) (by unfold execOp; rw [heq]; try rfl)
      (slice_sound (hop _ heq x (by simp [Op.operands])) (opt_rel fun y hy => hop _ heq y (by subst hy; simp [Op.operands])) (opt_rel fun y hy => hop _ heq y (by subst hy; simp [Op.operands])) (opt_rel fun y hy => hop _ heq y (by subst hy; simp [Op.operands])) e2)
  · rename_i t x i heq
    obtain ⟨e2, rfl⟩ := pure_of e
    exact good_pure S (s := Instr.fieldAt t (a.eval x) i) (by unfold execOp; rw [heq]; try rfl) (fieldAt_sound (hop _ heq x (by simp [Op.operands])) e2)
  · rename_i t x i heq
    obtain ⟨e2, rfl⟩ := pure_of e
    exact good_pure S (s := Instr.field t (a.eval x) i) (by unfold execOp; rw [heq]; try rfl) (field_sound (hop _ heq x (by simp [Op.operands])) e2)
  · rename_i t x i heq
    obtain ⟨e2, rfl⟩ := pure_of e
    exact good_pure S (s := Instr.indexAt t (a.eval x) (a.eval i)) (by unfold execOp; rw [heq]; try rfl) (indexAt_sound (hop _ heq x (by simp [Op.operands])) (hop _ heq i (by simp [Op.operands])) e2)
  · rename_i t x i heq
    obtain ⟨e2, rfl⟩ := pure_of e
    exact good_pure S (s := Instr.index t (a.eval x) (a.eval i)) (by unfold execOp; rw [heq]; try rfl) (index_sound (hop _ heq x (by simp [Op.operands])) (hop _ heq i (by simp [Op.operands])) e2)
  · rename_i t i heq
    obtain ⟨e2, rfl⟩ := pure_of e
    exact good_pure S (s := Instr.extract (a.eval t) i) (by unfold execOp; rw [heq]; try rfl) (extract_sound (hop _ heq t (by simp [Op.operands])) e2)
  · rename_i c heq
    have hargs : ∀ x ∈ c.args.toList, VRel μ (ρ x) (a.eval x) := fun x hx => hop _ heq x (by
      simp only [Op.operands, Call.operands, Array.toList_append, List.mem_append]; exact .inr hx)
    split at e
    · rename_i b hcb
      have hex := builtin_exec (a := a) heq hcb
      unfold builtinA at e
      split at e
      · rename_i _ _ _ s x t tx ha ht
        obtain ⟨os, l, hos, rfl, hl⟩ := List.map_eq_cons_iff.1 ha
        obtain ⟨ox, l, rfl, rfl, hl2⟩ := List.map_eq_cons_iff.1 hl
        obtain rfl := List.map_eq_nil_iff.1 hl2
        have ec : c.args.map a.eval = #[a.eval os, a.eval ox] := by rw [array_of_list hos]; simp
        have et := array_of_list ht
        have hs := hargs os (by rw [hos]; simp)
        have hx := hargs ox (by rw [hos]; simp)
        split at e
        · rename_i el hel
          have hu := elemT_some hel
          split at e
          · rename_i n by_ z d hn hby hz hd
            split at e
            · cases e
            · rename_i hc
              simp only [Bool.or_eq_true, Bool.not_eq_true', decide_eq_true_eq, not_or, decide_eq_false_iff_not, Decidable.not_not, Bool.not_eq_true] at hc
              refine good_value (s := Builtin.append_ #[t, tx] o.type #[a.eval os, a.eval ox]) ?_ (append_sound hu hd hc.1.1 hn hby hz hc.1.2 (by omega) S hf hs hx e)
              rw [hex, ec, et]; rfl
          · cases e
        · cases e
      · rename_i _ _ _ d s t tx ha ht
        obtain ⟨os, l, hos, rfl, hl⟩ := List.map_eq_cons_iff.1 ha
        obtain ⟨ox, l, rfl, rfl, hl2⟩ := List.map_eq_cons_iff.1 hl
        obtain rfl := List.map_eq_nil_iff.1 hl2
        have ec : c.args.map a.eval = #[a.eval os, a.eval ox] := by rw [array_of_list hos]; simp
        have et := array_of_list ht
        have hs := hargs os (by rw [hos]; simp)
        have hx := hargs ox (by rw [hos]; simp)
        split at e
        · rename_i el hel
          have hu := elemT_some hel
          simp only [Option.bind_eq_some_iff] at e
          obtain ⟨n, hn, e⟩ := e
          obtain ⟨w', hrun, hS, hSt, k, rfl⟩ := copy_sound (P := P) (sT := tx) (ty := o.type) hu hn S hs hx e
          refine good_value (s := Builtin.copy_ #[t, tx] o.type #[a.eval os, a.eval ox]) ?_ ⟨μ, _, w', hrun, hS, hSt, .flat rfl⟩
          rw [hex, ec, et]; rfl
        · cases e
      · rename_i _ _ _ d t ha ht
        obtain ⟨os, l, hos, rfl, hl⟩ := List.map_eq_cons_iff.1 ha
        obtain rfl := List.map_eq_nil_iff.1 hl
        have ec : c.args.map a.eval = #[a.eval os] := by rw [array_of_list hos]; simp
        have et := array_of_list ht
        have hs := hargs os (by rw [hos]; simp)
        split at e
        · rename_i el hel
          have hu := elemT_some hel
          simp only [Option.bind_eq_some_iff] at e
          obtain ⟨n, hn, e⟩ := e
          obtain ⟨w', hrun, hS, hSt, rfl⟩ := clear_sound (P := P) (ty := o.type) hu S hs e
          refine good_value (s := Builtin.clear_ #[t] o.type #[a.eval os]) ?_ ⟨μ, _, w', hrun, hS, hSt, undef_rel⟩
          rw [hex, ec, et]; rfl
        · cases e
      · rename_i _ _ _ x t ha ht
        obtain ⟨os, l, hos, rfl, hl⟩ := List.map_eq_cons_iff.1 ha
        obtain rfl := List.map_eq_nil_iff.1 hl
        have ec : c.args.map a.eval = #[a.eval os] := by rw [array_of_list hos]; simp
        have et := array_of_list ht
        have hs := hargs os (by rw [hos]; simp)
        obtain ⟨e2, rfl⟩ := pure_of e
        obtain ⟨hr, hfl⟩ := len_sound (P := P) (w := w) (ty := o.type) hs e2
        refine good_pure S (s := Builtin.len_ #[t] o.type #[a.eval os]) ?_ ⟨_, hr, .flat hfl⟩
        rw [hex, ec, et]; rfl
      · rename_i _ _ _ x y r ha
        obtain ⟨e2, rfl⟩ := pure_of e
        obtain ⟨hfl, hfr⟩ := minmax_ints e2 (by simp)
        have hl := list_rel hargs
        rw [ha] at hl
        have hq := hl.flat_eq hfl
        obtain ⟨hr, _⟩ := max_fold (P := P) (w := w) _ _ _ e2
        refine good_pure S (s := Builtin.max_ c.argTypes o.type (c.args.map a.eval)) (by rw [hex]; rfl) ⟨_, ?_, .flat hfr⟩
        unfold Builtin.max_
        rw [Array.toList_map, hq]
        exact hr
      · rename_i _ _ _ x y r ha
        obtain ⟨e2, rfl⟩ := pure_of e
        obtain ⟨hfl, hfr⟩ := minmax_ints e2 (by simp)
        have hl := list_rel hargs
        rw [ha] at hl
        have hq := hl.flat_eq hfl
        obtain ⟨hr, _⟩ := min_fold (P := P) (w := w) _ _ _ e2
        refine good_pure S (s := Builtin.min_ c.argTypes o.type (c.args.map a.eval)) (by rw [hex]; rfl) ⟨_, ?_, .flat hfr⟩
        unfold Builtin.min_
        rw [Array.toList_map, hq]
        exact hr
      · cases e
    · rename_i f hcv
      have hfv : VRel μ (ρ f) (a.eval f) := hop _ heq f (by simp [Op.operands, Call.operands, hcv])
      unfold callA at e
      split at e
      · rename_i i first captured hfe
        rw [hfe] at hfv
        obtain ⟨first', captured', hfe', h1, h2⟩ := hfv.func_iff
        obtain ⟨fn, hfn, hname, hbody⟩ := hC.fn _ _ _ _ _ e
        have hall := (h1.append (list_rel hargs)).append h2
        obtain ⟨hbo, hbh⟩ := hbd c f heq hcv
        rw [heq] at hbo
        have hba : bdL h.next (first.toList ++ c.args.toList.map ρ ++ captured.toList) = true := by
          have hff := hbo f (by simp [Op.operands, Call.operands, hcv])
          rw [hfe] at hff
          obtain ⟨lf⟩ := first
          obtain ⟨lc⟩ := captured
          simp only [bdV, Bool.and_eq_true] at hff
          refine bdL_append (bdL_append hff.1 ?_) hff.2
          rw [bdL_iff]
          intro y hy
          obtain ⟨x, hx, rfl⟩ := List.mem_map.1 hy
          exact hbo x (by simp only [Op.operands, Call.operands, Array.toList_append, List.mem_append]; exact .inr hx)
        have hcalls := hC.run _ _ _ _ _ e hba hbh hg μ w _ S hf hall
        intro K Q hK
        unfold Oper.wp execOp
        rw [heq]
        simp only
        have hres : (do let d ← resolve a.eval c o.type; invoke d.target d.args : Sem Next).run P w = .ok (.enter i ((first'.toList ++ c.args.toList.map a.eval ++ captured'.toList).toArray)) w := by
          unfold resolve
          rw [hcv]
          simp only [hfe', Deferred.ofValue, Sem.run_bind, Sem.run_pure, Result.andThen_ok, invoke, callFunc, run_program, hfn, hname, hbody, Bool.false_eq_true, if_false]
          congr 2
          apply Array.ext'
          simp
        rw [hres]
        simp only [Oper.upon]
        refine hcalls.mono ?_
        rintro e w' ⟨μ', v', rfl, hS, hSt, hv⟩
        exact hK μ' v' w' hS hSt hv
      · cases e
    · cases e
  · cases e

end ops
end Go.Abs
