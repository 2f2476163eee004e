/-
  The evaluator: one operation.
-/
import Derived.Test.YthponidjednfbaaGreatDoorEv5
namespace Go.Proofs.YthponidjednfbaaGreatDoor.Ev
open RowKit

/-- a function's evaluator: its number, arguments, memory -/
abbrev CallE := FuncId → List Value → T Blk → Nat → Option (Value × T Blk × Nat)
def CallOK (P : Program) (N0 : Nat) (call : CallE) : Prop :=
  ∀ f args hp nx v hp' nx', call f args hp nx = some (v, hp', nx') → ∀ β w (args' : List Value), Inv P β hp nx N0 w → VL β args args' →
    Calls P f ⟨args'⟩ w fun e w' => ∃ β' v', e = .returned v' ∧ Stp P N0 β hp nx w β' hp' nx' w' ∧ VR β' v v'
def enters (P : Program) (f : FuncId) : Bool :=
  match P.funcs[f]? with
  | some fn => fn.body.isSome && fn.name != "runtime.NumGoroutine"
  | none => false
theorem enters_run {P : Program} {f : FuncId} (h : enters P f = true) (args : Array Value) (w : World) : (callFunc f args).run P w = .ok (.enter f args) w := by
  unfold enters at h
  cases hf : P.funcs[f]? with
  | none => rw [hf] at h; cases h
  | some fn =>
    rw [hf] at h
    simp only [Bool.and_eq_true, bne_iff_ne, ne_eq] at h
    have hb : fn.body.isNone = false := by cases hb : fn.body <;> simp [hb] at h ⊢
    have hn : (fn.name == "runtime.NumGoroutine") = false := by simpa using h.2
    simp only [callFunc, Sem.run_bind, run_program, Result.andThen_ok, hf, hn, hb, Bool.false_eq_true, if_false, Sem.run_pure]
/-- one operation: its value, memory, a call that was put off -/
def evDo (P : Program) (call : CallE) (ev : Val) (hp : T Blk) (nx : Nat) (o : Oper) : Option (Value × T Blk × Nat × Option FuncId) :=
  match o.op with
  | .alloc _ | .box _ _ | .makeSlice _ _ _ | .buildSlice _ _ _ => match evM P ev o with
    | some (cs, ty, sh) => bif Nat.ble cs.length 1000000 then some (mkV sh nx, hp.set (some (.row (setN .leaf 0 cs) cs.length ty)) nx, nx + 1, none) else none
    | none => none
  | .store t a x => match ev a, ev x, sizeOf P t with
    | some (.pointer (some ⟨n, o, none⟩)), some v, some k => bif Nat.beq v.cells.size k then
        match storeAt hp n o v.cells.toList with | some hp' => some (undef, hp', nx, none) | none => none
      else none
    | _, _, _ => none
  | .makeMap _ _ | .lookup _ _ _ _ | .mapUpdate _ _ _ _ => match mapQ P ev hp nx o with
    | some (v, hp', nx') => some (v, hp', nx', none)
    | none => none
  | .convert src dst x => match evQ P ev hp o with
    | some v => some (v, hp, nx, none)
    | none => match convQ P ev hp nx src dst x with
      | some (v, hp', nx') => some (v, hp', nx', none)
      | none => none
  | .defer c => match c.callee with
    | .value f => match ev f with
      | some (.func (.func g) _ _) => some (undef, hp, nx, some g)
      | _ => none
    | _ => none
  | .call c => match c.callee with
    | .builtin .append => match appQ P ev hp nx c with
      | some (v, hp', nx') => some (v, hp', nx', none)
      | none => none
    | .value f => match ev f with
      | some (.func (.func g) a b) => bif enters P g then
          match evs ev c.args.toList with
          | some l => match call g (a.toList ++ l ++ b.toList) hp nx with
            | some (v, hp', nx') => some (v, hp', nx', none)
            | none => none
          | none => none
        else match pureQ P ev o with | some v => some (v, hp, nx, none) | none => none
      | _ => none
    | _ => match evQ P ev hp o with | some v => some (v, hp, nx, none) | none => none
  | _ => match evQ P ev hp o with | some v => some (v, hp, nx, none) | none => none
/-- what is put off -/
def Put (d : Option FuncId) (df df' : List Deferred) : Prop :=
  (d = none ∧ df' = df) ∨ ∃ g dd cap, d = some g ∧ dd.target = .fn (.func g) cap ∧ df' = dd :: df
theorem VR.func_inv {β : Where} {f : Fn} {a b : Array Value} {v' : Value} (h : VR β (.func f a b) v') : ∃ a' b' : List Value, v' = .func f ⟨a'⟩ ⟨b'⟩ ∧ VL β a.toList a' ∧ VL β b.toList b' := by
  cases h with
  | atom h => simp [Ev.atom] at h
  | func h1 h2 h3 h4 => exact ⟨_, _, rfl, ⟨h1, h2⟩, ⟨h3, h4⟩⟩
theorem evDo_sound {P : Program} {N0 : Nat} {call : CallE} (hcall : CallOK P N0 call) {β : Where} {hp hp' : T Blk} {nx nx' : Nat} {a : Act} {w : World} (I : Inv P β hp nx N0 w) {ev : Val} {o : Oper} {v : Value} {d : Option FuncId}
    (h : evDo P call ev hp nx o = some (v, hp', nx', d)) (hO : OR β ev a.eval o.op.operands) {K : Act → World → Prop} {Q : Exit → Act → World → Prop}
    (hK : ∀ β' v' w' df, Stp P N0 β hp nx w β' hp' nx' w' → VR β' v v' → Put d a.defers df → K ({ a with defers := df }.put o.dst v') w') : o.wp P a w K Q := by
  have quiet : ∀ {u : Value} {hq : T Blk} {nq : Nat} {dq : Option FuncId}, (match evQ P ev hp o with | some v => some (v, hp, nx, (none : Option FuncId)) | none => none) = some (u, hq, nq, dq) → u = v → hq = hp' → nq = nx' → dq = d → o.wp P a w K Q := by
    intro u hq nq dq h e1 e2 e3 e4
    cases hv : evQ P ev hp o with
    | none => rw [hv] at h; cases h
    | some v0 =>
      rw [hv] at h
      simp only [Option.some.injEq, Prod.mk.injEq] at h
      obtain ⟨r1, r2, r3, r4⟩ := h
      subst e1; subst e2; subst e3; subst e4; subst r1; subst r2; subst r3; subst r4
      obtain ⟨v', h1, h2⟩ := evQ_sound I hv hO
      unfold Oper.wp
      rw [h1]
      exact hK β v' w a.defers (Stp.refl I) h2 (.inl ⟨rfl, rfl⟩)
  have maker : ∀ {x : List Value × TypeId × Option (Nat × Nat)}, evM P ev o = some x → (bif Nat.ble x.1.length 1000000 then some (mkV x.2.2 nx, hp.set (some (.row (setN .leaf 0 x.1) x.1.length x.2.1)) nx, nx + 1, (none : Option FuncId)) else none) = some (v, hp', nx', d) → o.wp P a w K Q := by
    intro x hm h
    obtain ⟨cs, ty, sh⟩ := x
    cases hb : Nat.ble cs.length 1000000 with
    | false => rw [hb] at h; cases h
    | true =>
      rw [hb, cond_true] at h
      simp only [Option.some.injEq, Prod.mk.injEq] at h
      obtain ⟨rfl, rfl, rfl, rfl⟩ := h
      have hb := Nat.le_of_ble_eq_true hb
      obtain ⟨cs', h1, h2⟩ := evM_sound hm hO w
      have hnone : β nx = none := by
        cases h : β nx with
        | none => rfl
        | some r => exact absurd (I.bnd nx r h).1 (by omega)
      obtain ⟨k1, k2⟩ := (I.keep (.row (setN .leaf 0 cs) cs.length ty)).made (m := nx) (by omega) hnone (cs := cs) (cs' := cs') (t := setN .leaf 0 cs) (ty := ty) (by rw [T.get_set, if_pos rfl])
        (fun i hi => by rw [setN_get, if_pos ⟨by omega, by omega⟩, Nat.sub_zero]) (by unfold maxLen; omega) h1
      unfold Oper.wp
      rw [h2]
      refine hK (β.upd nx (w.heap.size, 0)) _ _ a.defers ⟨k2, by omega, k1, (Below.refl _ _).alloc I.base _, fun n hn hβ => ?_, Frm.new (fun k q hk hne hh => by rwa [T.get_set, if_neg hne] at hh) (.inl (Nat.le_refl _)) (fun g hg _ => Below.heap_alloc w _ _ hg)⟩ (mkV_VR (by unfold Where.upd; rw [if_pos rfl]) sh) (.inl ⟨rfl, rfl⟩)
      have hne : n ≠ nx := by omega
      exact ⟨by unfold Where.upd; rw [if_neg hne]; exact hβ, by rw [T.get_set, if_neg hne]⟩
  have mapper : ∀ {x : Value × T Blk × Nat}, mapQ P ev hp nx o = some x → some (x.1, x.2.1, x.2.2, (none : Option FuncId)) = some (v, hp', nx', d) → o.wp P a w K Q := by
    intro x hm h
    obtain ⟨u, hq, nq⟩ := x
    simp only [Option.some.injEq, Prod.mk.injEq] at h
    obtain ⟨rfl, rfl, rfl, rfl⟩ := h
    obtain ⟨β', v', w', h1, h2, h3⟩ := mapQ_sound I hm hO
    unfold Oper.wp
    rcases h1 with h1 | ⟨h1, rfl⟩
    · rw [h1]; exact hK β' v' w' a.defers h2 h3 (.inl ⟨rfl, rfl⟩)
    · rw [h1]; exact hK β' undef w' a.defers h2 h3 (.inl ⟨rfl, rfl⟩)
  unfold evDo at h
  split at h
  · split at h
    · next hm => exact maker hm h
    · cases h
  · split at h
    · next hm => exact maker hm h
    · cases h
  · split at h
    · next hm => exact maker hm h
    · cases h
  · split at h
    · next hm => exact maker hm h
    · cases h
  · next t ad x ho =>
    split at h
    · next n off v0 k h1 h2 h3 =>
      cases hb : Nat.beq v0.cells.size k with
      | false => rw [hb] at h; cases h
      | true =>
        rw [hb, cond_true] at h
        have hb := Nat.eq_of_beq_eq_true hb
        split at h
        · next hq hs =>
          simp only [Option.some.injEq, Prod.mk.injEq] at h
          obtain ⟨rfl, rfl, rfl, rfl⟩ := h
          obtain ⟨r, hr, ea⟩ := (hO ad (by rw [ho]; simp [Op.operands]) _ h1).ptr_inv
          have ex := (hO x (by rw [ho]; simp [Op.operands]) _ h2).cells
          obtain ⟨w', q1, q2, q3, q4⟩ := store_sound I hs hr ex
          have hsz : (a.eval x).cells.size = k := by have := ex.1; simpa [hb] using this.symm
          have hrun : (execOp a.eval o).run P w = .ok .skip w' := by
            unfold execOp
            simp only [ho, ea, Instr.storeAt, Instr.sureAddr, Sem.run_bind, Sem.run_pure, Result.andThen_ok, storeVar, run_sizeOf h3, hsz, ne_eq, not_true_eq_false, if_false, q1]
          unfold Oper.wp
          rw [hrun]
          refine hK β undef w' a.defers ⟨Ext.refl _, Nat.le_refl _, q2, q3, fun m _ hm => ⟨hm, ?_⟩, q4⟩ (undef_VR _) (.inl ⟨rfl, rfl⟩)
          unfold storeAt at hs
          split at hs
          · next cs mm ty hg =>
            cases hc : (Nat.ble (off + v0.cells.toList.length) mm && v0.cells.toList.all one) with
            | false => rw [hc] at hs; cases hs
            | true =>
              rw [hc] at hs
              cases hs
              rw [T.get_set, if_neg]
              intro e; rw [e, hr] at hm; cases hm
          · cases hs
        · cases h
    · cases h
  · split at h
    · next hm => exact mapper hm h
    · cases h
  · split at h
    · next hm => exact mapper hm h
    · cases h
  · split at h
    · next hm => exact mapper hm h
    · cases h
  · next src dst x ho =>
    split at h
    · next v0 hv0 => exact quiet (by rw [hv0]) (by simp only [Option.some.injEq, Prod.mk.injEq] at h; exact h.1) (by simp only [Option.some.injEq, Prod.mk.injEq] at h; exact h.2.1) (by simp only [Option.some.injEq, Prod.mk.injEq] at h; exact h.2.2.1) (by simp only [Option.some.injEq, Prod.mk.injEq] at h; exact h.2.2.2)
    · split at h
      · next u hq nq hcv =>
        simp only [Option.some.injEq, Prod.mk.injEq] at h
        obtain ⟨rfl, rfl, rfl, rfl⟩ := h
        obtain ⟨β', v', w', h1, h2, h3⟩ := convQ_sound I ho hcv hO
        unfold Oper.wp
        rw [h1]
        exact hK β' v' w' a.defers h2 h3 (.inl ⟨rfl, rfl⟩)
      · cases h
  · next c ho =>
    split at h
    · next f hc =>
      split at h
      · next g x y hf =>
        simp only [Option.some.injEq, Prod.mk.injEq] at h
        obtain ⟨rfl, rfl, rfl, rfl⟩ := h
        obtain ⟨a', b', e1, _, _⟩ := (hO f (by rw [ho]; simp [Op.operands, Call.operands, hc]) _ hf).func_inv
        have hrun : (execOp a.eval o).run P w = .ok (.defer { target := .fn (.func g) ⟨b'⟩, args := ⟨a'⟩ ++ c.args.map a.eval }) w := by
          unfold execOp
          simp only [ho, resolve, hc, e1, Deferred.ofValue, Sem.run_bind, Sem.run_pure, Result.andThen_ok]
        unfold Oper.wp
        rw [hrun]
        exact hK β undef w _ (Stp.refl I) (undef_VR _) (.inr ⟨g, _, ⟨b'⟩, rfl, rfl, rfl⟩)
      · cases h
    · cases h
  · next c ho =>
    split at h
    · next hc =>
      split at h
      · next u hq nq hap =>
        simp only [Option.some.injEq, Prod.mk.injEq] at h
        obtain ⟨rfl, rfl, rfl, rfl⟩ := h
        obtain ⟨β', v', w', h1, h2, h3⟩ := appQ_sound I ho hap hO
        unfold Oper.wp
        rw [h1]
        exact hK β' v' w' a.defers h2 h3 (.inl ⟨rfl, rfl⟩)
      · cases h
    · next f hc =>
      split at h
      · next g x y hf =>
        cases hen : enters P g with
        | false =>
          rw [hen, cond_false] at h
          split at h
          · next v0 hp0 =>
            simp only [Option.some.injEq, Prod.mk.injEq] at h
            obtain ⟨rfl, rfl, rfl, rfl⟩ := h
            obtain ⟨v', h1, h2⟩ := pureQ_sound hp0 hO w
            unfold Oper.wp
            rw [h1]
            exact hK β v' w a.defers (Stp.refl I) h2 (.inl ⟨rfl, rfl⟩)
          · cases h
        | true =>
          rw [hen, cond_true] at h
          split at h
          · next l hl =>
            split at h
            · next u hq nq hcl =>
              simp only [Option.some.injEq, Prod.mk.injEq] at h
              obtain ⟨rfl, rfl, rfl, rfl⟩ := h
              obtain ⟨a', b', e1, k1, k2⟩ := (hO f (by rw [ho]; simp [Op.operands, Call.operands, hc]) _ hf).func_inv
              have k3 := evs_sound (β := β) (ρ := a.eval) hl fun z hz u hu => hO z (by rw [ho]; simp [Op.operands, Call.operands, hc]; exact .inr (by simpa using hz)) u hu
              have hrun : (execOp a.eval o).run P w = .ok (.enter g ⟨a' ++ c.args.toList.map a.eval ++ b'⟩) w := by
                unfold execOp
                simp only [ho, resolve, hc, e1, Deferred.ofValue, Sem.run_bind, Sem.run_pure, Result.andThen_ok, invoke]
                rw [enters_run hen]
                congr 2
                apply Array.toList_inj.1
                simp
              unfold Oper.wp
              rw [hrun]
              refine Calls.mono (hcall _ _ _ _ _ _ _ hcl β w _ I ((k1.append k3).append k2)) ?_
              rintro e w' ⟨β', v', rfl, h2, h3⟩
              exact hK β' v' w' a.defers h2 h3 (.inl ⟨rfl, rfl⟩)
            · cases h
          · cases h
      · cases h
    · exact quiet h rfl rfl rfl rfl
  · exact quiet h rfl rfl rfl rfl
end Go.Proofs.YthponidjednfbaaGreatDoor.Ev
