/-
  Calls that are given by their walk, as the evaluator's; closed calls with arguments.
-/
import Derived.Test.YtepaaochgljcdaaGreatDoorEvG
namespace Go.Proofs.YtepaaochgljcdaaGreatDoor.Ev
open RowKit

theorem flat_args {β : Where} {l l' : List Value} (hf : l.all flat = true) (h : VL β l l') : l' = l :=
  list_same h.1 fun i v v' hv hv' => flat_same 5 (by simp only [List.all_eq_true] at hf; exact hf v (List.mem_of_getElem? hv)) (h.2 i v v' hv hv')
/-- a call whose answer is known by its walk -/
def givenE (f0 : FuncId) (args0 : List Value) (v0 : Value) : CallE := fun f args hp nx =>
  bif Nat.beq f f0 && eqL (veqN 6) args args0 then some (v0, hp, nx) else none
theorem given_ok {P : Program} {f0 : FuncId} {args0 : List Value} {v0 : Value} (hf : args0.all flat = true) (hv : flat v0 = true)
    (H : ∀ w, Calls P f0 ⟨args0⟩ w fun e w' => e = .returned v0 ∧ Below w.heap.size w w') (N0 : Nat) : CallOK P N0 (givenE f0 args0 v0) := by
  intro f args hp nx v hp' nx' h β w args' I hl
  unfold givenE at h
  cases hb : (Nat.beq f f0 && eqL (veqN 6) args args0) with
  | false => rw [hb] at h; cases h
  | true =>
    rw [hb, cond_true] at h
    simp only [Option.some.injEq, Prod.mk.injEq] at h
    obtain ⟨rfl, rfl, rfl⟩ := h
    simp only [Bool.and_eq_true] at hb
    have e1 := Nat.eq_of_beq_eq_true hb.1
    have e2 := eqL_eq (veqN_eq 6) hb.2
    subst e1; subst e2
    rw [flat_args hf hl]
    refine Calls.mono (H w) ?_
    rintro e w' ⟨rfl, hw⟩
    refine ⟨β, _, rfl, ⟨Ext.refl _, Nat.le_refl _, ?_, ⟨hw.os, hw.tape, hw.output, hw.size, fun k hk => hw.block k (Nat.lt_of_lt_of_le hk I.base)⟩, fun _ _ h => ⟨h, rfl⟩, Frm.at (fun _ h => h) (fun g hg _ => hw.block g hg)⟩, flat_refl 5 hv⟩
    exact I.upd I.cln (Ext.refl _) (Nat.le_refl _) hw.size (fun n r h => .inl h) I.inj fun n r b h1 h2 => .inl ⟨h1, h2, hw.block _ (I.bnd n r h1).2.2⟩
/-- what a closed call with arguments gave -/
noncomputable def gaveA (P : Program) (idle : FuncId → Bool) (known : CallE) (rounds k : Nat) (f : FuncId) (args : List Value) : Option Value :=
  match callB P idle known rounds k f args .leaf 0 with | some (v, _) => bif args.all flat && flat v then some v else none | none => none
theorem closed_at {P : Program} {idle : FuncId → Bool} (hi : IdleOK P idle) {known : CallE} (hk : ∀ N0, CallOK P N0 known) {rounds k : Nat} {f : FuncId} {args : List Value} {v : Value} (h : gaveA P idle known rounds k f args = some v) (w : World) :
    Calls P f ⟨args⟩ w fun e w' => e = .returned v ∧ Below w.heap.size w w' := by
  unfold gaveA at h
  split at h
  · next v' r hc =>
    cases hb : (args.all flat && flat v') with
    | false => rw [hb] at h; cases h
    | true =>
      rw [hb] at h
      cases h
      simp only [Bool.and_eq_true] at hb
      obtain ⟨hp', nx'⟩ := r
      have I : Inv P (fun _ => none) .leaf 0 w.heap.size w := ⟨(fun n r h => by cases h), (fun n m r q h => by cases h), (fun n r b h => by cases h), Nat.le_refl _, fun _ _ => rfl⟩
      refine Calls.mono (callB_sound hi (hk w.heap.size) rounds k f args .leaf 0 _ hp' nx' hc _ w args I (flat_VL hb.1)) ?_
      rintro e w' ⟨β', v', rfl, hs, hv⟩
      exact ⟨by rw [flat_same 5 hb.2 hv], hs.bel⟩
  · cases h
end Go.Proofs.YtepaaochgljcdaaGreatDoor.Ev
