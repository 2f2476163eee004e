/-
  What recovers does nothing where nothing panicked; Awake answers true.
-/
import Derived.Test.YtkbcdlabfbonoaaGreatDoorEvD
import Derived.Test.YtkbcdlabfbonoaaGreatDoorProg
import Derived.KernelRfl
import Derived.Recover
namespace Go.Proofs.YtkbcdlabfbonoaaGreatDoor
open Go.RowKit
open Ev (IdleOK closed_call gaveB)

theorem ev_nil (w : World) : (Instr.typeAssert .nilIface 20 27 true).run Tryz.prog w = .ok (.tuple #[.int .i64 0, .bool false]) w := by kernel_rfl
set_option maxRecDepth 100000 in
theorem types_idle (args : Array Value) (w : World) :
    CallsD Tryz.prog 117 args .returning w fun e u' w' => (∃ v, e = .returned v) ∧ u' = .returning ∧ w' = w := by
  have hta := ev_nil
  refine callsD_of_wpS Tryz.func117 rfl fun c₀ cs hu => ?_
  have hsz : 18 ≤ (args ++ Array.replicate (Tryz.f117.ntmps - args.size) undef).size := by simp [Tryz.ntmps117]; omega
  generalize (args ++ Array.replicate (Tryz.f117.ntmps - args.size) undef) = tm at *
  have k4 : 4 < tm.size := by omega
  have k5 : 5 < tm.size := by omega
  have k6 : 6 < tm.size := by omega
  have k7 : 7 < tm.size := by omega
  have k8 : 8 < tm.size := by omega
  have k9 : 9 < tm.size := by omega
  have k10 : 10 < tm.size := by omega
  have k11 : 11 < tm.size := by omega
  apply wpS_seq
  apply wpS_region
  simp [wpOpsS, go_sem, recoverD, Exit.thenS, *]
  apply wpS_seq
  apply wpS_region
  simp [wpOpsS, go_sem, Exit.thenS, *]
  refine wpS_cond (t := false) (by simp [Act.eval, *]) ?_
  simp only [Bool.false_eq_true, if_false]
  refine wpS_of_wp (wp_skip ?_)
  cases c₀
  simp_all [bodyPostS, results]
set_option maxRecDepth 100000 in
theorem eval_idle (args : Array Value) (w : World) :
    CallsD Tryz.prog 123 args .returning w fun e u' w' => (∃ v, e = .returned v) ∧ u' = .returning ∧ w' = w := by
  have hta := ev_nil
  refine callsD_of_wpS Tryz.func123 rfl fun c₀ cs hu => ?_
  have hsz : 12 ≤ (args ++ Array.replicate (Tryz.f123.ntmps - args.size) undef).size := by simp [Tryz.ntmps123]; omega
  generalize (args ++ Array.replicate (Tryz.f123.ntmps - args.size) undef) = tm at *
  have k2 : 2 < tm.size := by omega
  have k3 : 3 < tm.size := by omega
  have k4 : 4 < tm.size := by omega
  have k5 : 5 < tm.size := by omega
  have k6 : 6 < tm.size := by omega
  have k7 : 7 < tm.size := by omega
  have k8 : 8 < tm.size := by omega
  have k9 : 9 < tm.size := by omega
  apply wpS_seq
  apply wpS_region
  simp [wpOpsS, go_sem, recoverD, Exit.thenS, *]
  apply wpS_seq
  apply wpS_region
  simp [wpOpsS, go_sem, Exit.thenS, *]
  refine wpS_cond (t := false) (by simp [Act.eval, *]) ?_
  simp only [Bool.false_eq_true, if_false]
  refine wpS_of_wp (wp_skip ?_)
  cases c₀
  simp_all [bodyPostS, results]
abbrev idles : FuncId → Bool := fun g => Nat.beq g 117 || Nat.beq g 123
theorem idles_ok : IdleOK Tryz.prog idles := by
  intro g hg
  simp only [idles, Bool.or_eq_true] at hg
  rcases hg with hg | hg
  · obtain rfl := Nat.eq_of_beq_eq_true hg
    exact ⟨by kernel_rfl, types_idle⟩
  · obtain rfl := Nat.eq_of_beq_eq_true hg
    exact ⟨by kernel_rfl, eval_idle⟩
/-- a call that returns just this, and lets all that was be -/
def Gave (v : Value) (w : World) (e : Ending) (w' : World) : Prop := e = .returned v ∧ Below w.heap.size w w'
end Go.Proofs.YtkbcdlabfbonoaaGreatDoor
