/-
  What recovers does nothing where nothing panicked; what is known of builders.
-/
import Derived.Test.YtepaaochgljcdaaGreatDoorEvG
import Derived.Test.YtepaaochgljcdaaGreatDoorEvL
import Derived.Test.YtepaaochgljcdaaGreatDoorProg
import Derived.KernelRfl
import Derived.Recover
namespace Go.Proofs.YtepaaochgljcdaaGreatDoor
open Go.RowKit
open Ev (IdleOK CallE CallOK orB orB_sound checkQ checkQ_sound textQ textQ_sound)

theorem ev_nil (w : World) : (Instr.typeAssert .nilIface 20 33 true).run Tryz.prog w = .ok (.tuple #[.int .i64 0, .bool false]) w := by kernel_rfl
set_option maxRecDepth 100000 in
theorem idle0 (args : Array Value) (w : World) :
    CallsD Tryz.prog 21 args .returning w fun e u' w' => (∃ v, e = .returned v) ∧ u' = .returning ∧ w' = w := by
  have hta := ev_nil
  refine callsD_of_wpS Tryz.func21 rfl fun c₀ cs hu => ?_
  have hsz : 13 ≤ (args ++ Array.replicate (Tryz.f21.ntmps - args.size) undef).size := by simp [Tryz.ntmps21]; omega
  generalize (args ++ Array.replicate (Tryz.f21.ntmps - args.size) undef) = tm at *
  have k0 : 0 < tm.size := by omega
  have k1 : 1 < tm.size := by omega
  have k2 : 2 < tm.size := by omega
  have k3 : 3 < tm.size := by omega
  have k4 : 4 < tm.size := by omega
  have k5 : 5 < tm.size := by omega
  have k6 : 6 < tm.size := by omega
  have k7 : 7 < tm.size := by omega
  have k8 : 8 < tm.size := by omega
  have k9 : 9 < tm.size := by omega
  have k10 : 10 < tm.size := by omega
  have k11 : 11 < tm.size := by omega
  have k12 : 12 < tm.size := by omega
  apply wpS_seq
  apply wpS_region
  simp [wpOpsS, go_sem, recoverD, Exit.thenS, *]
  apply wpS_seq
  apply wpS_region
  simp [wpOpsS, go_sem, Exit.thenS, *]
  refine wpS_cond (t := false) (by simp [Act.eval, *]) ?_
  simp only [Bool.false_eq_true, if_false]
  refine wpS_of_wp (wp_skip ?_)
  cases c₀
  simp_all [bodyPostS, results]
set_option maxRecDepth 100000 in
theorem idle1 (args : Array Value) (w : World) :
    CallsD Tryz.prog 123 args .returning w fun e u' w' => (∃ v, e = .returned v) ∧ u' = .returning ∧ w' = w := by
  have hta := ev_nil
  refine callsD_of_wpS Tryz.func123 rfl fun c₀ cs hu => ?_
  have hsz : 11 ≤ (args ++ Array.replicate (Tryz.f123.ntmps - args.size) undef).size := by simp [Tryz.ntmps123]; omega
  generalize (args ++ Array.replicate (Tryz.f123.ntmps - args.size) undef) = tm at *
  have k0 : 0 < tm.size := by omega
  have k1 : 1 < tm.size := by omega
  have k2 : 2 < tm.size := by omega
  have k3 : 3 < tm.size := by omega
  have k4 : 4 < tm.size := by omega
  have k5 : 5 < tm.size := by omega
  have k6 : 6 < tm.size := by omega
  have k7 : 7 < tm.size := by omega
  have k8 : 8 < tm.size := by omega
  have k9 : 9 < tm.size := by omega
  have k10 : 10 < tm.size := by omega
  apply wpS_seq
  apply wpS_region
  simp [wpOpsS, go_sem, recoverD, Exit.thenS, *]
  apply wpS_seq
  apply wpS_region
  simp [wpOpsS, go_sem, Exit.thenS, *]
  refine wpS_cond (t := false) (by simp [Act.eval, *]) ?_
  simp only [Bool.false_eq_true, if_false]
  refine wpS_of_wp (wp_skip ?_)
  cases c₀
  simp_all [bodyPostS, results]
abbrev idles : FuncId → Bool := fun g => Nat.beq g 21 || Nat.beq g 123
theorem idles_ok : IdleOK Tryz.prog idles := by
  intro g hg
  simp only [idles, Bool.or_eq_true] at hg
  rcases hg with hg | hg
  · obtain rfl := Nat.eq_of_beq_eq_true hg
    exact ⟨by kernel_rfl, idle0⟩
  · obtain rfl := Nat.eq_of_beq_eq_true hg
    exact ⟨by kernel_rfl, idle1⟩
noncomputable abbrev builders : CallE := orB (checkQ Tryz.prog 60 85) (textQ 44 5)
theorem builders_ok (N0 : Nat) : CallOK Tryz.prog N0 builders := orB_sound (checkQ_sound check_ok N0) (textQ_sound text_ok N0)
/-- a call that returns just this, and lets all that was be -/
def Gave (v : Value) (w : World) (e : Ending) (w' : World) : Prop := e = .returned v ∧ Below w.heap.size w w'
end Go.Proofs.YtepaaochgljcdaaGreatDoor
