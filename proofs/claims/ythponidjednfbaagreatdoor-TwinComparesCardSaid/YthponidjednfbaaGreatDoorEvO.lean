/-
  What recovers does nothing where nothing panicked; what is known of builders.
-/
import Derived.Test.YthponidjednfbaaGreatDoorEvG
import Derived.Test.YthponidjednfbaaGreatDoorEvL
import Derived.Test.YthponidjednfbaaGreatDoorProg
import Derived.KernelRfl
import Derived.Recover
namespace Go.Proofs.YthponidjednfbaaGreatDoor
open Go.RowKit
open Ev (IdleOK CallE CallOK orB orB_sound checkQ checkQ_sound textQ textQ_sound)

theorem ev_nil (w : World) : (Instr.typeAssert .nilIface 20 35 true).run Tryz.prog w = .ok (.tuple #[.int .i64 0, .bool false]) w := by kernel_rfl
set_option maxRecDepth 100000 in
theorem idle0 (args : Array Value) (w : World) :
    CallsD Tryz.prog 227 args .returning w fun e u' w' => (∃ v, e = .returned v) ∧ u' = .returning ∧ w' = w := by
  have hta := ev_nil
  refine callsD_of_wpS Tryz.func227 rfl fun c₀ cs hu => ?_
  have hsz : 18 ≤ (args ++ Array.replicate (Tryz.f227.ntmps - args.size) undef).size := by simp [Tryz.ntmps227]; omega
  generalize (args ++ Array.replicate (Tryz.f227.ntmps - args.size) undef) = tm at *
  have k0 : 0 < tm.size := by omega
  have k1 : 1 < tm.size := by omega
  have k2 : 2 < tm.size := by omega
  have k3 : 3 < tm.size := by omega
  have k4 : 4 < tm.size := by omega
  have k5 : 5 < tm.size := by omega
  have k6 : 6 < tm.size := by omega
  have k7 : 7 < tm.size := by omega
  have k8 : 8 < tm.size := by omega
  have k9 : 9 < tm.size := by omega
  have k10 : 10 < tm.size := by omega
  have k11 : 11 < tm.size := by omega
  have k12 : 12 < tm.size := by omega
  have k13 : 13 < tm.size := by omega
  have k14 : 14 < tm.size := by omega
  have k15 : 15 < tm.size := by omega
  have k16 : 16 < tm.size := by omega
  have k17 : 17 < tm.size := by omega
  apply wpS_seq
  apply wpS_region
  simp [wpOpsS, go_sem, recoverD, Exit.thenS, *]
  apply wpS_seq
  apply wpS_region
  simp [wpOpsS, go_sem, Exit.thenS, *]
  refine wpS_cond (t := false) (by simp [Act.eval, *]) ?_
  simp only [Bool.false_eq_true, if_false]
  refine wpS_of_wp (wp_skip ?_)
  cases c₀
  simp_all [bodyPostS, results]
set_option maxRecDepth 100000 in
theorem idle1 (args : Array Value) (w : World) :
    CallsD Tryz.prog 233 args .returning w fun e u' w' => (∃ v, e = .returned v) ∧ u' = .returning ∧ w' = w := by
  have hta := ev_nil
  refine callsD_of_wpS Tryz.func233 rfl fun c₀ cs hu => ?_
  have hsz : 12 ≤ (args ++ Array.replicate (Tryz.f233.ntmps - args.size) undef).size := by simp [Tryz.ntmps233]; omega
  generalize (args ++ Array.replicate (Tryz.f233.ntmps - args.size) undef) = tm at *
  have k0 : 0 < tm.size := by omega
  have k1 : 1 < tm.size := by omega
  have k2 : 2 < tm.size := by omega
  have k3 : 3 < tm.size := by omega
  have k4 : 4 < tm.size := by omega
  have k5 : 5 < tm.size := by omega
  have k6 : 6 < tm.size := by omega
  have k7 : 7 < tm.size := by omega
  have k8 : 8 < tm.size := by omega
  have k9 : 9 < tm.size := by omega
  have k10 : 10 < tm.size := by omega
  have k11 : 11 < tm.size := by omega
  apply wpS_seq
  apply wpS_region
  simp [wpOpsS, go_sem, recoverD, Exit.thenS, *]
  apply wpS_seq
  apply wpS_region
  simp [wpOpsS, go_sem, Exit.thenS, *]
  refine wpS_cond (t := false) (by simp [Act.eval, *]) ?_
  simp only [Bool.false_eq_true, if_false]
  refine wpS_of_wp (wp_skip ?_)
  cases c₀
  simp_all [bodyPostS, results]
set_option maxRecDepth 100000 in
theorem idle2 (args : Array Value) (w : World) :
    CallsD Tryz.prog 200 args .returning w fun e u' w' => (∃ v, e = .returned v) ∧ u' = .returning ∧ w' = w := by
  have hta := ev_nil
  refine callsD_of_wpS Tryz.func200 rfl fun c₀ cs hu => ?_
  have hsz : 13 ≤ (args ++ Array.replicate (Tryz.f200.ntmps - args.size) undef).size := by simp [Tryz.ntmps200]; omega
  generalize (args ++ Array.replicate (Tryz.f200.ntmps - args.size) undef) = tm at *
  have k0 : 0 < tm.size := by omega
  have k1 : 1 < tm.size := by omega
  have k2 : 2 < tm.size := by omega
  have k3 : 3 < tm.size := by omega
  have k4 : 4 < tm.size := by omega
  have k5 : 5 < tm.size := by omega
  have k6 : 6 < tm.size := by omega
  have k7 : 7 < tm.size := by omega
  have k8 : 8 < tm.size := by omega
  have k9 : 9 < tm.size := by omega
  have k10 : 10 < tm.size := by omega
  have k11 : 11 < tm.size := by omega
  have k12 : 12 < tm.size := by omega
  apply wpS_seq
  apply wpS_region
  simp [wpOpsS, go_sem, recoverD, Exit.thenS, *]
  apply wpS_seq
  apply wpS_region
  simp [wpOpsS, go_sem, Exit.thenS, *]
  refine wpS_cond (t := false) (by simp [Act.eval, *]) ?_
  simp only [Bool.false_eq_true, if_false]
  refine wpS_of_wp (wp_skip ?_)
  cases c₀
  simp_all [bodyPostS, results]
set_option maxRecDepth 100000 in
theorem idle3 (args : Array Value) (w : World) :
    CallsD Tryz.prog 431 args .returning w fun e u' w' => (∃ v, e = .returned v) ∧ u' = .returning ∧ w' = w := by
  have hta := ev_nil
  refine callsD_of_wpS Tryz.func431 rfl fun c₀ cs hu => ?_
  have hsz : 11 ≤ (args ++ Array.replicate (Tryz.f431.ntmps - args.size) undef).size := by simp [Tryz.ntmps431]; omega
  generalize (args ++ Array.replicate (Tryz.f431.ntmps - args.size) undef) = tm at *
  have k0 : 0 < tm.size := by omega
  have k1 : 1 < tm.size := by omega
  have k2 : 2 < tm.size := by omega
  have k3 : 3 < tm.size := by omega
  have k4 : 4 < tm.size := by omega
  have k5 : 5 < tm.size := by omega
  have k6 : 6 < tm.size := by omega
  have k7 : 7 < tm.size := by omega
  have k8 : 8 < tm.size := by omega
  have k9 : 9 < tm.size := by omega
  have k10 : 10 < tm.size := by omega
  apply wpS_seq
  apply wpS_region
  simp [wpOpsS, go_sem, recoverD, Exit.thenS, *]
  apply wpS_seq
  apply wpS_region
  simp [wpOpsS, go_sem, Exit.thenS, *]
  refine wpS_cond (t := false) (by simp [Act.eval, *]) ?_
  simp only [Bool.false_eq_true, if_false]
  refine wpS_of_wp (wp_skip ?_)
  cases c₀
  simp_all [bodyPostS, results]
abbrev idles : FuncId → Bool := fun g => Nat.beq g 227 || Nat.beq g 233 || Nat.beq g 200 || Nat.beq g 431
theorem idles_ok : IdleOK Tryz.prog idles := by
  intro g hg
  simp only [idles, Bool.or_eq_true] at hg
  rcases hg with ((hg | hg) | hg) | hg
  · obtain rfl := Nat.eq_of_beq_eq_true hg
    exact ⟨by kernel_rfl, idle0⟩
  · obtain rfl := Nat.eq_of_beq_eq_true hg
    exact ⟨by kernel_rfl, idle1⟩
  · obtain rfl := Nat.eq_of_beq_eq_true hg
    exact ⟨by kernel_rfl, idle2⟩
  · obtain rfl := Nat.eq_of_beq_eq_true hg
    exact ⟨by kernel_rfl, idle3⟩
noncomputable abbrev builders : CallE := orB (checkQ Tryz.prog 262 260) (textQ 141 5)
theorem builders_ok (N0 : Nat) : CallOK Tryz.prog N0 builders := orB_sound (checkQ_sound check_ok N0) (textQ_sound text_ok N0)
/-- a call that returns just this, and lets all that was be -/
def Gave (v : Value) (w : World) (e : Ending) (w' : World) : Prop := e = .returned v ∧ Below w.heap.size w w'
end Go.Proofs.YthponidjednfbaaGreatDoor
