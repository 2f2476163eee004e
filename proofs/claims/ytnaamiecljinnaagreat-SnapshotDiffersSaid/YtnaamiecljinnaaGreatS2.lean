/-
  The walks of the snapshot's many, and of what catches a panic.
-/
import Derived.Test.YtnaamiecljinnaaGreatS1
import Derived.Defers
import Derived.Recover
namespace Go.Proofs.YtnaamiecljinnaaGreat
open Go.RowKit

def manyE (n : Int) : Option (List UInt8) := if n ≤ 500 then numsE [n] else none

set_option maxRecDepth 100000 in
set_option maxHeartbeats 2000000 in
theorem smany_any (n : Int) (B b : Nat) (o : List UInt8) (ho : o.length ≤ 10000000) (w : World) (hb : Bld 74 B b o w) :
    Calls Tryz.prog 39 #[.pointer (some ⟨b, 0, none⟩), .int .i64 n] w (WrOr 74 B b o (manyE n) w) := by
  have HMy := Lib.hid must_yes
  have HMn := Lib.hid must_no
  by_cases h : n ≤ 500
  · have t1 : decide (n ≤ 500) = true := decide_eq_true h
    have HN := snum_any [n] 1 _ rfl rfl (by omega) w.heap.size B b o ho _ (hb.alloc (.cells #[.int .i64 n] 3)) (heap_alloc_new w _)
    rw [manyE, if_pos h]
    have hB := hb.1
    clear h
    generalize numsE [n] = r at *
    cases r
    · have HN := Lib.hid HN
      go_enter Tryz.func39, Tryz.ntmps39
      go_wp2_with fail
      refine (HMy.out _).mono ?_; rintro e w1 ⟨rfl, rfl⟩
      go_wp2_with fail
      refine (HN.out).mono ?_
      rintro e w2 ⟨rfl, hb2⟩
      go_wp2_with fail
      exact ⟨rfl, rfl, ((Below.refl _ _).alloc hB _).trans hb2⟩
    · have HN := Lib.hid HN
      go_enter Tryz.func39, Tryz.ntmps39
      go_wp2_with fail
      refine (HMy.out _).mono ?_; rintro e w1 ⟨rfl, rfl⟩
      go_wp2_with fail
      refine (HN.out).mono ?_
      rintro e w2 ⟨rfl, hb2, hw2⟩
      go_wp2_with fail
      go_end0
      exact ⟨rfl, hb2, ((Wrote.refl _ _ _).alloc hB _).trans hw2⟩
  · have t1 : decide (n ≤ 500) = false := decide_eq_false h
    rw [manyE, if_neg h]
    clear h
    go_enter Tryz.func39, Tryz.ntmps39
    go_wp2_with fail
    refine (HMn.out _).mono ?_; rintro e w1 ⟨rfl, rfl⟩
    go_wp2_with fail
    exact ⟨rfl, rfl, Below.refl _ _⟩

theorem ta_errno (x : Int) (w : World) : (Instr.typeAssert (.iface 31 (.int .i64 x)) 20 31 true).run Tryz.prog w = .ok (.tuple #[.int .i64 x, .bool true]) w := by kernel_rfl
theorem ta_nil (w : World) : (Instr.typeAssert .nilIface 20 31 true).run Tryz.prog w = .ok (.tuple #[.int .i64 0, .bool false]) w := by kernel_rfl

set_option maxRecDepth 100000 in
theorem caught_up (p : Addr) (x y : Int) (w : World) (hc : w.cell? p = some (.int .i64 y)) (hz : w.frozen? p = false) :
    CallsD Tryz.prog 17 #[.pointer (some p)] (.panicking [{ v := .iface 31 (.int .i64 x), recovered := false }]) w fun e u' w' =>
      e = .returned (.tuple #[]) ∧ u' = .panicking [{ v := .iface 31 (.int .i64 x), recovered := true }] ∧ w' = w.setCell p (.int .i64 x) := by
  have hta := ta_errno x
  refine callsD_of_wpS Tryz.func17 rfl fun c₀ cs hu => ?_
  apply wpS_seq
  apply wpS_region
  simp [wpOpsS, go_sem, recoverD, hu, hta, Tryz.ntmps17, Exit.thenS]
  apply wpS_seq
  apply wpS_region
  simp [wpOpsS, go_sem, Exit.thenS]
  refine wpS_cond (t := true) (by simp [Act.eval, Array.replicate]) ?_
  simp only [if_true]
  apply wpS_region
  simp [wpOpsS, go_sem, hc, hz, bodyPostS, results, Tryz.results17]
set_option maxRecDepth 100000 in
theorem caught_idle (p : Addr) (w : World) :
    CallsD Tryz.prog 17 #[.pointer (some p)] .returning w fun e u' w' => e = .returned (.tuple #[]) ∧ u' = .returning ∧ w' = w := by
  have hta := ta_nil
  refine callsD_of_wpS Tryz.func17 rfl fun c₀ cs hu => ?_
  apply wpS_seq
  apply wpS_region
  simp [wpOpsS, go_sem, recoverD, hu, hta, Tryz.ntmps17, Exit.thenS]
  apply wpS_seq
  apply wpS_region
  simp [wpOpsS, go_sem, Exit.thenS]
  refine wpS_cond (t := false) (by simp [Act.eval, Array.replicate]) ?_
  simp only [Bool.false_eq_true, if_false]
  refine wpS_of_wp (wp_skip ?_)
  cases c₀
  simp_all [bodyPostS, results, Tryz.results17]
end Go.Proofs.YtnaamiecljinnaaGreat
