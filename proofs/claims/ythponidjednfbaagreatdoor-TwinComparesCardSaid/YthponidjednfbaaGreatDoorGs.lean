/-
  No function of the program starts a goroutine.
-/
import Derived.Test.YthponidjednfbaaGreatDoorProg
import Derived.KernelRfl
import GoSem.ClaimGoes
namespace Go.Proofs.YthponidjednfbaaGreatDoor

set_option maxRecDepth 1000000 in
theorem goes_all : (Tryz.prog.funcs.toList.all fun fn => !fn.goes) = true := by kernel_rfl
theorem goes_none {c : OpenClaim} (h : c.start = .entering) : false = c.goesBy Tryz.prog := by
  have hall : ∀ (g : Nat), (Tryz.prog.funcs[g]?).any Func.goes = false := fun g => by
    cases hg : Tryz.prog.funcs[g]? with
    | none => rfl
    | some fn =>
      have := List.all_eq_true.1 goes_all fn (by
        rw [Array.getElem?_eq_some_iff] at hg
        obtain ⟨hlt, rfl⟩ := hg
        simp)
      simpa using this
  have hany : Tryz.prog.funcs.any Func.goes = false := by
    rw [Bool.eq_false_iff]
    intro hc
    rw [Array.any_eq_true] at hc
    obtain ⟨i, hi, hg⟩ := hc
    have := hall i
    rw [Array.getElem?_eq_getElem hi] at this
    simp [hg] at this
  have hf : ∀ f, Tryz.prog.goes f = false := fun f => by
    unfold Program.goes
    rw [hany, Bool.and_false, Bool.or_false]
    rw [List.any_eq_false]
    intro g _
    rw [hall g]
    simp
  unfold OpenClaim.goesBy Program.goesAt Program.goesFrom
  rw [h]
  cases Tryz.prog.funcNamed c.func with
  | none => rfl
  | some f => simp [hf]
end Go.Proofs.YthponidjednfbaaGreatDoor
