/-
  What a builder's check and its String do, wherever it lies.
-/
import Derived.Test.YthponidjednfbaaGreatDoorEvE
import Derived.Test.YthponidjednfbaaGreatDoorProg
import Derived.KernelRfl
import Derived.Laws.Externs
import Derived.OwnWalk
import Derived.RegionTactic
import Derived.Lib.Builder
import Derived.Lib.UnsafeStr
import Derived.Lib.Bytes
import Derived.Lib.Hide
import Derived.Below
namespace Go.Proofs.YthponidjednfbaaGreatDoor
open Go.RowKit
open Ev (CheckOK TextOK Frozen)

set_option maxHeartbeats 1000000 in
set_option maxRecDepth 100000 in
theorem echeck_used (b : Nat) (w : World) (h0 : w.cell? ⟨b, 0, none⟩ = some (.pointer (some ⟨b, 0, none⟩))) :
    Calls Tryz.prog 262 #[.pointer (some ⟨b, 0, none⟩)] w fun e w' => e = .returned (.tuple #[]) ∧ w = w' := by
  obtain ⟨j, hj, _⟩ := Option.map_eq_some_iff.1 (show (Tryz.prog.info? 260).map (·.size) = some 2 by kernel_rfl)
  go_enter Tryz.func262, Tryz.ntmps262
  go_wp2
  rw [Lib.run_neq_ptr_same w _ Tryz.underlying257 hj]
  go_wp2
  go_end0
  exact ⟨rfl, rfl⟩
set_option maxHeartbeats 1000000 in
set_option maxRecDepth 100000 in
theorem echeck_fresh (b : Nat) (T : TypeId) (n : Nat) (w : World) (hsh : w.shape? b = some (T, n)) (hn : 0 < n) (hl : liesAt Tryz.prog Tryz.prog.depth T (n / Tryz.prog.cellsOf T) 0 260 1 = true)
    (h0 : w.cell? ⟨b, 0, none⟩ = some (.pointer none)) (hfz : w.frozen? ⟨b, 0, none⟩ = false) :
    Calls Tryz.prog 262 #[.pointer (some ⟨b, 0, none⟩)] w fun e w' => e = .returned (.tuple #[]) ∧ w.setCell ⟨b, 0, none⟩ (.pointer (some ⟨b, 0, none⟩)) = w' := by
  obtain ⟨j, hj, hjs⟩ := Option.map_eq_some_iff.1 (show (Tryz.prog.info? 260).map (·.size) = some 2 by kernel_rfl)
  have HL := Lib.hid hl; clear hl
  go_enter Tryz.func262, Tryz.ntmps262
  go_wp2
  rw [Lib.run_to_unsafe w ⟨b, 0, none⟩ Tryz.underlying257 Tryz.underlying430 hj (by rw [hjs]; decide) hsh hn]
  simp only [Result.andThen]
  rw [Oper.upon_value]
  go_wp2
  rw [run_callFunc_extern Tryz.func326 (by kernel_rfl) (by kernel_rfl) (by kernel_rfl) (e := Extern.AbiNoEscape.same) (by kernel_rfl)]
  rw [Lib.run_noEscape]
  simp only [Result.andThen]
  rw [Oper.upon_value]
  go_wp2
  rw [Lib.run_from_unsafe w ⟨b, 0, none⟩ Tryz.underlying430 Tryz.underlying257 hj hsh HL.out]
  simp only [Result.andThen]
  rw [Oper.upon_value]
  go_wp2
  go_end0
  exact ⟨rfl, rfl⟩
theorem check_ok : CheckOK Tryz.prog 262 260 := ⟨echeck_used, echeck_fresh⟩
set_option maxHeartbeats 2000000 in
set_option maxRecDepth 100000 in
theorem etext_none (b : Nat) (w : World) (c1 : w.cell? ⟨b, 1, none⟩ = some (.slice none 0 0)) :
    Calls Tryz.prog 141 #[.pointer (some ⟨b, 0, none⟩)] w fun e w' => e = .returned (.string .empty) ∧ Frozen none w w' := by
  have hUS : ∀ (W : World) (q : Option Addr), (Builtin.unsafeString_ #[327, 3] 9 #[.pointer q, .int .i64 0]).run Tryz.prog W = .ok (.string .empty) W := fun W q => Lib.run_unsafeString_none W _ _ _ q
  have hSD : ∀ W : World, (Builtin.unsafeSliceData_ #[258] 327 #[.slice none 0 0]).run Tryz.prog W = .ok (.pointer none) W := fun _ => rfl
  go_enter Tryz.func141, Tryz.ntmps141
  go_wp2
  go_region
  all_goals (go_wp2; go_ret; exact ⟨rfl, ⟨rfl, rfl, rfl, Nat.le_refl _, fun _ _ _ => rfl, fun k cs ty fz h => by cases h⟩⟩)
set_option maxHeartbeats 2000000 in
set_option maxRecDepth 100000 in
theorem etext_full (b g cap : Nat) (l : List UInt8) (cur : Array Value) (w : World) (h0 : l ≠ []) (hl : l.length ≤ 1000000) (c1' : w.cell? ⟨b, 1, none⟩ = some (.slice (some ⟨g, 0, none⟩) l.length cap)) (hc : l.length ≤ cap)
    (hg : w.heap[g]? = some (.cells cur 5 (0, 0))) (_ : b ≠ g) (hcur : l.length ≤ cur.size) (hby : ∀ (j : Nat) (x : UInt8), l[j]? = some x → cur[j]? = some (Value.int .u8 x.toNat)) :
    Calls Tryz.prog 141 #[.pointer (some ⟨b, 0, none⟩)] w fun e w' => e = .returned (.string ⟨l.toArray⟩) ∧ Frozen (some g) w w' := by
  have hl0 : l.length ≠ 0 := by simpa using h0
  have c1 : w.drew.cell? ⟨b, 1, none⟩ = some (.slice (some ⟨g, 0, none⟩) l.length cap) := c1'
  have hSD : (Builtin.unsafeSliceData_ #[258] 327 #[.slice (some ⟨g, 0, none⟩) l.length cap]).run Tryz.prog w.drew = .ok (.pointer (some ⟨g, 0, none⟩)) w.drew :=
    Lib.run_unsafeSliceData_row _ _ _ _ _ _ (by omega)
  have hUS : (Builtin.unsafeString_ #[327, 3] 9 #[.pointer (some ⟨g, 0, none⟩), .int .i64 l.length]).run Tryz.prog w.drew = .ok (.string ⟨l.toArray⟩) (w.drew.freeze ⟨g, 0, none⟩ l.length) := by
    refine Lib.run_unsafeString_row w.drew 327 3 9 5 Tryz.underlying327 (by kernel_rfl) g cur.size (by have hg' : w.drew.heap[g]? = some (.cells cur 5 (0, 0)) := hg; simp [World.shape?, hg']) l h0 hcur (by omega) ?_
    intro j x hx
    have hg' : w.drew.heap[g]? = some (.cells cur 5 (0, 0)) := hg
    have := hby j x hx
    rw [Go.WideShapes.add_plain]
    simpa [World.cell?, hg'] using this
  have hF : Frozen (some g) w (w.drew.freeze ⟨g, 0, none⟩ l.length) := by
    unfold World.freeze
    rw [if_neg hl0]
    refine ⟨rfl, rfl, rfl, by simp, fun k hk hne => ?_, fun k cs ty fz hk hcs => ?_⟩
    · simp only [Array.getElem?_modify]
      rw [if_neg (fun e => hne (by rw [e]))]
      rfl
    · cases hk
      have hcs' : w.drew.heap[g]? = some (.cells cs ty fz) := hcs
      simp only [Array.getElem?_modify, if_pos, hcs', Option.map_some]
      exact ⟨_, rfl⟩
  clear hg hby hcur hc
  go_enter Tryz.func141, Tryz.ntmps141
  go_wp2
  go_region
  all_goals (go_wp2; go_ret; exact ⟨rfl, hF⟩)
theorem text_ok : TextOK Tryz.prog 141 5 := ⟨etext_none, etext_full⟩
end Go.Proofs.YthponidjednfbaaGreatDoor
