/-
  Gh, S9 in one text.
-/
import Derived.ArgAppend
import Derived.Below
import Derived.BigQuiet
import Derived.Deep.AppendLies
import Derived.Deep.Cut
import Derived.Deep.CutBlock
import Derived.Deep.DeepCutAuto
import Derived.Deep.QuietTactic
import Derived.Deep.RegionHeld3
import Derived.Deep.RegionLaw
import Derived.Deep.RegionWith
import Derived.Deep.Upon
import Derived.Defers
import Derived.Handy
import Derived.IntWalk
import Derived.Laws.Bits64b
import Derived.Laws.FloatBits
import Derived.Laws.OwnMore
import Derived.Lib.AtoiAll
import Derived.Lib.Builder
import Derived.Lib.Bytes
import Derived.Lib.ConvBytes
import Derived.Lib.FrozenHead2
import Derived.Lib.Hide
import Derived.Lib.IndexMore
import Derived.Lib.ItoaNum
import Derived.Lib.MinMax
import Derived.Lib.OthersKept
import Derived.Lib.ParseIntB
import Derived.Lib.UnsafeStr
import Derived.LoopTactic
import Derived.OneCell
import Derived.OwnWalk
import Derived.Recover
import Derived.RegionTactic
import Derived.Shelf.Abstract
import Derived.StillTailTactics
import Derived.Tactics
import Derived.Tactics2
import Derived.Test.YtnaamiecljinnaaGreatChecked
import Derived.WalkKit
import Derived.WalkLawsBesides
import Derived.WalkSpells
import Ieee.Arith
import Derived.Test.YtnaamiecljinnaaGreatS00
import Derived.Test.YtnaamiecljinnaaGreatS02
import Derived.Test.YtnaamiecljinnaaGreatS08
import Derived.Test.YtnaamiecljinnaaGreatS14
import Derived.Test.YtnaamiecljinnaaGreatS15
import Derived.Test.YtnaamiecljinnaaGreatS18
import Derived.Test.YtnaamiecljinnaaGreatS30
namespace Go.Proofs.YtnaamiecljinnaaGreat
section
open Go.RowKit
theorem can_len {l m : List It} (h : l.map canI = m.map canI) : l.length = m.length := by
  have := congrArg List.length h
  simpa using this
theorem can_at {l m : List It} (h : l.map canI = m.map canI) {i : Nat} (hi : i < l.length) : canI (l.getD i ([], [])) = canI (m.getD i ([], [])) := by
  have hl := can_len h
  have h1 := congrArg (fun x => x[i]?) h
  simp only [List.getElem?_map] at h1
  rw [List.getElem?_eq_getElem hi, List.getElem?_eq_getElem (by omega)] at h1
  simp only [Option.map_some, Option.some.injEq] at h1
  rw [show l.getD i ([], []) = l[i] by simp [List.getD, hi], show m.getD i ([], []) = m[i]'(by omega) by simp [List.getD, show i < m.length by omega]]
  exact h1
theorem can_one {a b : List Int} {v v2 : VT} (h : canI (a, [v]) = canI (b, [v2])) : a = b ∧ canV v = canV v2 := by
  unfold canI at h
  simpa using h
set_option maxRecDepth 100000 in
set_option maxHeartbeats 2000000 in
theorem rsameAudits_any (l m : List It) (d d2 : Nat) (u v0 : Value) (w : World) (hu : SlAt w d 11 5 1 u l) (hv : SlAt w d2 11 5 1 v0 m) (hs : l.map canI = m.map canI) :
    Calls Tryz.prog 25 #[u, v0] w (Gives (.bool true) w) := by
  obtain ⟨sp, sc, rfl, hln, hi1⟩ := hu
  obtain ⟨sp2, sc2, rfl, _, hi2⟩ := hv
  have hlen := can_len hs
  rw [← hlen] at hi2 ⊢
  have hca := fun i (hi : i < l.length) => can_at hs hi
  have H1 := Lib.hid hi1; have H2 := Lib.hid hi2; have HCa := Lib.hid hca
  clear hi1 hi2 hca hs hlen
  generalize l.length = N at *
  have tN : ((N : Int) != (N : Int)) = false := by simp
  have hb0 := Below.refl w.heap.size w
  go_enter Tryz.func25, Tryz.ntmps25
  go_wp2_with fail
  go_loopw [5] (fun iv wr => ∃ i : Nat, iv = .int .i64 (i : Int) ∧ i ≤ N ∧ Below w.heap.size w wr) (fun iv _ => N - (intOf iv).toNat)
  case atStart => exact ⟨0, rfl, by omega, hb0⟩
  case round =>
    clear hb0
    obtain ⟨i, rfl, hi, hb⟩ := hrel
    by_cases hlt : i < N
    · have t0 : decide ((i : Int) < (N : Int)) = true := by simp; omega
      obtain ⟨g, off, hsp, hgl, ds, hit, hcl⟩ := H1.out i hlt
      obtain ⟨g', off', hsp', hgl', ds', hit', hcl'⟩ := H2.out i hlt
      subst hsp; subst hsp'
      have hc := HCa.out i hlt
      generalize l.getD i ([], []) = x at *
      generalize m.getD i ([], []) = y at *
      obtain ⟨a0, a1, a2, a3, a4, v, pp, pc, p', cap, rfl, hvv, rfl⟩ := hit.open51
      obtain ⟨b0, b1, b2, b3, b4, v2, pp2, pc2, p2, cap2, rfl, hv2, rfl⟩ := hit'.open51
      obtain ⟨hab, hcv⟩ := can_one hc
      simp only [List.cons.injEq, and_true] at hab
      obtain ⟨rfl, rfl, rfl, rfl, rfl⟩ := hab
      have x0 := (hb.cell (p := ⟨g, off + i * 11 + 0, none⟩) hgl).trans (hcl 0 (by omega))
      have y0 := (hb.cell (p := ⟨g', off' + i * 11 + 0, none⟩) hgl').trans (hcl' 0 (by omega))
      have x1 := (hb.cell (p := ⟨g, off + i * 11 + 1, none⟩) hgl).trans (hcl 1 (by omega))
      have y1 := (hb.cell (p := ⟨g', off' + i * 11 + 1, none⟩) hgl').trans (hcl' 1 (by omega))
      have x2 := (hb.cell (p := ⟨g, off + i * 11 + 2, none⟩) hgl).trans (hcl 2 (by omega))
      have y2 := (hb.cell (p := ⟨g', off' + i * 11 + 2, none⟩) hgl').trans (hcl' 2 (by omega))
      have x3 := (hb.cell (p := ⟨g, off + i * 11 + 3, none⟩) hgl).trans (hcl 3 (by omega))
      have y3 := (hb.cell (p := ⟨g', off' + i * 11 + 3, none⟩) hgl').trans (hcl' 3 (by omega))
      have x4 := (hb.cell (p := ⟨g, off + i * 11 + 4, none⟩) hgl).trans (hcl 4 (by omega))
      have y4 := (hb.cell (p := ⟨g', off' + i * 11 + 4, none⟩) hgl').trans (hcl' 4 (by omega))
      have x5 := (hb.cell (p := ⟨g, off + i * 11 + 5, none⟩) hgl).trans (hcl 5 (by omega))
      have y5 := (hb.cell (p := ⟨g', off' + i * 11 + 5, none⟩) hgl').trans (hcl' 5 (by omega))
      have x6 := (hb.cell (p := ⟨g, off + i * 11 + 6, none⟩) hgl).trans (hcl 6 (by omega))
      have y6 := (hb.cell (p := ⟨g', off' + i * 11 + 6, none⟩) hgl').trans (hcl' 6 (by omega))
      have x7 := (hb.cell (p := ⟨g, off + i * 11 + 7, none⟩) hgl).trans (hcl 7 (by omega))
      have y7 := (hb.cell (p := ⟨g', off' + i * 11 + 7, none⟩) hgl').trans (hcl' 7 (by omega))
      have x8 := (hb.cell (p := ⟨g, off + i * 11 + 8, none⟩) hgl).trans (hcl 8 (by omega))
      have y8 := (hb.cell (p := ⟨g', off' + i * 11 + 8, none⟩) hgl').trans (hcl' 8 (by omega))
      have x9 := (hb.cell (p := ⟨g, off + i * 11 + 9, none⟩) hgl).trans (hcl 9 (by omega))
      have y9 := (hb.cell (p := ⟨g', off' + i * 11 + 9, none⟩) hgl').trans (hcl' 9 (by omega))
      have x10 := (hb.cell (p := ⟨g, off + i * 11 + 10, none⟩) hgl).trans (hcl 10 (by omega))
      have y10 := (hb.cell (p := ⟨g', off' + i * 11 + 10, none⟩) hgl').trans (hcl' 10 (by omega))
      simp at x0 y0 x1 y1 x2 y2 x3 y3 x4 y4 x5 y5 x6 y6 x7 y7 x8 y8 x9 y9 x10 y10
      have i1 : (0 : Int) ≤ (i : Int) := by omega
      have i2 : (i : Int) < (N : Int) := by omega
      have HS := rSame_any d d2 v v2 _ _ wr.drew (hvv.kept (hb.drew)) (hv2.kept (hb.drew))
      rw [sameV_can hcv] at HS
      have HSS := Lib.hid HS
      clear HS hcv hc hit hit' hcl hcl' hvv hv2
      go_wp2_with fail
      refine wp_still_tailG 61 (by kernel_rfl) (by kernel_rfl) ?_
      simp only [List.take_succ_cons, List.take_zero, List.drop_succ_cons, List.drop_zero]
      iterate 61 (refine StillG.step (fun K hK => ?_); go_simp; refine hK _ ?_; clear hK K)
      refine StillG.nil ?_
      go_wp2_with fail
      refine (HSS.out).mono ?_; rintro e w3 ⟨rfl, hb3⟩
      go_wp2_with fail
      go_roundw
      case rel => exact ⟨i + 1, by go_num, by omega, hb.trans ((undrew hb3).mono hb.size)⟩
      case measure => simp [intOf]; omega
    · have t0 : decide ((i : Int) < (N : Int)) = false := by simp; omega
      go_wp2_with fail
      go_ret
      exact ⟨rfl, hb⟩
end
section
open Go.RowKit
set_option maxRecDepth 100000 in
set_option maxHeartbeats 8000000 in
theorem read_aw (w : World) : Calls Tryz.prog 10 #[.string awS] w fun e w' => ∃ x, e = .returned (.tuple #[x, .int .i64 0]) ∧ AwPart w.heap.size x w' ∧ Below w.heap.size w w' := by
  have HP := Lib.hid (fun b w hb => part_aw b w hb)
  have hz1 : (w.alloc (.cells #[.int .i64 0, .int .i64 0, .slice none 0 0, .slice none 0 0, .slice none 0 0, .slice none 0 0, .slice none 0 0] 28)).heap.size = w.heap.size + 1 := by simp
  have hz2 : ((w.alloc (.cells #[.int .i64 0, .int .i64 0, .slice none 0 0, .slice none 0 0, .slice none 0 0, .slice none 0 0, .slice none 0 0] 28)).alloc (.cells #[.int .i64 0] 31)).heap.size = w.heap.size + 1 + 1 := by simp
  have h0 := heap_alloc_new w (.cells #[.int .i64 0, .int .i64 0, .slice none 0 0, .slice none 0 0, .slice none 0 0, .slice none 0 0, .slice none 0 0] 28)
  have f0 := (Fr.refl [] w).alloc (.cells #[.int .i64 0, .int .i64 0, .slice none 0 0, .slice none 0 0, .slice none 0 0, .slice none 0 0, .slice none 0 0] 28)
  generalize hW1 : w.alloc (.cells #[.int .i64 0, .int .i64 0, .slice none 0 0, .slice none 0 0, .slice none 0 0, .slice none 0 0, .slice none 0 0] 28) = W1 at *
  have h1 := heap_alloc_new W1 (.cells #[.int .i64 0] 31)
  have k1 := (Fr.refl [] W1).alloc (.cells #[.int .i64 0] 31)
  generalize hW2 : W1.alloc (.cells #[.int .i64 0] 31) = W2 at *
  have h2 := heap_alloc_new W2 (.cells #[.string awS, .int .i64 0] 86)
  have k2 := (Fr.refl [] W2).alloc (.cells #[.string awS, .int .i64 0] 86)
  have hz3 : (W2.alloc (.cells #[.string awS, .int .i64 0] 86)).heap.size = W2.heap.size + 1 := by simp
  have g0 := (k1.trans k2).at h0 (by simp)
  have g1 := k2.at h1 (by simp)
  have hbF := (f0.trans k1).trans k2
  rw [hz1] at g1
  rw [hz2] at h2 hz3
  have HW1 := Lib.hid hW1; have HW2 := Lib.hid hW2
  clear f0 k1 k2 h0 h1 hW1 hW2 hz1 hz2
  have HR : SrB (w.heap.size + 1 + 1) awS 0 (W2.alloc (.cells #[.string awS, .int .i64 0] 86)) := h2
  have HPP := Lib.hid (HP.out _ _ HR)
  go_enter_defers Tryz.func10, Tryz.ntmps10
  go_wp2_with fail
  rw [HW1.out, HW2.out]
  refine (HPP.out).mono ?_; rintro e w3 ⟨x, rfl, ⟨g, cap, rfl, hg1, hg2, hg3⟩, hf3⟩
  have b3 := hf3.at g0 (by simp <;> omega)
  have e3 := hf3.at g1 (by simp <;> omega)
  have b4 : (w3.alloc (.cells #[.int .i64 2, .int .i64 1, .slice none 0 0, .slice (some ⟨g, 0, none⟩) 1 cap, .slice none 0 0, .slice none 0 0, .slice none 0 0] 28)).heap[w.heap.size]? = some (.cells #[.int .i64 0, .int .i64 0, .slice none 0 0, .slice none 0 0, .slice none 0 0, .slice none 0 0, .slice none 0 0] 28 (0, 0)) := (Lib.alloc_old w3 _ _ (lt_of_block b3)).trans b3
  have e4 : (w3.alloc (.cells #[.int .i64 2, .int .i64 1, .slice none 0 0, .slice (some ⟨g, 0, none⟩) 1 cap, .slice none 0 0, .slice none 0 0, .slice none 0 0] 28)).heap[w.heap.size + 1]? = some (.cells #[.int .i64 0] 31 (0, 0)) := (Lib.alloc_old w3 _ _ (lt_of_block e3)).trans e3
  have n4 : (w3.alloc (.cells #[.int .i64 2, .int .i64 1, .slice none 0 0, .slice (some ⟨g, 0, none⟩) 1 cap, .slice none 0 0, .slice none 0 0, .slice none 0 0] 28)).heap[w3.heap.size]? = some (.cells #[.int .i64 2, .int .i64 1, .slice none 0 0, .slice (some ⟨g, 0, none⟩) 1 cap, .slice none 0 0, .slice none 0 0, .slice none 0 0] 28 (0, 0)) := heap_alloc_new w3 _
  have l4 : (w3.alloc (.cells #[.int .i64 2, .int .i64 1, .slice none 0 0, .slice (some ⟨g, 0, none⟩) 1 cap, .slice none 0 0, .slice none 0 0, .slice none 0 0] 28)).heap.size = w3.heap.size + 1 := by simp
  have F4 := (Fr.refl [] w3).alloc (.cells #[.int .i64 2, .int .i64 1, .slice none 0 0, .slice (some ⟨g, 0, none⟩) 1 cap, .slice none 0 0, .slice none 0 0, .slice none 0 0] 28)
  have hs3 : w.heap.size + 1 + 1 < w3.heap.size := by have := hf3.size; rw [hz3] at this; omega
  have c0 : (w3.alloc (.cells #[.int .i64 2, .int .i64 1, .slice none 0 0, .slice (some ⟨g, 0, none⟩) 1 cap, .slice none 0 0, .slice none 0 0, .slice none 0 0] 28)).cell? ⟨w.heap.size, 0, none⟩ = some (.int .i64 0) := by rw [Lib.cell_of_heap b4]; rfl
  have z0 : (w3.alloc (.cells #[.int .i64 2, .int .i64 1, .slice none 0 0, .slice (some ⟨g, 0, none⟩) 1 cap, .slice none 0 0, .slice none 0 0, .slice none 0 0] 28)).frozen? ⟨w.heap.size, 0, none⟩ = false := Lib.frozen_of_heap b4 0
  have c1 : (w3.alloc (.cells #[.int .i64 2, .int .i64 1, .slice none 0 0, .slice (some ⟨g, 0, none⟩) 1 cap, .slice none 0 0, .slice none 0 0, .slice none 0 0] 28)).cell? ⟨w.heap.size, 1, none⟩ = some (.int .i64 0) := by rw [Lib.cell_of_heap b4]; rfl
  have z1 : (w3.alloc (.cells #[.int .i64 2, .int .i64 1, .slice none 0 0, .slice (some ⟨g, 0, none⟩) 1 cap, .slice none 0 0, .slice none 0 0, .slice none 0 0] 28)).frozen? ⟨w.heap.size, 1, none⟩ = false := Lib.frozen_of_heap b4 1
  have c2 : (w3.alloc (.cells #[.int .i64 2, .int .i64 1, .slice none 0 0, .slice (some ⟨g, 0, none⟩) 1 cap, .slice none 0 0, .slice none 0 0, .slice none 0 0] 28)).cell? ⟨w.heap.size, 2, none⟩ = some (.slice none 0 0) := by rw [Lib.cell_of_heap b4]; rfl
  have z2 : (w3.alloc (.cells #[.int .i64 2, .int .i64 1, .slice none 0 0, .slice (some ⟨g, 0, none⟩) 1 cap, .slice none 0 0, .slice none 0 0, .slice none 0 0] 28)).frozen? ⟨w.heap.size, 2, none⟩ = false := Lib.frozen_of_heap b4 2
  have c3 : (w3.alloc (.cells #[.int .i64 2, .int .i64 1, .slice none 0 0, .slice (some ⟨g, 0, none⟩) 1 cap, .slice none 0 0, .slice none 0 0, .slice none 0 0] 28)).cell? ⟨w.heap.size, 3, none⟩ = some (.slice none 0 0) := by rw [Lib.cell_of_heap b4]; rfl
  have z3 : (w3.alloc (.cells #[.int .i64 2, .int .i64 1, .slice none 0 0, .slice (some ⟨g, 0, none⟩) 1 cap, .slice none 0 0, .slice none 0 0, .slice none 0 0] 28)).frozen? ⟨w.heap.size, 3, none⟩ = false := Lib.frozen_of_heap b4 3
  have c4 : (w3.alloc (.cells #[.int .i64 2, .int .i64 1, .slice none 0 0, .slice (some ⟨g, 0, none⟩) 1 cap, .slice none 0 0, .slice none 0 0, .slice none 0 0] 28)).cell? ⟨w.heap.size, 4, none⟩ = some (.slice none 0 0) := by rw [Lib.cell_of_heap b4]; rfl
  have z4 : (w3.alloc (.cells #[.int .i64 2, .int .i64 1, .slice none 0 0, .slice (some ⟨g, 0, none⟩) 1 cap, .slice none 0 0, .slice none 0 0, .slice none 0 0] 28)).frozen? ⟨w.heap.size, 4, none⟩ = false := Lib.frozen_of_heap b4 4
  have c5 : (w3.alloc (.cells #[.int .i64 2, .int .i64 1, .slice none 0 0, .slice (some ⟨g, 0, none⟩) 1 cap, .slice none 0 0, .slice none 0 0, .slice none 0 0] 28)).cell? ⟨w.heap.size, 5, none⟩ = some (.slice none 0 0) := by rw [Lib.cell_of_heap b4]; rfl
  have z5 : (w3.alloc (.cells #[.int .i64 2, .int .i64 1, .slice none 0 0, .slice (some ⟨g, 0, none⟩) 1 cap, .slice none 0 0, .slice none 0 0, .slice none 0 0] 28)).frozen? ⟨w.heap.size, 5, none⟩ = false := Lib.frozen_of_heap b4 5
  have c6 : (w3.alloc (.cells #[.int .i64 2, .int .i64 1, .slice none 0 0, .slice (some ⟨g, 0, none⟩) 1 cap, .slice none 0 0, .slice none 0 0, .slice none 0 0] 28)).cell? ⟨w.heap.size, 6, none⟩ = some (.slice none 0 0) := by rw [Lib.cell_of_heap b4]; rfl
  have z6 : (w3.alloc (.cells #[.int .i64 2, .int .i64 1, .slice none 0 0, .slice (some ⟨g, 0, none⟩) 1 cap, .slice none 0 0, .slice none 0 0, .slice none 0 0] 28)).frozen? ⟨w.heap.size, 6, none⟩ = false := Lib.frozen_of_heap b4 6
  have ce : (w3.alloc (.cells #[.int .i64 2, .int .i64 1, .slice none 0 0, .slice (some ⟨g, 0, none⟩) 1 cap, .slice none 0 0, .slice none 0 0, .slice none 0 0] 28)).cell? ⟨w.heap.size + 1, 0, none⟩ = some (.int .i64 0) := by rw [Lib.cell_of_heap e4]; rfl
  have ze : (w3.alloc (.cells #[.int .i64 2, .int .i64 1, .slice none 0 0, .slice (some ⟨g, 0, none⟩) 1 cap, .slice none 0 0, .slice none 0 0, .slice none 0 0] 28)).frozen? ⟨w.heap.size + 1, 0, none⟩ = false := Lib.frozen_of_heap e4 0
  have d0 : (w3.alloc (.cells #[.int .i64 2, .int .i64 1, .slice none 0 0, .slice (some ⟨g, 0, none⟩) 1 cap, .slice none 0 0, .slice none 0 0, .slice none 0 0] 28)).cell? ⟨w3.heap.size, 0, none⟩ = some (.int .i64 2) := by rw [Lib.cell_of_heap n4]; rfl
  have d1 : (w3.alloc (.cells #[.int .i64 2, .int .i64 1, .slice none 0 0, .slice (some ⟨g, 0, none⟩) 1 cap, .slice none 0 0, .slice none 0 0, .slice none 0 0] 28)).cell? ⟨w3.heap.size, 1, none⟩ = some (.int .i64 1) := by rw [Lib.cell_of_heap n4]; rfl
  have d2 : (w3.alloc (.cells #[.int .i64 2, .int .i64 1, .slice none 0 0, .slice (some ⟨g, 0, none⟩) 1 cap, .slice none 0 0, .slice none 0 0, .slice none 0 0] 28)).cell? ⟨w3.heap.size, 2, none⟩ = some (.slice none 0 0) := by rw [Lib.cell_of_heap n4]; rfl
  have d3 : (w3.alloc (.cells #[.int .i64 2, .int .i64 1, .slice none 0 0, .slice (some ⟨g, 0, none⟩) 1 cap, .slice none 0 0, .slice none 0 0, .slice none 0 0] 28)).cell? ⟨w3.heap.size, 3, none⟩ = some (.slice (some ⟨g, 0, none⟩) 1 cap) := by rw [Lib.cell_of_heap n4]; rfl
  have d4 : (w3.alloc (.cells #[.int .i64 2, .int .i64 1, .slice none 0 0, .slice (some ⟨g, 0, none⟩) 1 cap, .slice none 0 0, .slice none 0 0, .slice none 0 0] 28)).cell? ⟨w3.heap.size, 4, none⟩ = some (.slice none 0 0) := by rw [Lib.cell_of_heap n4]; rfl
  have d5 : (w3.alloc (.cells #[.int .i64 2, .int .i64 1, .slice none 0 0, .slice (some ⟨g, 0, none⟩) 1 cap, .slice none 0 0, .slice none 0 0, .slice none 0 0] 28)).cell? ⟨w3.heap.size, 5, none⟩ = some (.slice none 0 0) := by rw [Lib.cell_of_heap n4]; rfl
  have d6 : (w3.alloc (.cells #[.int .i64 2, .int .i64 1, .slice none 0 0, .slice (some ⟨g, 0, none⟩) 1 cap, .slice none 0 0, .slice none 0 0, .slice none 0 0] 28)).cell? ⟨w3.heap.size, 6, none⟩ = some (.slice none 0 0) := by rw [Lib.cell_of_heap n4]; rfl
  go_wp2_with fail
  have hcg : (w3.alloc (.cells #[.int .i64 2, .int .i64 1, .slice none 0 0, .slice (some ⟨g, 0, none⟩) 1 cap, .slice none 0 0, .slice none 0 0, .slice none 0 0] 28)).cell? ⟨g, 2, none⟩ = some (.int .i64 3) := (F4.cell (i := 2) hg2 (by simp)).trans hg3
  have hcl : (w3.alloc (.cells #[.int .i64 2, .int .i64 1, .slice none 0 0, .slice (some ⟨g, 0, none⟩) 1 cap, .slice none 0 0, .slice none 0 0, .slice none 0 0] 28)).heap.size = w3.heap.size + 1 := l4
  have hall := (hbF.mono (m := [w.heap.size + 1 + 1]) (by simp)).trans (hf3.trans (F4.mono (by simp)))
  clear d0 d1 d2 d3 d4 d5 d6 c0 c1 c2 c3 c4 c5 c6 z0 z1 z2 z3 z4 z5 z6 ce ze n4 F4
  generalize w3.alloc (.cells #[.int .i64 2, .int .i64 1, .slice none 0 0, .slice (some ⟨g, 0, none⟩) 1 cap, .slice none 0 0, .slice none 0 0, .slice none 0 0] 28) = W4 at *
  have hne : w.heap.size + 1 ≠ w.heap.size := by omega
  have hgF : ((((((((W4.setCell ⟨w.heap.size, 0, none⟩ (.int .i64 2)).setCell ⟨w.heap.size, 1, none⟩ (.int .i64 1)).setCell ⟨w.heap.size, 2, none⟩ (.slice none 0 0)).setCell ⟨w.heap.size, 3, none⟩ (.slice (some ⟨g, 0, none⟩) 1 cap)).setCell ⟨w.heap.size, 4, none⟩ (.slice none 0 0)).setCell ⟨w.heap.size, 5, none⟩ (.slice none 0 0)).setCell ⟨w.heap.size, 6, none⟩ (.slice none 0 0)).setCell ⟨w.heap.size + 1, 0, none⟩ (.int .i64 0)).heap[w.heap.size]? = some (.cells #[.int .i64 2, .int .i64 1, .slice none 0 0, .slice (some ⟨g, 0, none⟩) 1 cap, .slice none 0 0, .slice none 0 0, .slice none 0 0] 28 (0, 0)) := (Below.heap_setCell _ _ _ _ hne.symm).trans (heap_setN (heap_setN (heap_setN (heap_setN (heap_setN (heap_setN (heap_setN b4 0 _) 1 _) 2 _) 3 _) 4 _) 5 _) 6 _)
  have heF : ((((((((W4.setCell ⟨w.heap.size, 0, none⟩ (.int .i64 2)).setCell ⟨w.heap.size, 1, none⟩ (.int .i64 1)).setCell ⟨w.heap.size, 2, none⟩ (.slice none 0 0)).setCell ⟨w.heap.size, 3, none⟩ (.slice (some ⟨g, 0, none⟩) 1 cap)).setCell ⟨w.heap.size, 4, none⟩ (.slice none 0 0)).setCell ⟨w.heap.size, 5, none⟩ (.slice none 0 0)).setCell ⟨w.heap.size, 6, none⟩ (.slice none 0 0)).setCell ⟨w.heap.size + 1, 0, none⟩ (.int .i64 0)).heap[w.heap.size + 1]? = some (.cells #[.int .i64 0] 31 (0, 0)) := heap_setN ((Below.heap_setCell _ _ _ _ hne).trans ((Below.heap_setCell _ _ _ _ hne).trans ((Below.heap_setCell _ _ _ _ hne).trans ((Below.heap_setCell _ _ _ _ hne).trans ((Below.heap_setCell _ _ _ _ hne).trans ((Below.heap_setCell _ _ _ _ hne).trans ((Below.heap_setCell _ _ _ _ hne).trans e4))))))) 0 _
  have FF := ((((((((Fr.refl [w.heap.size, w.heap.size + 1] W4).setCell ⟨w.heap.size, 0, none⟩ (by simp) (.int .i64 2)).setCell ⟨w.heap.size, 1, none⟩ (by simp) (.int .i64 1)).setCell ⟨w.heap.size, 2, none⟩ (by simp) (.slice none 0 0)).setCell ⟨w.heap.size, 3, none⟩ (by simp) (.slice (some ⟨g, 0, none⟩) 1 cap)).setCell ⟨w.heap.size, 4, none⟩ (by simp) (.slice none 0 0)).setCell ⟨w.heap.size, 5, none⟩ (by simp) (.slice none 0 0)).setCell ⟨w.heap.size, 6, none⟩ (by simp) (.slice none 0 0)).setCell ⟨w.heap.size + 1, 0, none⟩ (by simp) (.int .i64 0)
  generalize ((((((((W4.setCell ⟨w.heap.size, 0, none⟩ (.int .i64 2)).setCell ⟨w.heap.size, 1, none⟩ (.int .i64 1)).setCell ⟨w.heap.size, 2, none⟩ (.slice none 0 0)).setCell ⟨w.heap.size, 3, none⟩ (.slice (some ⟨g, 0, none⟩) 1 cap)).setCell ⟨w.heap.size, 4, none⟩ (.slice none 0 0)).setCell ⟨w.heap.size, 5, none⟩ (.slice none 0 0)).setCell ⟨w.heap.size, 6, none⟩ (.slice none 0 0)).setCell ⟨w.heap.size + 1, 0, none⟩ (.int .i64 0)) = X at *
  have y0 : X.cell? ⟨w.heap.size, 0, none⟩ = some (.int .i64 2) := by rw [Lib.cell_of_heap hgF]; rfl
  have y1 : X.cell? ⟨w.heap.size, 1, none⟩ = some (.int .i64 1) := by rw [Lib.cell_of_heap hgF]; rfl
  have y2 : X.cell? ⟨w.heap.size, 2, none⟩ = some (.slice none 0 0) := by rw [Lib.cell_of_heap hgF]; rfl
  have y3 : X.cell? ⟨w.heap.size, 3, none⟩ = some (.slice (some ⟨g, 0, none⟩) 1 cap) := by rw [Lib.cell_of_heap hgF]; rfl
  have y4 : X.cell? ⟨w.heap.size, 4, none⟩ = some (.slice none 0 0) := by rw [Lib.cell_of_heap hgF]; rfl
  have y5 : X.cell? ⟨w.heap.size, 5, none⟩ = some (.slice none 0 0) := by rw [Lib.cell_of_heap hgF]; rfl
  have y6 : X.cell? ⟨w.heap.size, 6, none⟩ = some (.slice none 0 0) := by rw [Lib.cell_of_heap hgF]; rfl
  have ye : X.cell? ⟨w.heap.size + 1, 0, none⟩ = some (.int .i64 0) := by rw [Lib.cell_of_heap heF]; rfl
  have hgs : w.heap.size + 1 + 1 + 1 ≤ g := by rw [← hz3]; exact hg1
  have hcX : X.cell? ⟨g, 2, none⟩ = some (.int .i64 3) := (FF.cell (i := 2) (by rw [hcl]; omega) (by simp; omega)).trans hcg
  have hff := (hall.mono (m := [w.heap.size + 1 + 1, w.heap.size, w.heap.size + 1]) (by simp)).trans (FF.mono (by simp))
  have hbel : Below w.heap.size w X := hff.below (Nat.le_refl _) (by simp; omega)
  have hgX : g < X.heap.size := by have := FF.size; rw [hcl] at this; omega
  have HQ : AwPart w.heap.size (.agg #[.int .i64 2, .int .i64 1, .slice none 0 0, .slice (some ⟨g, 0, none⟩) 1 cap, .slice none 0 0, .slice none 0 0, .slice none 0 0]) X := ⟨g, cap, rfl, by omega, hgX, hcX⟩
  have HQ := Lib.hid HQ
  refine leaves_cons (f := 17) (args := #[.pointer (some ⟨w.heap.size + 1, 0, none⟩)]) (by simp) (by simp [go_sem]) ?_
  refine (caught_idle ⟨w.heap.size + 1, 0, none⟩ _).mono ?_
  rintro e u' w'' ⟨rfl, rfl, rfl⟩
  simp [Leaves, settle, results, Tryz.results10, go_sem, y0, y1, y2, y3, y4, y5, y6, ye]
  exact ⟨HQ.out, hbel⟩
end
end Go.Proofs.YtnaamiecljinnaaGreat
