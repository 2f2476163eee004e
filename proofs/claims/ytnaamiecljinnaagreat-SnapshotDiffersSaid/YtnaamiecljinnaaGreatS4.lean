/-
  The walks of the snapshot's Bytes at a part that has no lists: its bytes; given up.
-/
import Derived.Test.YtnaamiecljinnaaGreatS3
import Derived.Deep.RegionWith
namespace Go.Proofs.YtnaamiecljinnaaGreat
open Go.RowKit

/-- a way that has come to its end within a region -/
theorem shut_way {X : Prop} {w : World} (h : X) (_ : wpAny Tryz.prog .any #[] (fun _ _ _ => True) 0 #[] { tmps := #[], defers := [] } w) : X := h

set_option maxRecDepth 100000 in
set_option maxHeartbeats 4000000 in
theorem part_bad (next begun : Int) (hr : numsE [next, begun] = none) (p B b : Nat) (w : World) (hb : Bld 74 B b [] w)
    (hp : w.heap[p]? = some (.cells (bareCs next begun) 28 (0, 0))) :
    Calls Tryz.prog 18 #[.pointer (some ⟨b, 0, none⟩), .pointer (some ⟨p, 0, none⟩)] w (WrOr 74 B b [] none w) := by
  have hne := hb.ne_of hp (by decide)
  have HW := Lib.hid (hb.writeS bt_snap magicB (by decide))
  have HN := Lib.hid (fun g w' hb' hg' => hr ▸ snum_any [next, begun] 2 #[.int .i64 next, .int .i64 begun] rfl rfl (by omega) g B b magicB (by decide) w' hb' hg')
  clear hr
  go_enter Tryz.func18, Tryz.ntmps18
  go_wp2_with fail
  refine (HW.out).mono ?_; rintro e w1 ⟨rfl, hb1, hw1⟩
  rw [List.nil_append] at hb1
  have hp1 := hw1.block hp hne (by decide)
  have c0 : w1.cell? ⟨p, 0, none⟩ = some (.int .i64 next) := by rw [Lib.cell_of_heap hp1]; rfl
  have c1 : w1.cell? ⟨p, 1, none⟩ = some (.int .i64 begun) := by rw [Lib.cell_of_heap hp1]; rfl
  go_wp2_with fail
  go_region_with ((go_at_call 38; (with_reducible refine (HN.out _ _ (hb1.alloc _).drew (heap_alloc_new w1 _)).mono ?_); rintro e w2 ⟨rfl, hb2⟩; refine shut_way (w := w) ⟨rfl, rfl, (((hw1.alloc hb1.1 _).drew).1).trans hb2⟩ ?_))
  all_goals trivial

/-- the bytes of a part without lists -/
def bareB (r : List UInt8) : List UInt8 := magicB ++ r ++ [0] ++ [0] ++ [0] ++ [0] ++ [0]

set_option maxRecDepth 100000 in
set_option maxHeartbeats 4000000 in
theorem bytes_bare (next begun : Int) (r : List UInt8) (hr : numsE [next, begun] = some r) (w : World) :
    Calls Tryz.prog 8 #[.agg (bareCs next begun)] w (Gives (.tuple #[.string ⟨(bareB r).toArray⟩, .int .i64 0]) w) := by
  have hrl := numsE_len _ _ hr
  have HP := Lib.hid (fun (p B b : Nat) (w : World) hb hp => part_bare next begun r hr hrl p B b w hb hp)
  have HT := Lib.hid (fun (B b : Nat) (o : List UInt8) (w : World) (h : Bld 74 B b o w) => h.text bt_snap)
  clear hr hrl
  have e1 : ((w.alloc (.cells (bareCs next begun) 28)).alloc (.cells #[.int .i64 0] 31)).heap.size = w.heap.size + 1 + 1 := by simp
  have hF := Bld.fresh 74 ((w.alloc (.cells (bareCs next begun) 28)).alloc (.cells #[.int .i64 0] 31))
  rw [e1] at hF
  have hp : (((w.alloc (.cells (bareCs next begun) 28)).alloc (.cells #[.int .i64 0] 31)).alloc (.cells #[.pointer none, .slice none 0 0] 74)).heap[w.heap.size]? = some (.cells (bareCs next begun) 28 (0, 0)) := by
    rw [Lib.alloc_old _ _ _ (by simp; omega), Lib.alloc_old _ _ _ (by simp)]; exact heap_alloc_new w _
  have he : (((w.alloc (.cells (bareCs next begun) 28)).alloc (.cells #[.int .i64 0] 31)).alloc (.cells #[.pointer none, .slice none 0 0] 74)).heap[w.heap.size + 1]? = some (.cells #[.int .i64 0] 31 (0, 0)) := by
    rw [Lib.alloc_old _ _ _ (by simp)]
    have := heap_alloc_new (w.alloc (.cells (bareCs next begun) 28)) (.cells #[.int .i64 0] 31)
    rwa [show (w.alloc (.cells (bareCs next begun) 28)).heap.size = w.heap.size + 1 by simp] at this
  have hB0 : Below w.heap.size w (((w.alloc (.cells (bareCs next begun) 28)).alloc (.cells #[.int .i64 0] 31)).alloc (.cells #[.pointer none, .slice none 0 0] 74)) :=
    (((Below.refl _ _).alloc (Nat.le_refl _) _).alloc (by simp) _).alloc (by simp; omega) _
  have HP1 := Lib.hid (HP.out w.heap.size _ _ _ hF hp)
  have HX := Lib.hid he
  clear hF hp he e1
  go_enter_defers Tryz.func8, Tryz.ntmps8
  go_wp2_with fail
  refine (HP1.out).mono ?_; rintro e w1 ⟨rfl, hb1, hw1⟩
  rw [List.nil_append] at hb1
  have hB1 := hB0.trans (hw1.1.mono (by omega))
  have he1 := hw1.block HX.out (by omega) (by decide)
  have hsz := hw1.size
  go_wp2_with fail
  refine (HT.out _ _ _ _ hb1).mono ?_; rintro e w2 ⟨rfl, hb2⟩
  have he2 := (hb2.block (w.heap.size + 1) (by omega)).trans he1
  have c0 : w2.cell? ⟨w.heap.size + 1, 0, none⟩ = some (.int .i64 0) := by rw [Lib.cell_of_heap he2]; rfl
  have f0 : w2.frozen? ⟨w.heap.size + 1, 0, none⟩ = false := Lib.frozen_of_heap he2 0
  go_wp2_with fail
  refine leaves_cons (f := 17) (args := #[.pointer (some ⟨w.heap.size + 1, 0, none⟩)]) (by simp) (by simp [go_sem]) ?_
  refine (caught_idle ⟨w.heap.size + 1, 0, none⟩ _).mono ?_
  rintro e u' w'' ⟨rfl, rfl, rfl⟩
  have hc2 : (w2.setCell ⟨w.heap.size + 1, 0, none⟩ (.int .i64 0)).cell? ⟨w.heap.size + 1, 0, none⟩ = some (.int .i64 0) := World.cell?_setCell_same _ _ _ c0
  have hfin : Below w.heap.size w (w2.setCell ⟨w.heap.size + 1, 0, none⟩ (.int .i64 0)) := (hB1.trans (hb2.mono (by omega))).setCell (p := ⟨w.heap.size + 1, 0, none⟩) (by simp) _
  simp [Leaves, settle, results, Tryz.results8, go_sem, hc2]
  exact ⟨by simp [bareB], hfin⟩

set_option maxRecDepth 100000 in
set_option maxHeartbeats 4000000 in
theorem bytes_bad (next begun : Int) (hr : numsE [next, begun] = none) (w : World) :
    Calls Tryz.prog 8 #[.agg (bareCs next begun)] w (Gives (.tuple #[.string ⟨#[]⟩, .int .i64 5]) w) := by
  have HP := Lib.hid (fun (p B b : Nat) (w : World) hb hp => part_bad next begun hr p B b w hb hp)
  clear hr
  have e1 : ((w.alloc (.cells (bareCs next begun) 28)).alloc (.cells #[.int .i64 0] 31)).heap.size = w.heap.size + 1 + 1 := by simp
  have hF := Bld.fresh 74 ((w.alloc (.cells (bareCs next begun) 28)).alloc (.cells #[.int .i64 0] 31))
  rw [e1] at hF
  have hp : (((w.alloc (.cells (bareCs next begun) 28)).alloc (.cells #[.int .i64 0] 31)).alloc (.cells #[.pointer none, .slice none 0 0] 74)).heap[w.heap.size]? = some (.cells (bareCs next begun) 28 (0, 0)) := by
    rw [Lib.alloc_old _ _ _ (by simp; omega), Lib.alloc_old _ _ _ (by simp)]; exact heap_alloc_new w _
  have he : (((w.alloc (.cells (bareCs next begun) 28)).alloc (.cells #[.int .i64 0] 31)).alloc (.cells #[.pointer none, .slice none 0 0] 74)).heap[w.heap.size + 1]? = some (.cells #[.int .i64 0] 31 (0, 0)) := by
    rw [Lib.alloc_old _ _ _ (by simp)]
    have := heap_alloc_new (w.alloc (.cells (bareCs next begun) 28)) (.cells #[.int .i64 0] 31)
    rwa [show (w.alloc (.cells (bareCs next begun) 28)).heap.size = w.heap.size + 1 by simp] at this
  have hB0 : Below w.heap.size w (((w.alloc (.cells (bareCs next begun) 28)).alloc (.cells #[.int .i64 0] 31)).alloc (.cells #[.pointer none, .slice none 0 0] 74)) :=
    (((Below.refl _ _).alloc (Nat.le_refl _) _).alloc (by simp) _).alloc (by simp; omega) _
  have HP1 := Lib.hid (HP.out w.heap.size _ _ _ hF hp)
  have HX := Lib.hid he
  clear hF hp he e1
  go_enter_defers Tryz.func8, Tryz.ntmps8
  go_wp2_with fail
  refine (HP1.out).mono ?_; rintro e w1 ⟨rfl, hb1⟩
  have hB1 := hB0.trans (hb1.mono (by omega))
  have he1 := (hb1.block (w.heap.size + 1) (by omega)).trans HX.out
  have c0 : w1.cell? ⟨w.heap.size + 1, 0, none⟩ = some (.int .i64 0) := by rw [Lib.cell_of_heap he1]; rfl
  have f0 : w1.frozen? ⟨w.heap.size + 1, 0, none⟩ = false := Lib.frozen_of_heap he1 0
  go_wp2_with fail
  refine leaves_cons (f := 17) (args := #[.pointer (some ⟨w.heap.size + 1, 0, none⟩)]) (by simp) (by simp [go_sem]) ?_
  refine (caught_up ⟨w.heap.size + 1, 0, none⟩ 5 0 _ c0 f0).mono ?_
  rintro e u' w'' ⟨rfl, rfl, rfl⟩
  have hc2 : (w1.setCell ⟨w.heap.size + 1, 0, none⟩ (.int .i64 5)).cell? ⟨w.heap.size + 1, 0, none⟩ = some (.int .i64 5) := World.cell?_setCell_same _ _ _ c0
  have hfin : Below w.heap.size w (w1.setCell ⟨w.heap.size + 1, 0, none⟩ (.int .i64 5)) := hB1.setCell (p := ⟨w.heap.size + 1, 0, none⟩) (by simp) _
  simp [Leaves, settle, results, Tryz.results8, go_sem, hc2]
  exact ⟨rfl, hfin⟩
end Go.Proofs.YtnaamiecljinnaaGreat
