/-
  The walks of the snapshot's Bytes at a part that has no lists.
-/
import Derived.Test.YtnaamiecljinnaaGreatS2
namespace Go.Proofs.YtnaamiecljinnaaGreat
open Go.RowKit

def magicB : List UInt8 := [83, 78, 80, 49]
def bareCs (next begun : Int) : Array Value := #[.int .i64 next, .int .i64 begun, .slice none 0 0, .slice none 0 0, .slice none 0 0, .slice none 0 0, .slice none 0 0]
theorem Bld.ne_of {T U : TypeId} {B b g : Nat} {o : List UInt8} {w : World} {cs : Array Value} {fz : Nat × Nat} (h : Bld T B b o w) (hg : w.heap[g]? = some (.cells cs U fz)) (hU : U ≠ T) : g ≠ b := by
  rintro rfl
  rcases h.2 with h | h <;> obtain ⟨_, v, h, _⟩ := h <;> rw [hg] at h <;> injection h with h <;> injection h with _ h <;> exact absurd h hU
theorem many_zero : manyE 0 = some [0] := by decide

set_option maxRecDepth 100000 in
set_option maxHeartbeats 4000000 in
theorem part_bare (next begun : Int) (r : List UInt8) (hr : numsE [next, begun] = some r) (hrl : r.length ≤ 20) (p B b : Nat) (w : World) (hb : Bld 74 B b [] w)
    (hp : w.heap[p]? = some (.cells (bareCs next begun) 28 (0, 0))) :
    Calls Tryz.prog 18 #[.pointer (some ⟨b, 0, none⟩), .pointer (some ⟨p, 0, none⟩)] w (WrOr 74 B b [] (some (magicB ++ r ++ [0] ++ [0] ++ [0] ++ [0] ++ [0])) w) := by
  have hne := hb.ne_of hp (by decide)
  have HW := Lib.hid (hb.writeS bt_snap magicB (by decide))
  have HN := Lib.hid (fun g w' hb' hg' => hr ▸ snum_any [next, begun] 2 #[.int .i64 next, .int .i64 begun] rfl rfl (by omega) g B b magicB (by decide) w' hb' hg')
  have HM := Lib.hid (fun (o : List UInt8) (ho : o.length ≤ 10000000) w' hb' => many_zero ▸ smany_any 0 B b o ho w' hb')
  have HR := Lib.hid hrl
  have HK := Lib.hid (fun x (h : Wrote B b w x) => (show x.cell? ⟨p, 0, none⟩ = some (.int .i64 next) ∧ x.cell? ⟨p, 1, none⟩ = some (.int .i64 begun) from by
    have hb := h.block hp hne (by decide)
    exact ⟨by rw [Lib.cell_of_heap hb]; rfl, by rw [Lib.cell_of_heap hb]; rfl⟩))
  clear hrl hr
  go_enter Tryz.func18, Tryz.ntmps18
  go_wp2_with fail
  refine (HW.out).mono ?_; rintro e w1 ⟨rfl, hb1, hw1⟩
  rw [List.nil_append] at hb1
  have hp1 := hw1.block hp hne (by decide)
  have c0 : w1.cell? ⟨p, 0, none⟩ = some (.int .i64 next) := by rw [Lib.cell_of_heap hp1]; rfl
  have c1 : w1.cell? ⟨p, 1, none⟩ = some (.int .i64 begun) := by rw [Lib.cell_of_heap hp1]; rfl
  go_wp2_with fail
  go_region_held3 (fun w' => w'.cell? ⟨p, 0, none⟩ = some (.int .i64 next) ∧ w'.cell? ⟨p, 1, none⟩ = some (.int .i64 begun)) (first | exact ⟨c0, c1⟩ | go_keep | exact HK.out _ (((hw1.alloc hb1.1 _).drew).trans hw2)) ((go_at_call 38; (with_reducible refine (HN.out _ _ (hb1.alloc _).drew (heap_alloc_new w1 _)).mono ?_); rintro e w2 ⟨rfl, hb2, hw2⟩))
  have hwa : Wrote B b w w2 := ((hw1.alloc hb1.1 _).drew).trans hw2
  have hpa := hwa.block hp hne (by decide)
  have d0 : w2.cell? ⟨p, 2, none⟩ = some (.slice none 0 0) := by rw [Lib.cell_of_heap hpa]; rfl
  go_wp2_with fail
  refine (HM.out _ ?_ _ hb2).mono ?_
  · have := HR.out; simp [magicB]; omega
  rintro e w3 ⟨rfl, hb3, hx3⟩
  have hwb := hwa.trans hx3
  have hpb := hwb.block hp hne (by decide)
  have e0 : w3.cell? ⟨p, 2, none⟩ = some (.slice none 0 0) := by rw [Lib.cell_of_heap hpb]; rfl
  go_wp2_with fail
  refine wp_loop_rounds 1 ?_
  rw [rounds_succ]
  have d1 : w3.cell? ⟨p, 3, none⟩ = some (.slice none 0 0) := by rw [Lib.cell_of_heap hpb]; rfl
  go_wp2_with fail
  refine (HM.out _ ?_ _ hb3).mono ?_
  · have := HR.out; simp [magicB]; omega
  rintro e w4 ⟨rfl, hb4, hx4⟩
  have hwc := hwb.trans hx4
  have hpc := hwc.block hp hne (by decide)
  have e1 : w4.cell? ⟨p, 3, none⟩ = some (.slice none 0 0) := by rw [Lib.cell_of_heap hpc]; rfl
  go_wp2_with fail
  refine wp_loop_rounds 1 ?_
  rw [rounds_succ]
  have d2 : w4.cell? ⟨p, 4, none⟩ = some (.slice none 0 0) := by rw [Lib.cell_of_heap hpc]; rfl
  go_wp2_with fail
  refine (HM.out _ ?_ _ hb4).mono ?_
  · have := HR.out; simp [magicB]; omega
  rintro e w5 ⟨rfl, hb5, hx5⟩
  have hwd := hwc.trans hx5
  have hpd := hwd.block hp hne (by decide)
  have e2 : w5.cell? ⟨p, 4, none⟩ = some (.slice none 0 0) := by rw [Lib.cell_of_heap hpd]; rfl
  go_wp2_with fail
  refine wp_loop_rounds 1 ?_
  rw [rounds_succ]
  have d3 : w5.cell? ⟨p, 5, none⟩ = some (.slice none 0 0) := by rw [Lib.cell_of_heap hpd]; rfl
  go_wp2_with fail
  refine (HM.out _ ?_ _ hb5).mono ?_
  · have := HR.out; simp [magicB]; omega
  rintro e w6 ⟨rfl, hb6, hx6⟩
  have hwe := hwd.trans hx6
  have hpe := hwe.block hp hne (by decide)
  have e3 : w6.cell? ⟨p, 5, none⟩ = some (.slice none 0 0) := by rw [Lib.cell_of_heap hpe]; rfl
  go_wp2_with fail
  refine wp_loop_rounds 1 ?_
  rw [rounds_succ]
  have d4 : w6.cell? ⟨p, 6, none⟩ = some (.slice none 0 0) := by rw [Lib.cell_of_heap hpe]; rfl
  go_wp2_with fail
  refine (HM.out _ ?_ _ hb6).mono ?_
  · have := HR.out; simp [magicB]; omega
  rintro e w7 ⟨rfl, hb7, hx7⟩
  have hwf := hwe.trans hx7
  have hpf := hwf.block hp hne (by decide)
  have e4 : w7.cell? ⟨p, 6, none⟩ = some (.slice none 0 0) := by rw [Lib.cell_of_heap hpf]; rfl
  go_wp2_with fail
  refine wp_loop_rounds 1 ?_
  rw [rounds_succ]
  go_wp2_with fail
  go_end0
  exact ⟨rfl, hb7, hwf⟩

end Go.Proofs.YtnaamiecljinnaaGreat
