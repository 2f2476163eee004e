/-
  The walk of the snapshot's reader at the bytes that awake asks of.
-/
import Derived.Test.YtnaamiecljinnaaGreatS7
import Derived.Deep.AppendLies
import Derived.Deep.RegionLaw
import Derived.Deep.DeepCutAuto
import Derived.Deep.CutBlock
namespace Go.Proofs.YtnaamiecljinnaaGreat
open Go.RowKit

set_option maxRecDepth 100000 in
set_option maxHeartbeats 1000000 in
theorem hasMagic (s : ByteArray) (w : World) : Calls Tryz.prog 47 #[.string s, .string ⟨#[83, 78, 80, 49]⟩] w fun e w' => e = .returned (.bool (decide (s.data.toList.take 4 = magicB))) ∧ w = w' := by
  by_cases h4 : s.size < 4
  · have t1 : decide ((4 : Int) ≤ (s.size : Int)) = false := by simp; omega
    have hf : decide (s.data.toList.take 4 = magicB) = false := by
      apply decide_eq_false
      intro h
      have := congrArg List.length h
      rw [List.length_take, show s.data.toList.length = s.size by simp] at this
      simp [magicB] at this
      omega
    have HF := Lib.hid hf
    clear hf
    go_enter Tryz.func47, Tryz.ntmps47
    go_wp2
    go_ret
    exact ⟨ret_val (by rw [HF.out]; rfl), rfl⟩
  · have t1 : decide ((4 : Int) ≤ (s.size : Int)) = true := by simp; omega
    have b1 : (4 : Int) ≤ (s.size : Int) := by omega
    have b2 : 4 ≤ s.size := by omega
    have hx : (s.extract 0 4).data.toList = s.data.toList.take 4 := by
      simp only [ByteArray.data_extract, Array.toList_extract, List.extract_eq_take_drop, List.drop_zero, Nat.sub_zero]
    have HX := Lib.hid (show ((s.extract 0 4).toList == [83, 78, 80, 49]) = decide (s.data.toList.take 4 = magicB) from by rw [ByteArray.toList_eq, hx]; rw [Bool.eq_iff_iff, beq_iff_eq, decide_eq_true_eq]; exact Iff.rfl)
    clear hx
    go_enter Tryz.func47, Tryz.ntmps47
    go_wp2
    go_ret
    exact ⟨ret_val (congrArg Value.bool HX.out), rfl⟩

def awS : ByteArray := ⟨#[83, 78, 80, 49, 2, 1, 0, 1, 0, 1, 3, 1, 0, 0, 0]⟩
def awL (k : Nat) : List UInt8 := awS.data.toList.drop k
theorem aw_num4 : numR (awL 4) = some (2, awL 5) := by decide
theorem aw_num5 : numR (awL 5) = some (1, awL 6) := by decide
theorem aw_many6 : manyR (awL 6) = some (0, awL 7) := by decide
theorem aw_many7 : manyR (awL 7) = some (1, awL 8) := by decide
theorem aw_inst8 : instR (awL 8) = some ((0, 1), awL 10) := by decide
theorem aw_num10 : numR (awL 10) = some (3, awL 11) := by decide
theorem aw_num11 : numR (awL 11) = some (1, awL 12) := by decide
theorem aw_many12 : manyR (awL 12) = some (0, awL 13) := by decide
theorem aw_many13 : manyR (awL 13) = some (0, awL 14) := by decide
theorem aw_many14 : manyR (awL 14) = some (0, awL 15) := by decide

/-- what the reader leaves of awake's bytes -/
def AwPart (H : Nat) (x : Value) (w : World) : Prop := ∃ g cap, x = .agg #[.int .i64 2, .int .i64 1, .slice none 0 0, .slice (some ⟨g, 0, none⟩) 1 cap, .slice none 0 0, .slice none 0 0, .slice none 0 0] ∧ H ≤ g ∧ g < w.heap.size ∧ w.cell? ⟨g, 2, none⟩ = some (.int .i64 3)

/-- amid the reading: one spot lies there -/
def AwMid (b P : Nat) (w wx : World) : Prop := ∃ g cap, wx.heap[P]? = some (.cells #[.int .i64 2, .int .i64 1, .slice none 0 0, .slice (some ⟨g, 0, none⟩) 1 cap, .slice none 0 0, .slice none 0 0, .slice none 0 0] 28 (0, 0)) ∧ SrL b awS (awL 12) wx ∧ Fr [b, P] w wx ∧ P ≤ g ∧ g < wx.heap.size ∧ g ≠ b ∧ wx.cell? ⟨g, 2, none⟩ = some (.int .i64 3)

set_option maxRecDepth 100000 in
set_option maxHeartbeats 8000000 in
theorem part_aw (b : Nat) (w : World) (hb : SrB b awS 0 w) :
    Calls Tryz.prog 24 #[.pointer (some ⟨b, 0, none⟩)] w fun e w' => ∃ x, e = .returned x ∧ AwPart w.heap.size x w' ∧ Fr [b] w w' := by
  have HMy := Lib.hid must_yes
  have HH := Lib.hid (fun w => hasMagic awS w)
  have HNu := Lib.hid (fun l w hb => snumL awS (by decide) b l w hb)
  have HMa := Lib.hid (fun l w hb => smanyL awS (by decide) b l w hb)
  have HIn := Lib.hid (fun l w hb => sinstL awS (by decide) b l w hb)
  have HN4 := Lib.hid (fun w hb => aw_num4 ▸ HNu.out (awL 4) w hb)
  have HN5 := Lib.hid (fun w hb => aw_num5 ▸ HNu.out (awL 5) w hb)
  have HN10 := Lib.hid (fun w hb => aw_num10 ▸ HNu.out (awL 10) w hb)
  have HN11 := Lib.hid (fun w hb => aw_num11 ▸ HNu.out (awL 11) w hb)
  have HM6 := Lib.hid (fun w hb => aw_many6 ▸ HMa.out (awL 6) w hb)
  have HM7 := Lib.hid (fun w hb => aw_many7 ▸ HMa.out (awL 7) w hb)
  have HM12 := Lib.hid (fun w hb => aw_many12 ▸ HMa.out (awL 12) w hb)
  have HM13 := Lib.hid (fun w hb => aw_many13 ▸ HMa.out (awL 13) w hb)
  have HM14 := Lib.hid (fun w hb => aw_many14 ▸ HMa.out (awL 14) w hb)
  have HI8 := Lib.hid (fun w hb => aw_inst8 ▸ HIn.out (awL 8) w hb)
  have hbl := hb.lt
  have hb0 := hb.below ((Below.refl _ _).alloc (Nat.le_refl _) (.cells #[.int .i64 0, .int .i64 0, .slice none 0 0, .slice none 0 0, .slice none 0 0, .slice none 0 0, .slice none 0 0] 28))
  have hf0 := (Fr.refl [b] w).alloc (.cells #[.int .i64 0, .int .i64 0, .slice none 0 0, .slice none 0 0, .slice none 0 0, .slice none 0 0, .slice none 0 0] 28)
  have hg0 : (w.alloc (.cells #[.int .i64 0, .int .i64 0, .slice none 0 0, .slice none 0 0, .slice none 0 0, .slice none 0 0, .slice none 0 0] 28)).heap[w.heap.size]? = some (.cells #[.int .i64 0, .int .i64 0, .slice none 0 0, .slice none 0 0, .slice none 0 0, .slice none 0 0, .slice none 0 0] 28 (0, 0)) := heap_alloc_new w _
  have hz0 : (w.alloc (.cells #[.int .i64 0, .int .i64 0, .slice none 0 0, .slice none 0 0, .slice none 0 0, .slice none 0 0, .slice none 0 0] 28)).heap.size = w.heap.size + 1 := by simp
  have c0 := hb0.c0; have c1 := hb0.c1; have f1 := hb0.fz 1
  have hmg : decide (awS.data.toList.take 4 = magicB) = true := by decide
  rw [hmg] at HH
  clear HNu HMa HIn hmg
  go_enter Tryz.func24, Tryz.ntmps24
  go_wp2_with fail
  generalize w.alloc (.cells #[.int .i64 0, .int .i64 0, .slice none 0 0, .slice none 0 0, .slice none 0 0, .slice none 0 0, .slice none 0 0] 28) = W0 at *
  refine (HH.out _).mono ?_; rintro e w1 ⟨rfl, rfl⟩
  go_wp2_with fail
  refine (HMy.out _).mono ?_; rintro e w2 ⟨rfl, rfl⟩
  generalize hgh : w.heap.size = P at *
  have HP := Lib.hid hgh; clear hgh
  have hbP : b ≠ P := by omega
  go_wp2_with fail
  have A1 : SrL b awS (awL 4) (W0.setCell ⟨b, 1, none⟩ (.int .i64 4)) := ⟨EndOf.start awS 4 (by decide), hb0.put1 4⟩
  have A2 := hf0.setCell (l := [b]) ⟨b, 1, none⟩ (by simp) (.int .i64 4)
  have A3 := (Fr.refl [b] W0).setCell (l := [b]) ⟨b, 1, none⟩ (by simp) (.int .i64 4)
  have hg1 := A3.at hg0 (by simp; omega)
  clear A3 hb0 hf0 hg0 c0 c1 f1
  generalize W0.setCell ⟨b, 1, none⟩ (.int .i64 4) = W1 at *
  refine (HN4.out _ A1).mono ?_; rintro e w3 ⟨rfl, B1, B2⟩
  dsimp only
  have A4 := A2.trans B2
  have hg3 := B2.at hg1 (by simp; omega)
  clear A1 A2 hg1 B2
  go_wp2_with fail
  refine (HN5.out _ B1).mono ?_; rintro e w4 ⟨rfl, C1, C2⟩
  dsimp only
  have A5 := A4.trans C2
  have hg4 := C2.at hg3 (by simp; omega)
  clear A4 B1 hg3 C2
  have p0 : w4.cell? ⟨P, 0, none⟩ = some (.int .i64 0) := by rw [Lib.cell_of_heap hg4]; rfl
  have p1 : w4.cell? ⟨P, 1, none⟩ = some (.int .i64 0) := by rw [Lib.cell_of_heap hg4]; rfl
  have q0 : w4.frozen? ⟨P, 0, none⟩ = false := Lib.frozen_of_heap hg4 0
  have q1 : w4.frozen? ⟨P, 1, none⟩ = false := Lib.frozen_of_heap hg4 1
  go_wp2_with fail
  have hg5 : ((w4.setCell ⟨P, 0, none⟩ (.int .i64 2)).setCell ⟨P, 1, none⟩ (.int .i64 1)).heap[P]? = some (.cells #[.int .i64 2, .int .i64 1, .slice none 0 0, .slice none 0 0, .slice none 0 0, .slice none 0 0, .slice none 0 0] 28 (0, 0)) := heap_setN (heap_setN hg4 0 _) 1 _
  have F5 := ((Fr.refl [P] w4).setCell ⟨P, 0, none⟩ (by simp) (.int .i64 2)).setCell ⟨P, 1, none⟩ (by simp) (.int .i64 1)
  have D1 := C1.kept F5 (by simpa using hbP)
  have A6 := (A5.mono (m := [b, P]) (by simp)).trans (F5.mono (by simp))
  clear p0 p1 q0 q1 C1 A5 hg4 F5
  generalize (w4.setCell ⟨P, 0, none⟩ (.int .i64 2)).setCell ⟨P, 1, none⟩ (.int .i64 1) = W5 at *
  refine (HM6.out _ D1).mono ?_; rintro e w6 ⟨rfl, E1, E2⟩
  dsimp only
  have A7 := A6.trans (E2.mono (by simp))
  have hg6 := E2.at hg5 (by simp; omega)
  clear A6 D1 hg5 E2
  go_wp2_with fail
  refine wp_loop_rounds 1 ?_
  rw [rounds_succ]
  go_wp2_with fail
  refine (HM7.out _ E1).mono ?_; rintro e w7 ⟨rfl, F1, F2⟩
  dsimp only
  have A8 := A7.trans (F2.mono (by simp))
  have hg7 := F2.at hg6 (by simp; omega)
  clear A7 E1 hg6 F2
  go_wp2_with fail
  refine wp_loop_rounds 2 ?_
  rw [rounds_succ]
  have hnP : P ∉ [b] := by simp; omega
  go_upto_block 3 with (fail)
  go_cut [] (fun wx => AwMid b P w wx)
  case first =>
    go_wp2_with fail
    have c7 : w7.cell? ⟨P, 3, none⟩ = some (.slice none 0 0) := by rw [Lib.cell_of_heap hg7]; rfl
    have HK := Lib.hid (fun (x : World) (h : x.heap[P]? = some (.cells #[.int .i64 2, .int .i64 1, .slice none 0 0, .slice none 0 0, .slice none 0 0, .slice none 0 0, .slice none 0 0] 28 (0, 0))) => (show x.cell? ⟨P, 3, none⟩ = some (.slice none 0 0) ∧ x.frozen? ⟨P, 3, none⟩ = false from ⟨by rw [Lib.cell_of_heap h]; rfl, Lib.frozen_of_heap h 3⟩))
    have HI : (Tryz.prog.info? 52).map (fun i => (i.zero, i.size, i.bytes)) = some (some (.agg #[.int .i64 0, .int .i64 0, .int .i64 0, .int .i64 0]), 4, 32) := by kernel_rfl
    obtain ⟨i0, hi, hz0, hz1, hz2⟩ := Go.info_parts HI
    have HII := Lib.hid hi; have HZ0 := Lib.hid hz0; have HZ1 := Lib.hid hz1; have HZ2 := Lib.hid hz2
    clear hi hz0 hz1 hz2 HI
    have hP7 : P ≤ w7.heap.size := by have := A8.size; rw [HP.out] at this; exact this
    go_region_law (first
      | ((go_simp; go_at_call 50; (with_reducible refine (HI8.out _ F1.drew).mono ?_); rintro e u1 ⟨rfl, G1, G2⟩; have g1 := G2.at hg7 hnP; obtain ⟨k1, _⟩ := HK.out _ g1; dsimp only))
      | ((go_simp; go_at_call 48; (with_reducible refine (HN10.out _ G1).mono ?_); rintro e u2 ⟨rfl, I1, I2⟩; have g2 := I2.at g1 hnP; obtain ⟨k2, _⟩ := HK.out _ g2; dsimp only))
      | ((go_simp; go_at_call 48; (with_reducible refine (HN11.out _ I1).mono ?_); rintro e u3 ⟨rfl, J1, J2⟩; have g3 := J2.at g2 hnP; obtain ⟨k3, z3⟩ := HK.out _ g3; have n3 := World.new_ne u3 _ k3; have a3 := (World.cell?_alloc_some u3 _ (.cells #[.int .i64 0, .int .i64 1, .int .i64 3, .int .i64 1] 52) (by rw [k3]; rfl)).trans k3; have hs3 : P ≤ u3.heap.size := Nat.le_trans hP7 (Nat.le_trans G2.size (Nat.le_trans I2.size J2.size)); dsimp only))
      | ((refine step_append_lies _ (by rfl) _ _ _ (by rfl) P 52 i0 _ 4 32 Tryz.underlying23 HII.out HZ0.out HZ1.out HZ2.out rfl (by omega) (.slice none 0 0) 0 [] (by rfl) (World.ownsRow_nil _ _ _ _) ⟨u3.heap.size, 0, none⟩ 1 1 [.int .i64 0, .int .i64 1, .int .i64 3, .int .i64 1] (by rfl) (by rfl) (World.news_of_block (cs := #[.int .i64 0, .int .i64 1, .int .i64 3, .int .i64 1]) (t := 52) (fr := (0, 0)) (heap_alloc_new u3 _)) (by simp [Value.oneCell']) (by omega) (by unfold maxLen; omega) (by omega) (by simp; omega) (u3.heap.size + 1) (by simp) ?_; intro g cap u4 hown4 hgrow hat hlt; have g4 := (hgrow.block P (by simp; omega) (by simp [Value.ownBlock])).trans ((Lib.alloc_old u3 _ P (lt_of_block g3)).trans g3); obtain ⟨k4, z4⟩ := HK.out _ g4)))
    all_goals
      go_wp2_with fail
      go_meet
      have hM := A8.drew.trans ((G2.mono (m := [b, P]) (by simp)).trans ((I2.mono (by simp)).trans (J2.mono (by simp))))
      have hgg : g = u3.heap.size + 1 := by
        rcases hat with hat | hat
        · cases hat
        · exact hat
      have hbu : b < u3.heap.size := J1.lt
      have hPu := lt_of_block g3
      have hcell : u4.cell? ⟨g, 2, none⟩ = some (.int .i64 3) := by
        have := World.ownsRow.cells (g := g) hown4 rfl 2 (.int .i64 3) rfl
        simpa [Addr.add] using this
      have hub : u4.heap[b]? = u3.heap[b]? := (hgrow.block b (by simp; omega) (by simp [Value.ownBlock])).trans (Lib.alloc_old u3 _ b hbu)
      refine ⟨g, cap, heap_setN g4 3 _, ⟨EndOf.start awS 12 (by decide), (Below.heap_setCell _ _ _ _ hbP).trans (hub.trans J1.2)⟩, ?_, by omega, by simpa [World.setCell] using hlt, by omega, ?_⟩
      · refine Fr.setCell (l := [b, P]) ?_ ⟨P, 3, none⟩ (by simp) _
        refine hM.trans (((Fr.refl [b, P] u3).alloc (.cells #[.int .i64 0, .int .i64 1, .int .i64 3, .int .i64 1] 52)).trans ⟨hgrow.os, hgrow.tape, hgrow.output, hgrow.size, fun k hk _ => hgrow.block k hk (by simp [Value.ownBlock])⟩)
      · rw [World.cell?_setCell_other _ _ _ _ (by intro h; injection h with h; omega)]; exact hcell
  case rest =>
    obtain ⟨g, cap, hg9, S9, A9, hPg, hgl, hgb, hc9⟩ := hcut
    clear A8 hg7 F1 hb
    rename_i w9
    go_wp2_with fail
    rw [rounds_succ]
    go_wp2_with fail
    refine (HM12.out _ S9).mono ?_; rintro e w10 ⟨rfl, S10, T10⟩
    dsimp only
    have A10 := A9.trans (T10.mono (by simp))
    have hg10 := T10.at hg9 hnP
    have hc10 := (Fr.cell (i := 2) T10 hgl (by simpa using hgb)).trans hc9
    have hgl10 : g < w10.heap.size := Nat.lt_of_lt_of_le hgl T10.size
    clear S9 T10 A9 hg9 hc9
    go_wp2_with fail
    refine wp_loop_rounds 1 ?_
    rw [rounds_succ]
    go_wp2_with fail
    refine (HM13.out _ S10).mono ?_; rintro e w11 ⟨rfl, S11, T11⟩
    dsimp only
    have A11 := A10.trans (T11.mono (by simp))
    have hg11 := T11.at hg10 hnP
    have hc11 := (Fr.cell (i := 2) T11 hgl10 (by simpa using hgb)).trans hc10
    have hgl11 : g < w11.heap.size := Nat.lt_of_lt_of_le hgl10 T11.size
    clear S10 T11 A10 hg10 hc10
    go_wp2_with fail
    refine wp_loop_rounds 1 ?_
    rw [rounds_succ]
    go_wp2_with fail
    refine (HM14.out _ S11).mono ?_; rintro e w12 ⟨rfl, S12, T12⟩
    dsimp only
    have A12 := A11.trans (T12.mono (by simp))
    have hg12 := T12.at hg11 hnP
    have hc12 := (Fr.cell (i := 2) T12 hgl11 (by simpa using hgb)).trans hc11
    have hgl12 : g < w12.heap.size := Nat.lt_of_lt_of_le hgl11 T12.size
    clear S11 T12 A11 hg11 hc11
    go_wp2_with fail
    refine wp_loop_rounds 1 ?_
    rw [rounds_succ]
    go_wp2_with fail
    have d0 : w12.cell? ⟨b, 0, none⟩ = some (.string awS) := S12.2.c0
    have d1 : w12.cell? ⟨b, 1, none⟩ = some (.int .i64 15) := S12.2.c1
    have hs15 : awS.size = 15 := rfl
    go_quiet (refine Calls.quiet_of_same ((HMy.out _).mono fun _ _ h => ⟨h.1, h.2.symm⟩))
    have hgE : (w12.drewN nq).heap[P]? = some (.cells #[.int .i64 2, .int .i64 1, .slice none 0 0, .slice (some ⟨g, 0, none⟩) 1 cap, .slice none 0 0, .slice none 0 0, .slice none 0 0] 28 (0, 0)) := hg12
    have hcE : (w12.drewN nq).cell? ⟨g, 2, none⟩ = some (.int .i64 3) := hc12
    have AE : Fr [b, P] w (w12.drewN nq) := A12.drewN nq
    have hglE : g < (w12.drewN nq).heap.size := hgl12
    clear d0 d1 S12 A12 hg12 hc12 hgl12
    generalize w12.drewN nq = W at *
    have e0 : W.cell? ⟨P, 0, none⟩ = some (.int .i64 2) := by rw [Lib.cell_of_heap hgE]; rfl
    have z0 : W.frozen? ⟨P, 0, none⟩ = false := Lib.frozen_of_heap hgE 0
    have e1 : W.cell? ⟨P, 1, none⟩ = some (.int .i64 1) := by rw [Lib.cell_of_heap hgE]; rfl
    have z1 : W.frozen? ⟨P, 1, none⟩ = false := Lib.frozen_of_heap hgE 1
    have e2 : W.cell? ⟨P, 2, none⟩ = some (.slice none 0 0) := by rw [Lib.cell_of_heap hgE]; rfl
    have z2 : W.frozen? ⟨P, 2, none⟩ = false := Lib.frozen_of_heap hgE 2
    have e3 : W.cell? ⟨P, 3, none⟩ = some (.slice (some ⟨g, 0, none⟩) 1 cap) := by rw [Lib.cell_of_heap hgE]; rfl
    have z3 : W.frozen? ⟨P, 3, none⟩ = false := Lib.frozen_of_heap hgE 3
    have e4 : W.cell? ⟨P, 4, none⟩ = some (.slice none 0 0) := by rw [Lib.cell_of_heap hgE]; rfl
    have z4 : W.frozen? ⟨P, 4, none⟩ = false := Lib.frozen_of_heap hgE 4
    have e5 : W.cell? ⟨P, 5, none⟩ = some (.slice none 0 0) := by rw [Lib.cell_of_heap hgE]; rfl
    have z5 : W.frozen? ⟨P, 5, none⟩ = false := Lib.frozen_of_heap hgE 5
    have e6 : W.cell? ⟨P, 6, none⟩ = some (.slice none 0 0) := by rw [Lib.cell_of_heap hgE]; rfl
    have z6 : W.frozen? ⟨P, 6, none⟩ = false := Lib.frozen_of_heap hgE 6
    go_wp2_with fail
    have hgF : (((((((W.setCell ⟨P, 0, none⟩ (.int .i64 2)).setCell ⟨P, 1, none⟩ (.int .i64 1)).setCell ⟨P, 2, none⟩ (.slice none 0 0)).setCell ⟨P, 3, none⟩ (.slice (some ⟨g, 0, none⟩) 1 cap)).setCell ⟨P, 4, none⟩ (.slice none 0 0)).setCell ⟨P, 5, none⟩ (.slice none 0 0)).setCell ⟨P, 6, none⟩ (.slice none 0 0)).heap[P]? = some (.cells #[.int .i64 2, .int .i64 1, .slice none 0 0, .slice (some ⟨g, 0, none⟩) 1 cap, .slice none 0 0, .slice none 0 0, .slice none 0 0] 28 (0, 0)) := (heap_setN (heap_setN (heap_setN (heap_setN (heap_setN (heap_setN (heap_setN hgE 0 _) 1 _) 2 _) 3 _) 4 _) 5 _) 6 _)
    have FF := ((((((((Fr.refl [P] W).setCell ⟨P, 0, none⟩ (by simp) (.int .i64 2)).setCell ⟨P, 1, none⟩ (by simp) (.int .i64 1)).setCell ⟨P, 2, none⟩ (by simp) (.slice none 0 0)).setCell ⟨P, 3, none⟩ (by simp) (.slice (some ⟨g, 0, none⟩) 1 cap)).setCell ⟨P, 4, none⟩ (by simp) (.slice none 0 0)).setCell ⟨P, 5, none⟩ (by simp) (.slice none 0 0)).setCell ⟨P, 6, none⟩ (by simp) (.slice none 0 0))
    generalize (((((((W.setCell ⟨P, 0, none⟩ (.int .i64 2)).setCell ⟨P, 1, none⟩ (.int .i64 1)).setCell ⟨P, 2, none⟩ (.slice none 0 0)).setCell ⟨P, 3, none⟩ (.slice (some ⟨g, 0, none⟩) 1 cap)).setCell ⟨P, 4, none⟩ (.slice none 0 0)).setCell ⟨P, 5, none⟩ (.slice none 0 0)).setCell ⟨P, 6, none⟩ (.slice none 0 0)) = X at *
    have y0 : X.cell? ⟨P, 0, none⟩ = some (.int .i64 2) := by rw [Lib.cell_of_heap hgF]; rfl
    have y1 : X.cell? ⟨P, 1, none⟩ = some (.int .i64 1) := by rw [Lib.cell_of_heap hgF]; rfl
    have y2 : X.cell? ⟨P, 2, none⟩ = some (.slice none 0 0) := by rw [Lib.cell_of_heap hgF]; rfl
    have y3 : X.cell? ⟨P, 3, none⟩ = some (.slice (some ⟨g, 0, none⟩) 1 cap) := by rw [Lib.cell_of_heap hgF]; rfl
    have y4 : X.cell? ⟨P, 4, none⟩ = some (.slice none 0 0) := by rw [Lib.cell_of_heap hgF]; rfl
    have y5 : X.cell? ⟨P, 5, none⟩ = some (.slice none 0 0) := by rw [Lib.cell_of_heap hgF]; rfl
    have y6 : X.cell? ⟨P, 6, none⟩ = some (.slice none 0 0) := by rw [Lib.cell_of_heap hgF]; rfl
    have hcF : X.cell? ⟨g, 2, none⟩ = some (.int .i64 3) := by
      by_cases hgp : g = P
      · subst hgp; rw [y2] at *; rw [e2] at hcE; cases hcE
      · exact (FF.cell (i := 2) hglE (by simpa using hgp)).trans hcE
    have hff := AE.trans (FF.mono (m := [b, P]) (by simp))
    refine bodyPost_ret (v := .agg #[.int .i64 2, .int .i64 1, .slice none 0 0, .slice (some ⟨g, 0, none⟩) 1 cap, .slice none 0 0, .slice none 0 0, .slice none 0 0]) (by simp [results, Tryz.results24, go_sem, y0, y1, y2, y3, y4, y5, y6]) rfl ⟨_, rfl, ⟨g, cap, rfl, by rw [HP.out]; exact hPg, Nat.lt_of_lt_of_le hglE FF.size, hcF⟩, ⟨hff.os, hff.tape, hff.output, hff.size, fun i hi hn => hff.block i hi (by simp at hn ⊢; rw [HP.out] at hi; omega)⟩⟩
end Go.Proofs.YtnaamiecljinnaaGreat
