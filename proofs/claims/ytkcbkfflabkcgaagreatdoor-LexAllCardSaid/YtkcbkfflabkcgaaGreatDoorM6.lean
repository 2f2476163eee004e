/-
  The walk of the references' sign.
-/
import Derived.Test.YtkcbkfflabkcgaaGreatDoorM5
import Derived.Lib.MinMax
namespace Go.Proofs.YtkcbkfflabkcgaaGreatDoor
open Go.RowKit

theorem part_min {l : List UInt8} {a n : Nat} : part l a (min (a + n) l.length) = part l a (a + n) := by
  unfold part
  rcases Nat.le_total (a + n) l.length with h | h
  · rw [Nat.min_eq_left h]
  · rw [Nat.min_eq_right h]
    have h1 : (l.drop a).length = l.length - a := List.length_drop
    rw [List.take_of_length_le (by omega), List.take_of_length_le (by omega)]

set_option maxRecDepth 100000 in
set_option maxHeartbeats 4000000 in
theorem rsign_any (s : ByteArray) (hs : s.size ≤ 1000000) (a : Nat) (ha : a < s.size) (w : World) :
    Calls Tryz.prog 21 #[.string s, .agg (tokCells ⟨1, a, a, 0, 0, []⟩)] w (RefTok (signS s.data.toList a) w) := by
  have hl : s.data.toList.length = s.size := by simp
  have hr := signS.eq_def s.data.toList a
  have hx := part_bytes s a (min (a + 2) s.size)
  have hpm := part_min (l := s.data.toList) (a := a) (n := 2)
  rw [hl] at hpm
  rw [hpm] at hx
  have hx1 := part_bytes s a (a + 1)
  rw [part_one (by rw [hl]; exact ha)] at hx1
  have h2l := fun h => two_len (l := s.data.toList) (a := a) h
  rw [hl] at h2l
  have H2L := Lib.hid h2l
  clear h2l hpm hl
  generalize part s.data.toList a (a + 2) = q at *
  generalize s.data.toList.getD a 0 = c at *
  have hM : ((min (a + 2) s.size : Nat) : Int) = min ((a : Int) + 2) (s.size : Int) := by omega
  have hM1 : min (a + 2) s.size ≤ s.size := by omega
  have hM2 : a ≤ min (a + 2) s.size := by omega
  generalize min (a + 2) s.size = m at *
  have HR0 := Lib.hid hr; clear hr
  have HX := Lib.hid hx; clear hx
  have HX1 := Lib.hid hx1; clear hx1
  have HM := Lib.hid hM.symm; clear hM
  have hst := store_float
  have hP : TokAt w.heap.size ⟨1, a, a, 0, 0, []⟩ ((w.alloc (.cells #[.int .i64 1, .int .i64 a, .int .i64 a, .int .i64 0, .float .f64 0, .string ⟨#[]⟩] 25)).alloc (.cells #[.int .i64 0, .int .i64 0, .int .i64 0, .int .i64 0, .float .f64 0, .string ⟨#[]⟩] 25)) := TokAt.kept (w := w.alloc (.cells #[.int .i64 1, .int .i64 a, .int .i64 a, .int .i64 0, .float .f64 0, .string ⟨#[]⟩] 25)) (heap_alloc_new w _) ((Fr.refl [] _).alloc _) (by simp)
  have hR : TokAt (w.heap.size + 1) noTk ((w.alloc (.cells #[.int .i64 1, .int .i64 a, .int .i64 a, .int .i64 0, .float .f64 0, .string ⟨#[]⟩] 25)).alloc (.cells #[.int .i64 0, .int .i64 0, .int .i64 0, .int .i64 0, .float .f64 0, .string ⟨#[]⟩] 25)) := by
    have := heap_alloc_new (w.alloc (.cells #[.int .i64 1, .int .i64 a, .int .i64 a, .int .i64 0, .float .f64 0, .string ⟨#[]⟩] 25)) (.cells #[.int .i64 0, .int .i64 0, .int .i64 0, .int .i64 0, .float .f64 0, .string ⟨#[]⟩] 25)
    simpa [TokAt, tokCells, noTk] using this
  have hB : Below w.heap.size w ((w.alloc (.cells #[.int .i64 1, .int .i64 a, .int .i64 a, .int .i64 0, .float .f64 0, .string ⟨#[]⟩] 25)).alloc (.cells #[.int .i64 0, .int .i64 0, .int .i64 0, .int .i64 0, .float .f64 0, .string ⟨#[]⟩] 25)) := ((Below.refl _ _).alloc (Nat.le_refl _) _).alloc (by simp) _
  have hPR : w.heap.size ≠ w.heap.size + 1 := by omega
  have hRP : w.heap.size + 1 ≠ w.heap.size := by omega
  have hPle : w.heap.size ≤ w.heap.size + 1 := by omega
  rw [tokCells_mk]
  go_enter Tryz.func21, Tryz.ntmps21
  have hP6 : TokAt w.heap.size ⟨6, a, a, 0, 0, []⟩ ((w.alloc (.cells #[.int .i64 6, .int .i64 a, .int .i64 a, .int .i64 0, .float .f64 0, .string ⟨#[]⟩] 25)).alloc (.cells #[.int .i64 0, .int .i64 0, .int .i64 0, .int .i64 0, .float .f64 0, .string ⟨#[]⟩] 25)) := TokAt.kept (w := w.alloc (.cells #[.int .i64 6, .int .i64 a, .int .i64 a, .int .i64 0, .float .f64 0, .string ⟨#[]⟩] 25)) (heap_alloc_new w _) ((Fr.refl [] _).alloc _) (by simp)
  have hR6 : TokAt (w.heap.size + 1) noTk ((w.alloc (.cells #[.int .i64 6, .int .i64 a, .int .i64 a, .int .i64 0, .float .f64 0, .string ⟨#[]⟩] 25)).alloc (.cells #[.int .i64 0, .int .i64 0, .int .i64 0, .int .i64 0, .float .f64 0, .string ⟨#[]⟩] 25)) := by
    have := heap_alloc_new (w.alloc (.cells #[.int .i64 6, .int .i64 a, .int .i64 a, .int .i64 0, .float .f64 0, .string ⟨#[]⟩] 25)) (.cells #[.int .i64 0, .int .i64 0, .int .i64 0, .int .i64 0, .float .f64 0, .string ⟨#[]⟩] 25)
    simpa [TokAt, tokCells, noTk] using this
  have hB6 : Below w.heap.size w ((w.alloc (.cells #[.int .i64 6, .int .i64 a, .int .i64 a, .int .i64 0, .float .f64 0, .string ⟨#[]⟩] 25)).alloc (.cells #[.int .i64 0, .int .i64 0, .int .i64 0, .int .i64 0, .float .f64 0, .string ⟨#[]⟩] 25)) := ((Below.refl _ _).alloc (Nat.le_refl _) _).alloc (by simp) _
  clear hP hR hB
  have hP := hP6
  have hR := hR6
  have hB := hB6
  clear hP6 hR6 hB6
  go_upto_region 2 with (fail)
  generalize (w.alloc (.cells #[.int .i64 6, .int .i64 a, .int .i64 a, .int .i64 0, .float .f64 0, .string ⟨#[]⟩] 25)).alloc (.cells #[.int .i64 0, .int .i64 0, .int .i64 0, .int .i64 0, .float .f64 0, .string ⟨#[]⟩] 25) = W1 at *
  generalize hgr : w.heap.size + 1 = R at *
  clear hgr
  generalize hgh : w.heap.size = P at *
  have HGH := Lib.hid hgh; clear hgh
  by_cases h1 : q = [61, 61]
  · have e1 : (q == [61, 61]) = true := by rw [h1]; rfl
    have HQ := Lib.hid (show q = [61, 61] ∨ q = [60, 61] ∨ q = [38, 38] ∨ q = [124, 124] from .inl h1)
    clear h1
    have hr := HR0.out
    rw [if_pos (by rw [List.contains_iff_mem]; simp [twos, HQ.out])] at hr
    have HR := Lib.hid hr; clear hr HR0
    have hms := H2L.out (by rw [List.contains_iff_mem]; simp [twos, HQ.out])
    clear H2L
    have y1 : W1.cell? ⟨P, 1, none⟩ = some (.int .i64 (a : Int)) := hP.cell 1
    have y2 : W1.cell? ⟨P, 2, none⟩ = some (.int .i64 (a : Int)) := hP.cell 2
    have y5 : W1.cell? ⟨P, 5, none⟩ = some (.string ⟨#[]⟩) := hP.cell 5
    have f2 := hP.free 2
    have f5 := hP.free 5
    have hx := HX.out
    have hm := HM.out
    go_upto_region 6 with (fail)
    clear y1 y2 y5 f2 f5 hx hm
    replace hP := (hP.set (k' := ⟨6, a, a, 0, 0, q⟩) 5 (.string ⟨q.toArray⟩) rfl).set (k' := ⟨6, a, a + 2, 0, 0, q⟩) 2 (.int .i64 ((a : Int) + 2)) (by show _ = tokCells _; simp [tokCells])
    replace hR := (hR.other ⟨P, 5, none⟩ (.string ⟨q.toArray⟩) hRP).other ⟨P, 2, none⟩ (.int .i64 ((a : Int) + 2)) hRP
    replace hB := (hB.setCell (p := ⟨P, 5, none⟩) (Nat.le_refl _) (.string ⟨q.toArray⟩)).setCell (p := ⟨P, 2, none⟩) (Nat.le_refl _) (.int .i64 ((a : Int) + 2))
    generalize (W1.setCell ⟨P, 5, none⟩ (.string ⟨q.toArray⟩)).setCell ⟨P, 2, none⟩ (.int .i64 ((a : Int) + 2)) = W4 at *
    obtain ⟨T, hT⟩ : ∃ T : Tk, T = ⟨6, a, a + 2, 0, 0, q⟩ := ⟨_, rfl⟩
    rw [← hT] at hP
    have HT := Lib.hid hT; clear hT
    have z0 : W4.cell? ⟨P, 0, none⟩ = some (.int .i64 T.kind) := hP.cell 0
    have q0 : W4.cell? ⟨R, 0, none⟩ = some (.int .i64 0) := hR.cell 0
    have p0 := hR.free 0
    have z1 : W4.cell? ⟨P, 1, none⟩ = some (.int .i64 T.pos) := hP.cell 1
    have q1 : W4.cell? ⟨R, 1, none⟩ = some (.int .i64 0) := hR.cell 1
    have p1 := hR.free 1
    have z2 : W4.cell? ⟨P, 2, none⟩ = some (.int .i64 T.next) := hP.cell 2
    have q2 : W4.cell? ⟨R, 2, none⟩ = some (.int .i64 0) := hR.cell 2
    have p2 := hR.free 2
    have z3 : W4.cell? ⟨P, 3, none⟩ = some (.int .i64 T.num) := hP.cell 3
    have q3 : W4.cell? ⟨R, 3, none⟩ = some (.int .i64 0) := hR.cell 3
    have p3 := hR.free 3
    have z4 : W4.cell? ⟨P, 4, none⟩ = some (.float .f64 T.flt) := hP.cell 4
    have q4 : W4.cell? ⟨R, 4, none⟩ = some (.float .f64 0) := hR.cell 4
    have p4 := hR.free 4
    have z5 : W4.cell? ⟨P, 5, none⟩ = some (.string ⟨T.str.toArray⟩) := hP.cell 5
    have q5 : W4.cell? ⟨R, 5, none⟩ = some (.string ⟨#[]⟩) := hR.cell 5
    have p5 := hR.free 5
    go_wp2_with fail
    change bodyPost _ _ _ _ _ (putTok W4 R T)
    have g1 := hR.putTok T
    have g3 : Below P w (putTok W4 R T) := putTok_below hB hPle _
    clear hR hB hP z0 z1 z2 z3 z4 z5 q0 q1 q2 q3 q4 q5 p0 p1 p2 p3 p4 p5
    generalize putTok W4 R T = WX at *
    have v0 : WX.cell? ⟨R, 0, none⟩ = some (.int .i64 T.kind) := g1.cell 0
    have v1 : WX.cell? ⟨R, 1, none⟩ = some (.int .i64 T.pos) := g1.cell 1
    have v2 : WX.cell? ⟨R, 2, none⟩ = some (.int .i64 T.next) := g1.cell 2
    have v3 : WX.cell? ⟨R, 3, none⟩ = some (.int .i64 T.num) := g1.cell 3
    have v4 : WX.cell? ⟨R, 4, none⟩ = some (.float .f64 T.flt) := g1.cell 4
    have v5 : WX.cell? ⟨R, 5, none⟩ = some (.string ⟨T.str.toArray⟩) := g1.cell 5
    refine bodyPost_ret (v := .tuple #[.agg (tokCells T), .int .i64 0]) (by simp [results, Tryz.results21, go_sem, tokCells_mk T, v0, v1, v2, v3, v4, v5]) rfl ?_
    exact ⟨T, by rw [HR.out], (fun _ => by rw [HR.out]; exact HT.out), by rw [HGH.out]; exact g3⟩
  · have e1 : (q == [61, 61]) = false := beq_eq_false_iff_ne.2 h1
    by_cases h2 : q = [60, 61]
    · have e2 : (q == [60, 61]) = true := by rw [h2]; rfl
      have HQ := Lib.hid (show q = [61, 61] ∨ q = [60, 61] ∨ q = [38, 38] ∨ q = [124, 124] from .inr (.inl h2))
      clear h1 h2
      have hr := HR0.out
      rw [if_pos (by rw [List.contains_iff_mem]; simp [twos, HQ.out])] at hr
      have HR := Lib.hid hr; clear hr HR0
      have hms := H2L.out (by rw [List.contains_iff_mem]; simp [twos, HQ.out])
      clear H2L
      have y1 : W1.cell? ⟨P, 1, none⟩ = some (.int .i64 (a : Int)) := hP.cell 1
      have y2 : W1.cell? ⟨P, 2, none⟩ = some (.int .i64 (a : Int)) := hP.cell 2
      have y5 : W1.cell? ⟨P, 5, none⟩ = some (.string ⟨#[]⟩) := hP.cell 5
      have f2 := hP.free 2
      have f5 := hP.free 5
      have hx := HX.out
      have hm := HM.out
      go_upto_region 6 with (fail)
      clear y1 y2 y5 f2 f5 hx hm
      replace hP := (hP.set (k' := ⟨6, a, a, 0, 0, q⟩) 5 (.string ⟨q.toArray⟩) rfl).set (k' := ⟨6, a, a + 2, 0, 0, q⟩) 2 (.int .i64 ((a : Int) + 2)) (by show _ = tokCells _; simp [tokCells])
      replace hR := (hR.other ⟨P, 5, none⟩ (.string ⟨q.toArray⟩) hRP).other ⟨P, 2, none⟩ (.int .i64 ((a : Int) + 2)) hRP
      replace hB := (hB.setCell (p := ⟨P, 5, none⟩) (Nat.le_refl _) (.string ⟨q.toArray⟩)).setCell (p := ⟨P, 2, none⟩) (Nat.le_refl _) (.int .i64 ((a : Int) + 2))
      generalize (W1.setCell ⟨P, 5, none⟩ (.string ⟨q.toArray⟩)).setCell ⟨P, 2, none⟩ (.int .i64 ((a : Int) + 2)) = W4 at *
      obtain ⟨T, hT⟩ : ∃ T : Tk, T = ⟨6, a, a + 2, 0, 0, q⟩ := ⟨_, rfl⟩
      rw [← hT] at hP
      have HT := Lib.hid hT; clear hT
      have z0 : W4.cell? ⟨P, 0, none⟩ = some (.int .i64 T.kind) := hP.cell 0
      have q0 : W4.cell? ⟨R, 0, none⟩ = some (.int .i64 0) := hR.cell 0
      have p0 := hR.free 0
      have z1 : W4.cell? ⟨P, 1, none⟩ = some (.int .i64 T.pos) := hP.cell 1
      have q1 : W4.cell? ⟨R, 1, none⟩ = some (.int .i64 0) := hR.cell 1
      have p1 := hR.free 1
      have z2 : W4.cell? ⟨P, 2, none⟩ = some (.int .i64 T.next) := hP.cell 2
      have q2 : W4.cell? ⟨R, 2, none⟩ = some (.int .i64 0) := hR.cell 2
      have p2 := hR.free 2
      have z3 : W4.cell? ⟨P, 3, none⟩ = some (.int .i64 T.num) := hP.cell 3
      have q3 : W4.cell? ⟨R, 3, none⟩ = some (.int .i64 0) := hR.cell 3
      have p3 := hR.free 3
      have z4 : W4.cell? ⟨P, 4, none⟩ = some (.float .f64 T.flt) := hP.cell 4
      have q4 : W4.cell? ⟨R, 4, none⟩ = some (.float .f64 0) := hR.cell 4
      have p4 := hR.free 4
      have z5 : W4.cell? ⟨P, 5, none⟩ = some (.string ⟨T.str.toArray⟩) := hP.cell 5
      have q5 : W4.cell? ⟨R, 5, none⟩ = some (.string ⟨#[]⟩) := hR.cell 5
      have p5 := hR.free 5
      go_wp2_with fail
      change bodyPost _ _ _ _ _ (putTok W4 R T)
      have g1 := hR.putTok T
      have g3 : Below P w (putTok W4 R T) := putTok_below hB hPle _
      clear hR hB hP z0 z1 z2 z3 z4 z5 q0 q1 q2 q3 q4 q5 p0 p1 p2 p3 p4 p5
      generalize putTok W4 R T = WX at *
      have v0 : WX.cell? ⟨R, 0, none⟩ = some (.int .i64 T.kind) := g1.cell 0
      have v1 : WX.cell? ⟨R, 1, none⟩ = some (.int .i64 T.pos) := g1.cell 1
      have v2 : WX.cell? ⟨R, 2, none⟩ = some (.int .i64 T.next) := g1.cell 2
      have v3 : WX.cell? ⟨R, 3, none⟩ = some (.int .i64 T.num) := g1.cell 3
      have v4 : WX.cell? ⟨R, 4, none⟩ = some (.float .f64 T.flt) := g1.cell 4
      have v5 : WX.cell? ⟨R, 5, none⟩ = some (.string ⟨T.str.toArray⟩) := g1.cell 5
      refine bodyPost_ret (v := .tuple #[.agg (tokCells T), .int .i64 0]) (by simp [results, Tryz.results21, go_sem, tokCells_mk T, v0, v1, v2, v3, v4, v5]) rfl ?_
      exact ⟨T, by rw [HR.out], (fun _ => by rw [HR.out]; exact HT.out), by rw [HGH.out]; exact g3⟩
    · have e2 : (q == [60, 61]) = false := beq_eq_false_iff_ne.2 h2
      by_cases h3 : q = [38, 38]
      · have e3 : (q == [38, 38]) = true := by rw [h3]; rfl
        have HQ := Lib.hid (show q = [61, 61] ∨ q = [60, 61] ∨ q = [38, 38] ∨ q = [124, 124] from .inr (.inr (.inl h3)))
        clear h1 h2 h3
        have hr := HR0.out
        rw [if_pos (by rw [List.contains_iff_mem]; simp [twos, HQ.out])] at hr
        have HR := Lib.hid hr; clear hr HR0
        have hms := H2L.out (by rw [List.contains_iff_mem]; simp [twos, HQ.out])
        clear H2L
        have y1 : W1.cell? ⟨P, 1, none⟩ = some (.int .i64 (a : Int)) := hP.cell 1
        have y2 : W1.cell? ⟨P, 2, none⟩ = some (.int .i64 (a : Int)) := hP.cell 2
        have y5 : W1.cell? ⟨P, 5, none⟩ = some (.string ⟨#[]⟩) := hP.cell 5
        have f2 := hP.free 2
        have f5 := hP.free 5
        have hx := HX.out
        have hm := HM.out
        go_upto_region 6 with (fail)
        clear y1 y2 y5 f2 f5 hx hm
        replace hP := (hP.set (k' := ⟨6, a, a, 0, 0, q⟩) 5 (.string ⟨q.toArray⟩) rfl).set (k' := ⟨6, a, a + 2, 0, 0, q⟩) 2 (.int .i64 ((a : Int) + 2)) (by show _ = tokCells _; simp [tokCells])
        replace hR := (hR.other ⟨P, 5, none⟩ (.string ⟨q.toArray⟩) hRP).other ⟨P, 2, none⟩ (.int .i64 ((a : Int) + 2)) hRP
        replace hB := (hB.setCell (p := ⟨P, 5, none⟩) (Nat.le_refl _) (.string ⟨q.toArray⟩)).setCell (p := ⟨P, 2, none⟩) (Nat.le_refl _) (.int .i64 ((a : Int) + 2))
        generalize (W1.setCell ⟨P, 5, none⟩ (.string ⟨q.toArray⟩)).setCell ⟨P, 2, none⟩ (.int .i64 ((a : Int) + 2)) = W4 at *
        obtain ⟨T, hT⟩ : ∃ T : Tk, T = ⟨6, a, a + 2, 0, 0, q⟩ := ⟨_, rfl⟩
        rw [← hT] at hP
        have HT := Lib.hid hT; clear hT
        have z0 : W4.cell? ⟨P, 0, none⟩ = some (.int .i64 T.kind) := hP.cell 0
        have q0 : W4.cell? ⟨R, 0, none⟩ = some (.int .i64 0) := hR.cell 0
        have p0 := hR.free 0
        have z1 : W4.cell? ⟨P, 1, none⟩ = some (.int .i64 T.pos) := hP.cell 1
        have q1 : W4.cell? ⟨R, 1, none⟩ = some (.int .i64 0) := hR.cell 1
        have p1 := hR.free 1
        have z2 : W4.cell? ⟨P, 2, none⟩ = some (.int .i64 T.next) := hP.cell 2
        have q2 : W4.cell? ⟨R, 2, none⟩ = some (.int .i64 0) := hR.cell 2
        have p2 := hR.free 2
        have z3 : W4.cell? ⟨P, 3, none⟩ = some (.int .i64 T.num) := hP.cell 3
        have q3 : W4.cell? ⟨R, 3, none⟩ = some (.int .i64 0) := hR.cell 3
        have p3 := hR.free 3
        have z4 : W4.cell? ⟨P, 4, none⟩ = some (.float .f64 T.flt) := hP.cell 4
        have q4 : W4.cell? ⟨R, 4, none⟩ = some (.float .f64 0) := hR.cell 4
        have p4 := hR.free 4
        have z5 : W4.cell? ⟨P, 5, none⟩ = some (.string ⟨T.str.toArray⟩) := hP.cell 5
        have q5 : W4.cell? ⟨R, 5, none⟩ = some (.string ⟨#[]⟩) := hR.cell 5
        have p5 := hR.free 5
        go_wp2_with fail
        change bodyPost _ _ _ _ _ (putTok W4 R T)
        have g1 := hR.putTok T
        have g3 : Below P w (putTok W4 R T) := putTok_below hB hPle _
        clear hR hB hP z0 z1 z2 z3 z4 z5 q0 q1 q2 q3 q4 q5 p0 p1 p2 p3 p4 p5
        generalize putTok W4 R T = WX at *
        have v0 : WX.cell? ⟨R, 0, none⟩ = some (.int .i64 T.kind) := g1.cell 0
        have v1 : WX.cell? ⟨R, 1, none⟩ = some (.int .i64 T.pos) := g1.cell 1
        have v2 : WX.cell? ⟨R, 2, none⟩ = some (.int .i64 T.next) := g1.cell 2
        have v3 : WX.cell? ⟨R, 3, none⟩ = some (.int .i64 T.num) := g1.cell 3
        have v4 : WX.cell? ⟨R, 4, none⟩ = some (.float .f64 T.flt) := g1.cell 4
        have v5 : WX.cell? ⟨R, 5, none⟩ = some (.string ⟨T.str.toArray⟩) := g1.cell 5
        refine bodyPost_ret (v := .tuple #[.agg (tokCells T), .int .i64 0]) (by simp [results, Tryz.results21, go_sem, tokCells_mk T, v0, v1, v2, v3, v4, v5]) rfl ?_
        exact ⟨T, by rw [HR.out], (fun _ => by rw [HR.out]; exact HT.out), by rw [HGH.out]; exact g3⟩
      · have e3 : (q == [38, 38]) = false := beq_eq_false_iff_ne.2 h3
        by_cases h4 : q = [124, 124]
        · have e4 : (q == [124, 124]) = true := by rw [h4]; rfl
          have HQ := Lib.hid (show q = [61, 61] ∨ q = [60, 61] ∨ q = [38, 38] ∨ q = [124, 124] from .inr (.inr (.inr h4)))
          clear h1 h2 h3 h4
          have hr := HR0.out
          rw [if_pos (by rw [List.contains_iff_mem]; simp [twos, HQ.out])] at hr
          have HR := Lib.hid hr; clear hr HR0
          have hms := H2L.out (by rw [List.contains_iff_mem]; simp [twos, HQ.out])
          clear H2L
          have y1 : W1.cell? ⟨P, 1, none⟩ = some (.int .i64 (a : Int)) := hP.cell 1
          have y2 : W1.cell? ⟨P, 2, none⟩ = some (.int .i64 (a : Int)) := hP.cell 2
          have y5 : W1.cell? ⟨P, 5, none⟩ = some (.string ⟨#[]⟩) := hP.cell 5
          have f2 := hP.free 2
          have f5 := hP.free 5
          have hx := HX.out
          have hm := HM.out
          go_upto_region 6 with (fail)
          clear y1 y2 y5 f2 f5 hx hm
          replace hP := (hP.set (k' := ⟨6, a, a, 0, 0, q⟩) 5 (.string ⟨q.toArray⟩) rfl).set (k' := ⟨6, a, a + 2, 0, 0, q⟩) 2 (.int .i64 ((a : Int) + 2)) (by show _ = tokCells _; simp [tokCells])
          replace hR := (hR.other ⟨P, 5, none⟩ (.string ⟨q.toArray⟩) hRP).other ⟨P, 2, none⟩ (.int .i64 ((a : Int) + 2)) hRP
          replace hB := (hB.setCell (p := ⟨P, 5, none⟩) (Nat.le_refl _) (.string ⟨q.toArray⟩)).setCell (p := ⟨P, 2, none⟩) (Nat.le_refl _) (.int .i64 ((a : Int) + 2))
          generalize (W1.setCell ⟨P, 5, none⟩ (.string ⟨q.toArray⟩)).setCell ⟨P, 2, none⟩ (.int .i64 ((a : Int) + 2)) = W4 at *
          obtain ⟨T, hT⟩ : ∃ T : Tk, T = ⟨6, a, a + 2, 0, 0, q⟩ := ⟨_, rfl⟩
          rw [← hT] at hP
          have HT := Lib.hid hT; clear hT
          have z0 : W4.cell? ⟨P, 0, none⟩ = some (.int .i64 T.kind) := hP.cell 0
          have q0 : W4.cell? ⟨R, 0, none⟩ = some (.int .i64 0) := hR.cell 0
          have p0 := hR.free 0
          have z1 : W4.cell? ⟨P, 1, none⟩ = some (.int .i64 T.pos) := hP.cell 1
          have q1 : W4.cell? ⟨R, 1, none⟩ = some (.int .i64 0) := hR.cell 1
          have p1 := hR.free 1
          have z2 : W4.cell? ⟨P, 2, none⟩ = some (.int .i64 T.next) := hP.cell 2
          have q2 : W4.cell? ⟨R, 2, none⟩ = some (.int .i64 0) := hR.cell 2
          have p2 := hR.free 2
          have z3 : W4.cell? ⟨P, 3, none⟩ = some (.int .i64 T.num) := hP.cell 3
          have q3 : W4.cell? ⟨R, 3, none⟩ = some (.int .i64 0) := hR.cell 3
          have p3 := hR.free 3
          have z4 : W4.cell? ⟨P, 4, none⟩ = some (.float .f64 T.flt) := hP.cell 4
          have q4 : W4.cell? ⟨R, 4, none⟩ = some (.float .f64 0) := hR.cell 4
          have p4 := hR.free 4
          have z5 : W4.cell? ⟨P, 5, none⟩ = some (.string ⟨T.str.toArray⟩) := hP.cell 5
          have q5 : W4.cell? ⟨R, 5, none⟩ = some (.string ⟨#[]⟩) := hR.cell 5
          have p5 := hR.free 5
          go_wp2_with fail
          change bodyPost _ _ _ _ _ (putTok W4 R T)
          have g1 := hR.putTok T
          have g3 : Below P w (putTok W4 R T) := putTok_below hB hPle _
          clear hR hB hP z0 z1 z2 z3 z4 z5 q0 q1 q2 q3 q4 q5 p0 p1 p2 p3 p4 p5
          generalize putTok W4 R T = WX at *
          have v0 : WX.cell? ⟨R, 0, none⟩ = some (.int .i64 T.kind) := g1.cell 0
          have v1 : WX.cell? ⟨R, 1, none⟩ = some (.int .i64 T.pos) := g1.cell 1
          have v2 : WX.cell? ⟨R, 2, none⟩ = some (.int .i64 T.next) := g1.cell 2
          have v3 : WX.cell? ⟨R, 3, none⟩ = some (.int .i64 T.num) := g1.cell 3
          have v4 : WX.cell? ⟨R, 4, none⟩ = some (.float .f64 T.flt) := g1.cell 4
          have v5 : WX.cell? ⟨R, 5, none⟩ = some (.string ⟨T.str.toArray⟩) := g1.cell 5
          refine bodyPost_ret (v := .tuple #[.agg (tokCells T), .int .i64 0]) (by simp [results, Tryz.results21, go_sem, tokCells_mk T, v0, v1, v2, v3, v4, v5]) rfl ?_
          exact ⟨T, by rw [HR.out], (fun _ => by rw [HR.out]; exact HT.out), by rw [HGH.out]; exact g3⟩
        · have e4 : (q == [124, 124]) = false := beq_eq_false_iff_ne.2 h4
          have hn : ¬ (q = [61, 61] ∨ q = [60, 61] ∨ q = [38, 38] ∨ q = [124, 124]) := by rintro (h | h | h | h) <;> contradiction
          have hr := HR0.out
          rw [if_neg (by rw [List.contains_iff_mem]; simpa [twos] using hn)] at hr
          have HR1 := Lib.hid hr
          clear hr HR0 hn h1 h2 h3 h4
          have y1 : W1.cell? ⟨P, 1, none⟩ = some (.int .i64 (a : Int)) := hP.cell 1
          have hx := HX.out
          have hm := HM.out
          have hx1 := HX1.out
          go_wp2_with fail
          clear hx hm hx1 e1 e2 e3 e4
          go_loop [9] (fun iv => ∃ i : Nat, i ≤ 17 ∧ iv = .int .i64 i ∧ Hid (∀ j, j < i → ones.getD j 0 ≠ c)) (fun iv => 17 - (intOf iv).toNat)
          case atStart => exact ⟨0, by omega, by first | rfl | go_num, fun j hj => absurd hj (by omega)⟩
          case round =>
            obtain ⟨i, hi, rfl, hall⟩ := hrel
            by_cases hlt : i < 17
            · have t1 : decide ((i : Int) < 17) = true := by simp; omega
              have hxi : (⟨#[40, 41, 91, 93, 123, 125, 44, 58, 46, 63, 43, 45, 42, 47, 37, 33, 60]⟩ : ByteArray).extract i (i + 1) = ⟨#[ones.getD i 0]⟩ := by
                have h := part_bytes ⟨ones.toArray⟩ i (i + 1)
                rw [show (⟨ones.toArray⟩ : ByteArray).data.toList = ones from rfl, part_one (l := ones) (by exact hlt)] at h
                exact h
              have hdc := Lib.hid (Eq.refl (ones.getD i 0))
              have hgi : ones.getD i 0 ∈ ones := by
                rw [List.getD_eq_getElem?_getD, List.getElem?_eq_getElem (by exact hlt)]
                exact List.getElem_mem _
              have HS := Lib.hid (fun (h : ones.getD i 0 ≠ c) j (hj : j < i + 1) => (show ones.getD j 0 ≠ c from by
                rcases Nat.lt_or_ge j i with g | g
                · exact hall.out j g
                · rw [show j = i by omega]; exact h))
              generalize ones.getD i 0 = d at *
              by_cases hd : d = c
              · subst hd
                have hr := HR1.out
                rw [if_pos (List.contains_iff_mem.2 hgi)] at hr
                have HR := Lib.hid hr
                clear hr HR1 hgi HS hdc hall
                have y2 : W1.cell? ⟨P, 2, none⟩ = some (.int .i64 (a : Int)) := hP.cell 2
                have y5 : W1.cell? ⟨P, 5, none⟩ = some (.string ⟨#[]⟩) := hP.cell 5
                have f2 := hP.free 2
                have f5 := hP.free 5
                go_upto_region 15 with (fail)
                clear y1 y2 y5 f2 f5 hxi
                replace hP := (hP.set (k' := ⟨6, a, a, 0, 0, [d]⟩) 5 (.string ⟨#[d]⟩) rfl).set (k' := ⟨6, a, a + 1, 0, 0, [d]⟩) 2 (.int .i64 ((a : Int) + 1)) (by show _ = tokCells _; simp [tokCells])
                replace hR := (hR.other ⟨P, 5, none⟩ (.string ⟨#[d]⟩) hRP).other ⟨P, 2, none⟩ (.int .i64 ((a : Int) + 1)) hRP
                replace hB := (hB.setCell (p := ⟨P, 5, none⟩) (Nat.le_refl _) (.string ⟨#[d]⟩)).setCell (p := ⟨P, 2, none⟩) (Nat.le_refl _) (.int .i64 ((a : Int) + 1))
                generalize (W1.setCell ⟨P, 5, none⟩ (.string ⟨#[d]⟩)).setCell ⟨P, 2, none⟩ (.int .i64 ((a : Int) + 1)) = W4 at *
                obtain ⟨T, hT⟩ : ∃ T : Tk, T = ⟨6, a, a + 1, 0, 0, [d]⟩ := ⟨_, rfl⟩
                rw [← hT] at hP
                have HT := Lib.hid hT; clear hT
                have z0 : W4.cell? ⟨P, 0, none⟩ = some (.int .i64 T.kind) := hP.cell 0
                have q0 : W4.cell? ⟨R, 0, none⟩ = some (.int .i64 0) := hR.cell 0
                have p0 := hR.free 0
                have z1 : W4.cell? ⟨P, 1, none⟩ = some (.int .i64 T.pos) := hP.cell 1
                have q1 : W4.cell? ⟨R, 1, none⟩ = some (.int .i64 0) := hR.cell 1
                have p1 := hR.free 1
                have z2 : W4.cell? ⟨P, 2, none⟩ = some (.int .i64 T.next) := hP.cell 2
                have q2 : W4.cell? ⟨R, 2, none⟩ = some (.int .i64 0) := hR.cell 2
                have p2 := hR.free 2
                have z3 : W4.cell? ⟨P, 3, none⟩ = some (.int .i64 T.num) := hP.cell 3
                have q3 : W4.cell? ⟨R, 3, none⟩ = some (.int .i64 0) := hR.cell 3
                have p3 := hR.free 3
                have z4 : W4.cell? ⟨P, 4, none⟩ = some (.float .f64 T.flt) := hP.cell 4
                have q4 : W4.cell? ⟨R, 4, none⟩ = some (.float .f64 0) := hR.cell 4
                have p4 := hR.free 4
                have z5 : W4.cell? ⟨P, 5, none⟩ = some (.string ⟨T.str.toArray⟩) := hP.cell 5
                have q5 : W4.cell? ⟨R, 5, none⟩ = some (.string ⟨#[]⟩) := hR.cell 5
                have p5 := hR.free 5
                go_wp2_with fail
                change bodyPost _ _ _ _ _ (putTok W4 R T)
                have g1 := hR.putTok T
                have g3 : Below P w (putTok W4 R T) := putTok_below hB hPle _
                clear hR hB hP z0 z1 z2 z3 z4 z5 q0 q1 q2 q3 q4 q5 p0 p1 p2 p3 p4 p5
                generalize putTok W4 R T = WX at *
                have v0 : WX.cell? ⟨R, 0, none⟩ = some (.int .i64 T.kind) := g1.cell 0
                have v1 : WX.cell? ⟨R, 1, none⟩ = some (.int .i64 T.pos) := g1.cell 1
                have v2 : WX.cell? ⟨R, 2, none⟩ = some (.int .i64 T.next) := g1.cell 2
                have v3 : WX.cell? ⟨R, 3, none⟩ = some (.int .i64 T.num) := g1.cell 3
                have v4 : WX.cell? ⟨R, 4, none⟩ = some (.float .f64 T.flt) := g1.cell 4
                have v5 : WX.cell? ⟨R, 5, none⟩ = some (.string ⟨T.str.toArray⟩) := g1.cell 5
                refine bodyPost_ret (v := .tuple #[.agg (tokCells T), .int .i64 0]) (by simp [results, Tryz.results21, go_sem, tokCells_mk T, v0, v1, v2, v3, v4, v5]) rfl ?_
                exact ⟨T, by rw [HR.out], (fun _ => by rw [HR.out]; exact HT.out), by rw [HGH.out]; exact g3⟩
              · have t2 : (d == c) = false := beq_eq_false_iff_ne.2 hd
                have t3 : ([d] == [c]) = false := beq_eq_false_iff_ne.2 (by simpa using hd)
                have HS2 := HS.out hd
                have HS3 := Lib.hid HS2
                clear HS HS2 hd hgi
                go_wp2_with fail
                go_round
                case rel => exact ⟨i + 1, by omega, by go_num, HS3.out⟩
                case measure => simp [intOf]; omega
            · have t1 : decide ((i : Int) < 17) = false := by simp; omega
              have hr := HR1.out
              have hnot : ¬ ones.contains c = true := by
                rw [List.contains_iff_mem]
                intro hm
                obtain ⟨j, hj, he⟩ := List.mem_iff_getElem.1 hm
                have h17 : j < i := by have : ones.length = 17 := rfl; omega
                exact hall.out j h17 (by rw [List.getD_eq_getElem?_getD, List.getElem?_eq_getElem hj, he]; rfl)
              rw [if_neg hnot] at hr
              have HR := Lib.hid hr
              clear hr HR1 hnot hall
              go_upto_region 16 with (fail)
              clear y1
              obtain ⟨T, hT⟩ : ∃ T : Tk, T = ⟨6, a, a, 0, 0, []⟩ := ⟨_, rfl⟩
              rw [← hT] at hP
              have HT := Lib.hid hT; clear hT
              have z0 : W1.cell? ⟨P, 0, none⟩ = some (.int .i64 T.kind) := hP.cell 0
              have q0 : W1.cell? ⟨R, 0, none⟩ = some (.int .i64 0) := hR.cell 0
              have p0 := hR.free 0
              have z1 : W1.cell? ⟨P, 1, none⟩ = some (.int .i64 T.pos) := hP.cell 1
              have q1 : W1.cell? ⟨R, 1, none⟩ = some (.int .i64 0) := hR.cell 1
              have p1 := hR.free 1
              have z2 : W1.cell? ⟨P, 2, none⟩ = some (.int .i64 T.next) := hP.cell 2
              have q2 : W1.cell? ⟨R, 2, none⟩ = some (.int .i64 0) := hR.cell 2
              have p2 := hR.free 2
              have z3 : W1.cell? ⟨P, 3, none⟩ = some (.int .i64 T.num) := hP.cell 3
              have q3 : W1.cell? ⟨R, 3, none⟩ = some (.int .i64 0) := hR.cell 3
              have p3 := hR.free 3
              have z4 : W1.cell? ⟨P, 4, none⟩ = some (.float .f64 T.flt) := hP.cell 4
              have q4 : W1.cell? ⟨R, 4, none⟩ = some (.float .f64 0) := hR.cell 4
              have p4 := hR.free 4
              have z5 : W1.cell? ⟨P, 5, none⟩ = some (.string ⟨T.str.toArray⟩) := hP.cell 5
              have q5 : W1.cell? ⟨R, 5, none⟩ = some (.string ⟨#[]⟩) := hR.cell 5
              have p5 := hR.free 5
              go_wp2_with fail
              change bodyPost _ _ _ _ _ (putTok W1 R T)
              have g1 := hR.putTok T
              have g3 : Below P w (putTok W1 R T) := putTok_below hB hPle _
              clear hR hB hP z0 z1 z2 z3 z4 z5 q0 q1 q2 q3 q4 q5 p0 p1 p2 p3 p4 p5
              generalize putTok W1 R T = WX at *
              have v0 : WX.cell? ⟨R, 0, none⟩ = some (.int .i64 T.kind) := g1.cell 0
              have v1 : WX.cell? ⟨R, 1, none⟩ = some (.int .i64 T.pos) := g1.cell 1
              have v2 : WX.cell? ⟨R, 2, none⟩ = some (.int .i64 T.next) := g1.cell 2
              have v3 : WX.cell? ⟨R, 3, none⟩ = some (.int .i64 T.num) := g1.cell 3
              have v4 : WX.cell? ⟨R, 4, none⟩ = some (.float .f64 T.flt) := g1.cell 4
              have v5 : WX.cell? ⟨R, 5, none⟩ = some (.string ⟨T.str.toArray⟩) := g1.cell 5
              refine bodyPost_ret (v := .tuple #[.agg (tokCells T), .int .i64 5]) (by simp [results, Tryz.results21, go_sem, tokCells_mk T, v0, v1, v2, v3, v4, v5]) rfl ?_
              exact ⟨T, by rw [HR.out], (fun h => by rw [HR.out] at h; cases h), by rw [HGH.out]; exact g3⟩
end Go.Proofs.YtkcbkfflabkcgaaGreatDoor
