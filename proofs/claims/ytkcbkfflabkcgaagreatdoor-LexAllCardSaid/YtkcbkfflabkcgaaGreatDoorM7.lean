/-
  The walk of the references' Next.
-/
import Derived.Test.YtkcbkfflabkcgaaGreatDoorM6
namespace Go.Proofs.YtkcbkfflabkcgaaGreatDoor
open Go.RowKit

def rnextS (l : List UInt8) (i : Int) : Tk × Nat × Int :=
  if i < 0 ∨ (l.length : Int) < i ∨ 2000 < l.length then (noTk, 0, 3)
  else if (tokS l i.toNat).2 = 0 then ((tokS l i.toNat).1, i.toNat + far isBl l i.toNat, 0) else (noTk, i.toNat + far isBl l i.toNat, (tokS l i.toNat).2)
def TokErr3 (q : Tk × Nat × Int) (w : World) (e : Ending) (w' : World) : Prop := e = .returned (.tuple #[.agg (tokCells q.1), .int .i64 q.2.1, .int .i64 q.2.2]) ∧ Below w.heap.size w w'

set_option maxRecDepth 100000 in
set_option maxHeartbeats 4000000 in
theorem rnext_out (s : ByteArray) (i : Int) (w : World) (h : i < 0 ∨ (s.size : Int) < i ∨ 2000 < s.size) :
    Calls Tryz.prog 7 #[.string s, .int .i64 i] w (TokErr3 (noTk, 0, 3) w) := by
  have hst := store_float
  have hB : Below w.heap.size w (w.alloc (.cells (tokCells noTk) 25)) := (Below.refl _ _).alloc (Nat.le_refl _) _
  have g1 : TokAt w.heap.size noTk (w.alloc (.cells (tokCells noTk) 25)) := heap_alloc_new w _
  have v0 : (w.alloc (.cells (tokCells noTk) 25)).cell? ⟨w.heap.size, 0, none⟩ = some (.int .i64 0) := g1.cell 0
  have v1 : (w.alloc (.cells (tokCells noTk) 25)).cell? ⟨w.heap.size, 1, none⟩ = some (.int .i64 0) := g1.cell 1
  have v2 : (w.alloc (.cells (tokCells noTk) 25)).cell? ⟨w.heap.size, 2, none⟩ = some (.int .i64 0) := g1.cell 2
  have v3 : (w.alloc (.cells (tokCells noTk) 25)).cell? ⟨w.heap.size, 3, none⟩ = some (.int .i64 0) := g1.cell 3
  have v4 : (w.alloc (.cells (tokCells noTk) 25)).cell? ⟨w.heap.size, 4, none⟩ = some (.float .f64 0) := g1.cell 4
  have v5 : (w.alloc (.cells (tokCells noTk) 25)).cell? ⟨w.heap.size, 5, none⟩ = some (.string ⟨#[]⟩) := g1.cell 5
  by_cases h1 : i < 0
  · have t1 : decide (i < 0) = true := by simpa using h1
    go_enter Tryz.func7, Tryz.ntmps7
    go_wp2_with fail
    change bodyPost _ _ _ _ _ (w.alloc (.cells (tokCells noTk) 25))
    generalize w.alloc (.cells (tokCells noTk) 25) = WX at *
    refine bodyPost_ret (v := .tuple #[.agg (tokCells noTk), .int .i64 0, .int .i64 3]) (by simp [results, Tryz.results7, go_sem, noTk_cells, v0, v1, v2, v3, v4, v5]) rfl ?_
    exact ⟨rfl, hB⟩
  · have t1 : decide (i < 0) = false := by simp; omega
    by_cases h2 : (s.size : Int) < i
    · have t2 : decide ((s.size : Int) < i) = true := by simpa using h2
      go_enter Tryz.func7, Tryz.ntmps7
      go_wp2_with fail
      change bodyPost _ _ _ _ _ (w.alloc (.cells (tokCells noTk) 25))
      generalize w.alloc (.cells (tokCells noTk) 25) = WX at *
      refine bodyPost_ret (v := .tuple #[.agg (tokCells noTk), .int .i64 0, .int .i64 3]) (by simp [results, Tryz.results7, go_sem, noTk_cells, v0, v1, v2, v3, v4, v5]) rfl ?_
      exact ⟨rfl, hB⟩
    · have t2 : decide ((s.size : Int) < i) = false := by simp; omega
      have t3 : decide ((2000 : Int) < (s.size : Int)) = true := by simp; omega
      go_enter Tryz.func7, Tryz.ntmps7
      go_wp2_with fail
      change bodyPost _ _ _ _ _ (w.alloc (.cells (tokCells noTk) 25))
      generalize w.alloc (.cells (tokCells noTk) 25) = WX at *
      refine bodyPost_ret (v := .tuple #[.agg (tokCells noTk), .int .i64 0, .int .i64 3]) (by simp [results, Tryz.results7, go_sem, noTk_cells, v0, v1, v2, v3, v4, v5]) rfl ?_
      exact ⟨rfl, hB⟩

set_option maxRecDepth 100000 in
set_option maxHeartbeats 8000000 in
theorem rnext_in (s : ByteArray) (i : Nat) (w : World) (hi : i ≤ s.size) (hs : s.size ≤ 2000) :
    Calls Tryz.prog 7 #[.string s, .int .i64 (i : Int)] w (TokErr3 (if (tokS s.data.toList i).2 = 0 then ((tokS s.data.toList i).1, i + far isBl s.data.toList i, 0) else (noTk, i + far isBl s.data.toList i, (tokS s.data.toList i).2)) w) := by
  have hst := store_float
  have hl : s.data.toList.length = s.size := by simp
  have HL := Lib.hid hl
  have t1 : decide ((i : Int) < 0) = false := by simp
  have t1' : ¬ (i : Int) < 0 := by omega
  have t2 : decide ((s.size : Int) < (i : Int)) = false := by simp; omega
  have t2' : ¬ s.size < i := by omega
  have t3 : decide ((2000 : Int) < (s.size : Int)) = false := by simp; omega
  have t3' : ¬ 2000 < s.size := by omega
  have hr := tokS.eq_def s.data.toList i
  simp only at hr
  have hfl := far_le isBl s.data.toList (a := i) (by rw [hl]; exact hi)
  rw [hl] at hr hfl
  generalize tokS s.data.toList i = r at *
  have hE : ∃ E, E = i + far isBl s.data.toList i := ⟨_, rfl⟩
  obtain ⟨E, hE⟩ := hE
  rw [← hE] at hr hfl
  rw [← hE]
  have HE := Lib.hid hE
  have HR0 := Lib.hid hr
  clear hr hE hl
  obtain ⟨rk, re⟩ := r
  dsimp only
  have HRES := Lib.hid (Eq.refl (if re = 0 then (rk, E, 0) else (noTk, E, re)))
  generalize hres : (if re = 0 then (rk, E, 0) else (noTk, E, re)) = res
  replace HRES := Lib.hid hres.symm
  clear hres
  go_enter Tryz.func7, Tryz.ntmps7
  go_wp2_with fail
  clear t1 t1' t2 t2' t3 t3'
  go_loop [1] (fun kv => ∃ k : Nat, i ≤ k ∧ k ≤ E ∧ kv = .int .i64 k ∧ Hid (E = k + far isBl s.data.toList k)) (fun kv => s.size - (intOf kv).toNat)
  case atStart => exact ⟨i, Nat.le_refl _, by have := HE.out; omega, rfl, HE⟩
  case round =>
    obtain ⟨k, hak, hkE, rfl, hfar⟩ := hrel
    have hR : TokAt w.heap.size noTk ((w.alloc (.cells #[.int .i64 0, .int .i64 0, .int .i64 0, .int .i64 0, .float .f64 0, .string ⟨#[]⟩] 25)).alloc (.cells #[.int .i64 1, .int .i64 k, .int .i64 k, .int .i64 0, .float .f64 0, .string ⟨#[]⟩] 25)) := TokAt.kept (w := (w.alloc (.cells #[.int .i64 0, .int .i64 0, .int .i64 0, .int .i64 0, .float .f64 0, .string ⟨#[]⟩] 25))) (heap_alloc_new w _) ((Fr.refl [] _).alloc _) (by simp)
    have hT : TokAt (w.heap.size + 1) ⟨1, k, k, 0, 0, []⟩ ((w.alloc (.cells #[.int .i64 0, .int .i64 0, .int .i64 0, .int .i64 0, .float .f64 0, .string ⟨#[]⟩] 25)).alloc (.cells #[.int .i64 1, .int .i64 k, .int .i64 k, .int .i64 0, .float .f64 0, .string ⟨#[]⟩] 25)) := by
      have := heap_alloc_new (w.alloc (.cells #[.int .i64 0, .int .i64 0, .int .i64 0, .int .i64 0, .float .f64 0, .string ⟨#[]⟩] 25)) (.cells #[.int .i64 1, .int .i64 k, .int .i64 k, .int .i64 0, .float .f64 0, .string ⟨#[]⟩] 25)
      simpa [TokAt, tokCells] using this
    have hB : Below w.heap.size w ((w.alloc (.cells #[.int .i64 0, .int .i64 0, .int .i64 0, .int .i64 0, .float .f64 0, .string ⟨#[]⟩] 25)).alloc (.cells #[.int .i64 1, .int .i64 k, .int .i64 k, .int .i64 0, .float .f64 0, .string ⟨#[]⟩] 25)) := ((Below.refl _ _).alloc (Nat.le_refl _) _).alloc (by simp) _
    by_cases hlt : k < s.size
    · have ht0 : decide ((k : Int) < (s.size : Int)) = true := by simp; omega
      have ht1 : ((k : Int) == (s.size : Int)) = false := by rw [beq_eq_false_iff_ne]; omega
      have hg0 : s.data.toList.getD k 0 = s[k]'hlt := by simp [List.getD, hlt]; rfl
      have hpk : isBl (s[k]'hlt) = isBl (s.data.toList.getD k 0) := by rw [hg0]
      have HPK := Lib.hid hpk
      have HG0 := Lib.hid hg0
      clear hpk hg0
      have HC := rblank_any (s[k]'hlt) (w.alloc (.cells #[.int .i64 0, .int .i64 0, .int .i64 0, .int .i64 0, .float .f64 0, .string ⟨#[]⟩] 25))
      cases hv : isBl (s[k]'hlt)
      · rw [hv] at HC HPK
        have HC := Lib.hid HC
        have HF := Lib.hid (far_stop isBl (by rw [HL.out]; exact hlt) HPK.out.symm)
        have hEk : E = k := by have := hfar.out; have := HF.out; omega
        subst hEk
        have hr := HR0.out
        rw [if_neg (by omega), HG0.out] at hr
        clear hak hkE hv
        have HD := rdigit_any (s[E]'hlt)
        have HLt := rletter_any (s[E]'hlt)
        go_upto_region 6 with (go_at_call 15; refine HC.out.mono ?_; rintro e w' ⟨rfl, rfl⟩)
        have hRT : w.heap.size ≠ w.heap.size + 1 := by omega
        have hTR : w.heap.size + 1 ≠ w.heap.size := by omega
        have hRl : w.heap.size ≤ w.heap.size + 1 := by omega
        generalize ((w.alloc (.cells #[.int .i64 0, .int .i64 0, .int .i64 0, .int .i64 0, .float .f64 0, .string ⟨#[]⟩] 25)).alloc (.cells #[.int .i64 1, .int .i64 E, .int .i64 E, .int .i64 0, .float .f64 0, .string ⟨#[]⟩] 25)) = W0 at *
        generalize hgr : w.heap.size + 1 = T at *
        clear hgr HC
        generalize hgh : w.heap.size = R at *
        have HGH := Lib.hid hgh; clear hgh
        have hB0 : R ≤ W0.heap.size := Nat.le_of_lt (lt_of_block hR)
        have x0 : W0.cell? ⟨T, 0, none⟩ = some (.int .i64 1) := hT.cell 0
        have x1 : W0.cell? ⟨T, 1, none⟩ = some (.int .i64 (E : Int)) := hT.cell 1
        have x2 : W0.cell? ⟨T, 2, none⟩ = some (.int .i64 (E : Int)) := hT.cell 2
        have x3 : W0.cell? ⟨T, 3, none⟩ = some (.int .i64 0) := hT.cell 3
        have x4 : W0.cell? ⟨T, 4, none⟩ = some (.float .f64 0) := hT.cell 4
        have x5 : W0.cell? ⟨T, 5, none⟩ = some (.string ⟨#[]⟩) := hT.cell 5
        cases hd : isDig (s[E]'hlt)
        · rw [hd] at HD hr
          have HD := Lib.hid HD
          simp only [Bool.false_eq_true, if_false] at hr
          cases hlet : isLet (s[E]'hlt)
          · rw [hlet] at HLt hr
            have HLt := Lib.hid HLt
            simp only [Bool.false_eq_true, if_false] at hr
            by_cases h34 : s[E]'hlt = 34
            · have t34 : (((s[E]'hlt).toNat : Int) == 34) = true := by rw [h34]; rfl
              rw [if_pos h34] at hr
              clear h34
              have HN := Lib.hid (fun w => rstr_any s (by omega) E hlt w)
              rw [tokCells_mk] at HN
              generalize strS s.data.toList E = rr at *
              have HR := Lib.hid hr
              clear hr HR0
              go_wp2_with (first | (go_at_call 16; refine (HD.out _).mono ?_; rintro e w' ⟨rfl, rfl⟩) | (go_at_call 18; refine (HLt.out _).mono ?_; rintro e w' ⟨rfl, rfl⟩))
              refine (HN.out _).mono ?_; rintro e w5 ⟨k, rfl, hk, hb5⟩
              have HK := Lib.hid hk; clear hk
              clear x0 x1 x2 x3 x4 x5
              replace hT := hT.belowP hb5
              replace hR := hR.belowP hb5
              have hB5 : Below R w w5 := hB.trans (hb5.mono hB0)
              clear hB
              have hB := hB5
              clear hB5 hb5
              rw [tokCells_mk k]
              have y0 : w5.cell? ⟨T, 0, none⟩ = some (.int .i64 1) := hT.cell 0
              have g0 := hT.free 0
              have y1 : w5.cell? ⟨T, 1, none⟩ = some (.int .i64 (E : Int)) := hT.cell 1
              have g1 := hT.free 1
              have y2 : w5.cell? ⟨T, 2, none⟩ = some (.int .i64 (E : Int)) := hT.cell 2
              have g2 := hT.free 2
              have y3 : w5.cell? ⟨T, 3, none⟩ = some (.int .i64 0) := hT.cell 3
              have g3 := hT.free 3
              have y4 : w5.cell? ⟨T, 4, none⟩ = some (.float .f64 0) := hT.cell 4
              have g4 := hT.free 4
              have y5 : w5.cell? ⟨T, 5, none⟩ = some (.string ⟨#[]⟩) := hT.cell 5
              have g5 := hT.free 5
              go_upto_region 17 with (fail)
              change Code.wp _ _ _ _ (putTok w5 T k)
              have hT2 := hT.putTok k
              have hR2 : TokAt R noTk (putTok w5 T k) := (((((hR.other ⟨T, 0, none⟩ _ hRT).other ⟨T, 1, none⟩ _ hRT).other ⟨T, 2, none⟩ _ hRT).other ⟨T, 3, none⟩ _ hRT).other ⟨T, 4, none⟩ _ hRT).other ⟨T, 5, none⟩ _ hRT
              have hB2 : Below R w (putTok w5 T k) := putTok_below hB hRl k
              clear hT hR hB y0 y1 y2 y3 y4 y5 g0 g1 g2 g3 g4 g5
              generalize putTok w5 T k = W7 at *
              have hT := hT2
              have hR := hR2
              have hB := hB2
              clear hT2 hR2 hB2
              obtain ⟨rrk, rre⟩ := rr
              dsimp only at HK ⊢
              have hre : re = rre := congrArg Prod.snd HR.out
              have hrk : rk = rrk := congrArg Prod.fst HR.out
              subst hre hrk
              by_cases h0 : re = 0
              · have t4 : (re != 0) = false := by rw [h0]; rfl
                have H0 := Lib.hid h0; clear h0
                have q0 : W7.cell? ⟨R, 0, none⟩ = some (.int .i64 0) := hR.cell 0
                have p0 := hR.free 0
                have z0 : W7.cell? ⟨T, 0, none⟩ = some (.int .i64 k.kind) := hT.cell 0
                have q1 : W7.cell? ⟨R, 1, none⟩ = some (.int .i64 0) := hR.cell 1
                have p1 := hR.free 1
                have z1 : W7.cell? ⟨T, 1, none⟩ = some (.int .i64 k.pos) := hT.cell 1
                have q2 : W7.cell? ⟨R, 2, none⟩ = some (.int .i64 0) := hR.cell 2
                have p2 := hR.free 2
                have z2 : W7.cell? ⟨T, 2, none⟩ = some (.int .i64 k.next) := hT.cell 2
                have q3 : W7.cell? ⟨R, 3, none⟩ = some (.int .i64 0) := hR.cell 3
                have p3 := hR.free 3
                have z3 : W7.cell? ⟨T, 3, none⟩ = some (.int .i64 k.num) := hT.cell 3
                have q4 : W7.cell? ⟨R, 4, none⟩ = some (.float .f64 0) := hR.cell 4
                have p4 := hR.free 4
                have z4 : W7.cell? ⟨T, 4, none⟩ = some (.float .f64 k.flt) := hT.cell 4
                have q5 : W7.cell? ⟨R, 5, none⟩ = some (.string ⟨#[]⟩) := hR.cell 5
                have p5 := hR.free 5
                have z5 : W7.cell? ⟨T, 5, none⟩ = some (.string ⟨k.str.toArray⟩) := hT.cell 5
                go_wp2_with fail
                change bodyPost _ _ _ _ _ (putTok W7 R k)
                have g1 := hR.putTok k
                have g3 : Below R w (putTok W7 R k) := putTok_below hB (Nat.le_refl _) _
                clear hR hB hT q0 q1 q2 q3 q4 q5 p0 p1 p2 p3 p4 p5 z0 z1 z2 z3 z4 z5
                generalize putTok W7 R k = WX at *
                have v0 : WX.cell? ⟨R, 0, none⟩ = some (.int .i64 k.kind) := g1.cell 0
                have v1 : WX.cell? ⟨R, 1, none⟩ = some (.int .i64 k.pos) := g1.cell 1
                have v2 : WX.cell? ⟨R, 2, none⟩ = some (.int .i64 k.next) := g1.cell 2
                have v3 : WX.cell? ⟨R, 3, none⟩ = some (.int .i64 k.num) := g1.cell 3
                have v4 : WX.cell? ⟨R, 4, none⟩ = some (.float .f64 k.flt) := g1.cell 4
                have v5 : WX.cell? ⟨R, 5, none⟩ = some (.string ⟨k.str.toArray⟩) := g1.cell 5
                refine bodyPost_ret (v := .tuple #[.agg (tokCells k), .int .i64 E, .int .i64 0]) (by simp [results, Tryz.results7, go_sem, tokCells_mk k, v0, v1, v2, v3, v4, v5]) rfl ?_
                rw [HRES.out, if_pos H0.out, ← HK.out H0.out]
                exact ⟨rfl, by rw [HGH.out]; exact g3⟩
              · have t4 : (re != 0) = true := by rw [bne_iff_ne]; exact h0
                have H0 := Lib.hid h0; clear h0
                have q0 : W7.cell? ⟨R, 0, none⟩ = some (.int .i64 0) := hR.cell 0
                have p0 := hR.free 0
                have q1 : W7.cell? ⟨R, 1, none⟩ = some (.int .i64 0) := hR.cell 1
                have p1 := hR.free 1
                have q2 : W7.cell? ⟨R, 2, none⟩ = some (.int .i64 0) := hR.cell 2
                have p2 := hR.free 2
                have q3 : W7.cell? ⟨R, 3, none⟩ = some (.int .i64 0) := hR.cell 3
                have p3 := hR.free 3
                have q4 : W7.cell? ⟨R, 4, none⟩ = some (.float .f64 0) := hR.cell 4
                have p4 := hR.free 4
                have q5 : W7.cell? ⟨R, 5, none⟩ = some (.string ⟨#[]⟩) := hR.cell 5
                have p5 := hR.free 5
                go_wp2_with fail
                change bodyPost _ _ _ _ _ (putTok W7 R noTk)
                have g1 := hR.putTok noTk
                have g3 : Below R w (putTok W7 R noTk) := putTok_below hB (Nat.le_refl _) _
                clear hR hB hT q0 q1 q2 q3 q4 q5 p0 p1 p2 p3 p4 p5
                generalize putTok W7 R noTk = WX at *
                have v0 : WX.cell? ⟨R, 0, none⟩ = some (.int .i64 0) := g1.cell 0
                have v1 : WX.cell? ⟨R, 1, none⟩ = some (.int .i64 0) := g1.cell 1
                have v2 : WX.cell? ⟨R, 2, none⟩ = some (.int .i64 0) := g1.cell 2
                have v3 : WX.cell? ⟨R, 3, none⟩ = some (.int .i64 0) := g1.cell 3
                have v4 : WX.cell? ⟨R, 4, none⟩ = some (.float .f64 0) := g1.cell 4
                have v5 : WX.cell? ⟨R, 5, none⟩ = some (.string ⟨#[]⟩) := g1.cell 5
                refine bodyPost_ret (v := .tuple #[.agg (tokCells noTk), .int .i64 E, .int .i64 re]) (by simp [results, Tryz.results7, go_sem, noTk_cells, v0, v1, v2, v3, v4, v5]) rfl ?_
                rw [HRES.out, if_neg H0.out]
                exact ⟨rfl, by rw [HGH.out]; exact g3⟩
            · have t34 : (((s[E]'hlt).toNat : Int) == 34) = false := by rw [beq_eq_false_iff_ne]; intro e; exact h34 (UInt8.toNat_inj.1 (by show _ = 34; omega))
              rw [if_neg h34] at hr
              clear h34
              have HN := Lib.hid (fun w => rsign_any s (by omega) E hlt w)
              rw [tokCells_mk] at HN
              generalize signS s.data.toList E = rr at *
              have HR := Lib.hid hr
              clear hr HR0
              go_wp2_with (first | (go_at_call 16; refine (HD.out _).mono ?_; rintro e w' ⟨rfl, rfl⟩) | (go_at_call 18; refine (HLt.out _).mono ?_; rintro e w' ⟨rfl, rfl⟩))
              refine (HN.out _).mono ?_; rintro e w5 ⟨k, rfl, hk, hb5⟩
              have HK := Lib.hid hk; clear hk
              clear x0 x1 x2 x3 x4 x5
              replace hT := hT.belowP hb5
              replace hR := hR.belowP hb5
              have hB5 : Below R w w5 := hB.trans (hb5.mono hB0)
              clear hB
              have hB := hB5
              clear hB5 hb5
              rw [tokCells_mk k]
              have y0 : w5.cell? ⟨T, 0, none⟩ = some (.int .i64 1) := hT.cell 0
              have g0 := hT.free 0
              have y1 : w5.cell? ⟨T, 1, none⟩ = some (.int .i64 (E : Int)) := hT.cell 1
              have g1 := hT.free 1
              have y2 : w5.cell? ⟨T, 2, none⟩ = some (.int .i64 (E : Int)) := hT.cell 2
              have g2 := hT.free 2
              have y3 : w5.cell? ⟨T, 3, none⟩ = some (.int .i64 0) := hT.cell 3
              have g3 := hT.free 3
              have y4 : w5.cell? ⟨T, 4, none⟩ = some (.float .f64 0) := hT.cell 4
              have g4 := hT.free 4
              have y5 : w5.cell? ⟨T, 5, none⟩ = some (.string ⟨#[]⟩) := hT.cell 5
              have g5 := hT.free 5
              go_upto_region 17 with (fail)
              change Code.wp _ _ _ _ (putTok w5 T k)
              have hT2 := hT.putTok k
              have hR2 : TokAt R noTk (putTok w5 T k) := (((((hR.other ⟨T, 0, none⟩ _ hRT).other ⟨T, 1, none⟩ _ hRT).other ⟨T, 2, none⟩ _ hRT).other ⟨T, 3, none⟩ _ hRT).other ⟨T, 4, none⟩ _ hRT).other ⟨T, 5, none⟩ _ hRT
              have hB2 : Below R w (putTok w5 T k) := putTok_below hB hRl k
              clear hT hR hB y0 y1 y2 y3 y4 y5 g0 g1 g2 g3 g4 g5
              generalize putTok w5 T k = W7 at *
              have hT := hT2
              have hR := hR2
              have hB := hB2
              clear hT2 hR2 hB2
              obtain ⟨rrk, rre⟩ := rr
              dsimp only at HK ⊢
              have hre : re = rre := congrArg Prod.snd HR.out
              have hrk : rk = rrk := congrArg Prod.fst HR.out
              subst hre hrk
              by_cases h0 : re = 0
              · have t4 : (re != 0) = false := by rw [h0]; rfl
                have H0 := Lib.hid h0; clear h0
                have q0 : W7.cell? ⟨R, 0, none⟩ = some (.int .i64 0) := hR.cell 0
                have p0 := hR.free 0
                have z0 : W7.cell? ⟨T, 0, none⟩ = some (.int .i64 k.kind) := hT.cell 0
                have q1 : W7.cell? ⟨R, 1, none⟩ = some (.int .i64 0) := hR.cell 1
                have p1 := hR.free 1
                have z1 : W7.cell? ⟨T, 1, none⟩ = some (.int .i64 k.pos) := hT.cell 1
                have q2 : W7.cell? ⟨R, 2, none⟩ = some (.int .i64 0) := hR.cell 2
                have p2 := hR.free 2
                have z2 : W7.cell? ⟨T, 2, none⟩ = some (.int .i64 k.next) := hT.cell 2
                have q3 : W7.cell? ⟨R, 3, none⟩ = some (.int .i64 0) := hR.cell 3
                have p3 := hR.free 3
                have z3 : W7.cell? ⟨T, 3, none⟩ = some (.int .i64 k.num) := hT.cell 3
                have q4 : W7.cell? ⟨R, 4, none⟩ = some (.float .f64 0) := hR.cell 4
                have p4 := hR.free 4
                have z4 : W7.cell? ⟨T, 4, none⟩ = some (.float .f64 k.flt) := hT.cell 4
                have q5 : W7.cell? ⟨R, 5, none⟩ = some (.string ⟨#[]⟩) := hR.cell 5
                have p5 := hR.free 5
                have z5 : W7.cell? ⟨T, 5, none⟩ = some (.string ⟨k.str.toArray⟩) := hT.cell 5
                go_wp2_with fail
                change bodyPost _ _ _ _ _ (putTok W7 R k)
                have g1 := hR.putTok k
                have g3 : Below R w (putTok W7 R k) := putTok_below hB (Nat.le_refl _) _
                clear hR hB hT q0 q1 q2 q3 q4 q5 p0 p1 p2 p3 p4 p5 z0 z1 z2 z3 z4 z5
                generalize putTok W7 R k = WX at *
                have v0 : WX.cell? ⟨R, 0, none⟩ = some (.int .i64 k.kind) := g1.cell 0
                have v1 : WX.cell? ⟨R, 1, none⟩ = some (.int .i64 k.pos) := g1.cell 1
                have v2 : WX.cell? ⟨R, 2, none⟩ = some (.int .i64 k.next) := g1.cell 2
                have v3 : WX.cell? ⟨R, 3, none⟩ = some (.int .i64 k.num) := g1.cell 3
                have v4 : WX.cell? ⟨R, 4, none⟩ = some (.float .f64 k.flt) := g1.cell 4
                have v5 : WX.cell? ⟨R, 5, none⟩ = some (.string ⟨k.str.toArray⟩) := g1.cell 5
                refine bodyPost_ret (v := .tuple #[.agg (tokCells k), .int .i64 E, .int .i64 0]) (by simp [results, Tryz.results7, go_sem, tokCells_mk k, v0, v1, v2, v3, v4, v5]) rfl ?_
                rw [HRES.out, if_pos H0.out, ← HK.out H0.out]
                exact ⟨rfl, by rw [HGH.out]; exact g3⟩
              · have t4 : (re != 0) = true := by rw [bne_iff_ne]; exact h0
                have H0 := Lib.hid h0; clear h0
                have q0 : W7.cell? ⟨R, 0, none⟩ = some (.int .i64 0) := hR.cell 0
                have p0 := hR.free 0
                have q1 : W7.cell? ⟨R, 1, none⟩ = some (.int .i64 0) := hR.cell 1
                have p1 := hR.free 1
                have q2 : W7.cell? ⟨R, 2, none⟩ = some (.int .i64 0) := hR.cell 2
                have p2 := hR.free 2
                have q3 : W7.cell? ⟨R, 3, none⟩ = some (.int .i64 0) := hR.cell 3
                have p3 := hR.free 3
                have q4 : W7.cell? ⟨R, 4, none⟩ = some (.float .f64 0) := hR.cell 4
                have p4 := hR.free 4
                have q5 : W7.cell? ⟨R, 5, none⟩ = some (.string ⟨#[]⟩) := hR.cell 5
                have p5 := hR.free 5
                go_wp2_with fail
                change bodyPost _ _ _ _ _ (putTok W7 R noTk)
                have g1 := hR.putTok noTk
                have g3 : Below R w (putTok W7 R noTk) := putTok_below hB (Nat.le_refl _) _
                clear hR hB hT q0 q1 q2 q3 q4 q5 p0 p1 p2 p3 p4 p5
                generalize putTok W7 R noTk = WX at *
                have v0 : WX.cell? ⟨R, 0, none⟩ = some (.int .i64 0) := g1.cell 0
                have v1 : WX.cell? ⟨R, 1, none⟩ = some (.int .i64 0) := g1.cell 1
                have v2 : WX.cell? ⟨R, 2, none⟩ = some (.int .i64 0) := g1.cell 2
                have v3 : WX.cell? ⟨R, 3, none⟩ = some (.int .i64 0) := g1.cell 3
                have v4 : WX.cell? ⟨R, 4, none⟩ = some (.float .f64 0) := g1.cell 4
                have v5 : WX.cell? ⟨R, 5, none⟩ = some (.string ⟨#[]⟩) := g1.cell 5
                refine bodyPost_ret (v := .tuple #[.agg (tokCells noTk), .int .i64 E, .int .i64 re]) (by simp [results, Tryz.results7, go_sem, noTk_cells, v0, v1, v2, v3, v4, v5]) rfl ?_
                rw [HRES.out, if_neg H0.out]
                exact ⟨rfl, by rw [HGH.out]; exact g3⟩
          · rw [hlet] at HLt hr
            have HLt := Lib.hid HLt
            rw [if_pos rfl] at hr
            have HN := Lib.hid (fun w => rname_any s (by omega) E hfl w)
            rw [tokCells_mk] at HN
            generalize nameS s.data.toList E = rr at *
            have HR := Lib.hid hr
            clear hr HR0
            go_wp2_with (first | (go_at_call 16; refine (HD.out _).mono ?_; rintro e w' ⟨rfl, rfl⟩) | (go_at_call 18; refine (HLt.out _).mono ?_; rintro e w' ⟨rfl, rfl⟩))
            refine (HN.out _).mono ?_; rintro e w5 ⟨k, rfl, hk, hb5⟩
            have HK := Lib.hid hk; clear hk
            clear x0 x1 x2 x3 x4 x5
            replace hT := hT.belowP hb5
            replace hR := hR.belowP hb5
            have hB5 : Below R w w5 := hB.trans (hb5.mono hB0)
            clear hB
            have hB := hB5
            clear hB5 hb5
            rw [tokCells_mk k]
            have y0 : w5.cell? ⟨T, 0, none⟩ = some (.int .i64 1) := hT.cell 0
            have g0 := hT.free 0
            have y1 : w5.cell? ⟨T, 1, none⟩ = some (.int .i64 (E : Int)) := hT.cell 1
            have g1 := hT.free 1
            have y2 : w5.cell? ⟨T, 2, none⟩ = some (.int .i64 (E : Int)) := hT.cell 2
            have g2 := hT.free 2
            have y3 : w5.cell? ⟨T, 3, none⟩ = some (.int .i64 0) := hT.cell 3
            have g3 := hT.free 3
            have y4 : w5.cell? ⟨T, 4, none⟩ = some (.float .f64 0) := hT.cell 4
            have g4 := hT.free 4
            have y5 : w5.cell? ⟨T, 5, none⟩ = some (.string ⟨#[]⟩) := hT.cell 5
            have g5 := hT.free 5
            go_upto_region 17 with (fail)
            change Code.wp _ _ _ _ (putTok w5 T k)
            have hT2 := hT.putTok k
            have hR2 : TokAt R noTk (putTok w5 T k) := (((((hR.other ⟨T, 0, none⟩ _ hRT).other ⟨T, 1, none⟩ _ hRT).other ⟨T, 2, none⟩ _ hRT).other ⟨T, 3, none⟩ _ hRT).other ⟨T, 4, none⟩ _ hRT).other ⟨T, 5, none⟩ _ hRT
            have hB2 : Below R w (putTok w5 T k) := putTok_below hB hRl k
            clear hT hR hB y0 y1 y2 y3 y4 y5 g0 g1 g2 g3 g4 g5
            generalize putTok w5 T k = W7 at *
            have hT := hT2
            have hR := hR2
            have hB := hB2
            clear hT2 hR2 hB2
            obtain ⟨rrk, rre⟩ := rr
            dsimp only at HK ⊢
            have hre : re = rre := congrArg Prod.snd HR.out
            have hrk : rk = rrk := congrArg Prod.fst HR.out
            subst hre hrk
            by_cases h0 : re = 0
            · have t4 : (re != 0) = false := by rw [h0]; rfl
              have H0 := Lib.hid h0; clear h0
              have q0 : W7.cell? ⟨R, 0, none⟩ = some (.int .i64 0) := hR.cell 0
              have p0 := hR.free 0
              have z0 : W7.cell? ⟨T, 0, none⟩ = some (.int .i64 k.kind) := hT.cell 0
              have q1 : W7.cell? ⟨R, 1, none⟩ = some (.int .i64 0) := hR.cell 1
              have p1 := hR.free 1
              have z1 : W7.cell? ⟨T, 1, none⟩ = some (.int .i64 k.pos) := hT.cell 1
              have q2 : W7.cell? ⟨R, 2, none⟩ = some (.int .i64 0) := hR.cell 2
              have p2 := hR.free 2
              have z2 : W7.cell? ⟨T, 2, none⟩ = some (.int .i64 k.next) := hT.cell 2
              have q3 : W7.cell? ⟨R, 3, none⟩ = some (.int .i64 0) := hR.cell 3
              have p3 := hR.free 3
              have z3 : W7.cell? ⟨T, 3, none⟩ = some (.int .i64 k.num) := hT.cell 3
              have q4 : W7.cell? ⟨R, 4, none⟩ = some (.float .f64 0) := hR.cell 4
              have p4 := hR.free 4
              have z4 : W7.cell? ⟨T, 4, none⟩ = some (.float .f64 k.flt) := hT.cell 4
              have q5 : W7.cell? ⟨R, 5, none⟩ = some (.string ⟨#[]⟩) := hR.cell 5
              have p5 := hR.free 5
              have z5 : W7.cell? ⟨T, 5, none⟩ = some (.string ⟨k.str.toArray⟩) := hT.cell 5
              go_wp2_with fail
              change bodyPost _ _ _ _ _ (putTok W7 R k)
              have g1 := hR.putTok k
              have g3 : Below R w (putTok W7 R k) := putTok_below hB (Nat.le_refl _) _
              clear hR hB hT q0 q1 q2 q3 q4 q5 p0 p1 p2 p3 p4 p5 z0 z1 z2 z3 z4 z5
              generalize putTok W7 R k = WX at *
              have v0 : WX.cell? ⟨R, 0, none⟩ = some (.int .i64 k.kind) := g1.cell 0
              have v1 : WX.cell? ⟨R, 1, none⟩ = some (.int .i64 k.pos) := g1.cell 1
              have v2 : WX.cell? ⟨R, 2, none⟩ = some (.int .i64 k.next) := g1.cell 2
              have v3 : WX.cell? ⟨R, 3, none⟩ = some (.int .i64 k.num) := g1.cell 3
              have v4 : WX.cell? ⟨R, 4, none⟩ = some (.float .f64 k.flt) := g1.cell 4
              have v5 : WX.cell? ⟨R, 5, none⟩ = some (.string ⟨k.str.toArray⟩) := g1.cell 5
              refine bodyPost_ret (v := .tuple #[.agg (tokCells k), .int .i64 E, .int .i64 0]) (by simp [results, Tryz.results7, go_sem, tokCells_mk k, v0, v1, v2, v3, v4, v5]) rfl ?_
              rw [HRES.out, if_pos H0.out, ← HK.out H0.out]
              exact ⟨rfl, by rw [HGH.out]; exact g3⟩
            · have t4 : (re != 0) = true := by rw [bne_iff_ne]; exact h0
              have H0 := Lib.hid h0; clear h0
              have q0 : W7.cell? ⟨R, 0, none⟩ = some (.int .i64 0) := hR.cell 0
              have p0 := hR.free 0
              have q1 : W7.cell? ⟨R, 1, none⟩ = some (.int .i64 0) := hR.cell 1
              have p1 := hR.free 1
              have q2 : W7.cell? ⟨R, 2, none⟩ = some (.int .i64 0) := hR.cell 2
              have p2 := hR.free 2
              have q3 : W7.cell? ⟨R, 3, none⟩ = some (.int .i64 0) := hR.cell 3
              have p3 := hR.free 3
              have q4 : W7.cell? ⟨R, 4, none⟩ = some (.float .f64 0) := hR.cell 4
              have p4 := hR.free 4
              have q5 : W7.cell? ⟨R, 5, none⟩ = some (.string ⟨#[]⟩) := hR.cell 5
              have p5 := hR.free 5
              go_wp2_with fail
              change bodyPost _ _ _ _ _ (putTok W7 R noTk)
              have g1 := hR.putTok noTk
              have g3 : Below R w (putTok W7 R noTk) := putTok_below hB (Nat.le_refl _) _
              clear hR hB hT q0 q1 q2 q3 q4 q5 p0 p1 p2 p3 p4 p5
              generalize putTok W7 R noTk = WX at *
              have v0 : WX.cell? ⟨R, 0, none⟩ = some (.int .i64 0) := g1.cell 0
              have v1 : WX.cell? ⟨R, 1, none⟩ = some (.int .i64 0) := g1.cell 1
              have v2 : WX.cell? ⟨R, 2, none⟩ = some (.int .i64 0) := g1.cell 2
              have v3 : WX.cell? ⟨R, 3, none⟩ = some (.int .i64 0) := g1.cell 3
              have v4 : WX.cell? ⟨R, 4, none⟩ = some (.float .f64 0) := g1.cell 4
              have v5 : WX.cell? ⟨R, 5, none⟩ = some (.string ⟨#[]⟩) := g1.cell 5
              refine bodyPost_ret (v := .tuple #[.agg (tokCells noTk), .int .i64 E, .int .i64 re]) (by simp [results, Tryz.results7, go_sem, noTk_cells, v0, v1, v2, v3, v4, v5]) rfl ?_
              rw [HRES.out, if_neg H0.out]
              exact ⟨rfl, by rw [HGH.out]; exact g3⟩
        · rw [hd] at HD hr
          have HD := Lib.hid HD
          rw [if_pos rfl] at hr
          have HN := Lib.hid (fun w => rnumber_any s (by omega) E hfl w)
          rw [tokCells_mk] at HN
          generalize numS s.data.toList E = rr at *
          have HR := Lib.hid hr
          clear hr HR0
          go_wp2_with (first | (go_at_call 16; refine (HD.out _).mono ?_; rintro e w' ⟨rfl, rfl⟩) | (go_at_call 18; refine (HLt.out _).mono ?_; rintro e w' ⟨rfl, rfl⟩))
          refine (HN.out _).mono ?_; rintro e w5 ⟨k, rfl, hk, hb5⟩
          have HK := Lib.hid hk; clear hk
          clear x0 x1 x2 x3 x4 x5
          replace hT := hT.belowP hb5
          replace hR := hR.belowP hb5
          have hB5 : Below R w w5 := hB.trans (hb5.mono hB0)
          clear hB
          have hB := hB5
          clear hB5 hb5
          rw [tokCells_mk k]
          have y0 : w5.cell? ⟨T, 0, none⟩ = some (.int .i64 1) := hT.cell 0
          have g0 := hT.free 0
          have y1 : w5.cell? ⟨T, 1, none⟩ = some (.int .i64 (E : Int)) := hT.cell 1
          have g1 := hT.free 1
          have y2 : w5.cell? ⟨T, 2, none⟩ = some (.int .i64 (E : Int)) := hT.cell 2
          have g2 := hT.free 2
          have y3 : w5.cell? ⟨T, 3, none⟩ = some (.int .i64 0) := hT.cell 3
          have g3 := hT.free 3
          have y4 : w5.cell? ⟨T, 4, none⟩ = some (.float .f64 0) := hT.cell 4
          have g4 := hT.free 4
          have y5 : w5.cell? ⟨T, 5, none⟩ = some (.string ⟨#[]⟩) := hT.cell 5
          have g5 := hT.free 5
          go_upto_region 17 with (fail)
          change Code.wp _ _ _ _ (putTok w5 T k)
          have hT2 := hT.putTok k
          have hR2 : TokAt R noTk (putTok w5 T k) := (((((hR.other ⟨T, 0, none⟩ _ hRT).other ⟨T, 1, none⟩ _ hRT).other ⟨T, 2, none⟩ _ hRT).other ⟨T, 3, none⟩ _ hRT).other ⟨T, 4, none⟩ _ hRT).other ⟨T, 5, none⟩ _ hRT
          have hB2 : Below R w (putTok w5 T k) := putTok_below hB hRl k
          clear hT hR hB y0 y1 y2 y3 y4 y5 g0 g1 g2 g3 g4 g5
          generalize putTok w5 T k = W7 at *
          have hT := hT2
          have hR := hR2
          have hB := hB2
          clear hT2 hR2 hB2
          obtain ⟨rrk, rre⟩ := rr
          dsimp only at HK ⊢
          have hre : re = rre := congrArg Prod.snd HR.out
          have hrk : rk = rrk := congrArg Prod.fst HR.out
          subst hre hrk
          by_cases h0 : re = 0
          · have t4 : (re != 0) = false := by rw [h0]; rfl
            have H0 := Lib.hid h0; clear h0
            have q0 : W7.cell? ⟨R, 0, none⟩ = some (.int .i64 0) := hR.cell 0
            have p0 := hR.free 0
            have z0 : W7.cell? ⟨T, 0, none⟩ = some (.int .i64 k.kind) := hT.cell 0
            have q1 : W7.cell? ⟨R, 1, none⟩ = some (.int .i64 0) := hR.cell 1
            have p1 := hR.free 1
            have z1 : W7.cell? ⟨T, 1, none⟩ = some (.int .i64 k.pos) := hT.cell 1
            have q2 : W7.cell? ⟨R, 2, none⟩ = some (.int .i64 0) := hR.cell 2
            have p2 := hR.free 2
            have z2 : W7.cell? ⟨T, 2, none⟩ = some (.int .i64 k.next) := hT.cell 2
            have q3 : W7.cell? ⟨R, 3, none⟩ = some (.int .i64 0) := hR.cell 3
            have p3 := hR.free 3
            have z3 : W7.cell? ⟨T, 3, none⟩ = some (.int .i64 k.num) := hT.cell 3
            have q4 : W7.cell? ⟨R, 4, none⟩ = some (.float .f64 0) := hR.cell 4
            have p4 := hR.free 4
            have z4 : W7.cell? ⟨T, 4, none⟩ = some (.float .f64 k.flt) := hT.cell 4
            have q5 : W7.cell? ⟨R, 5, none⟩ = some (.string ⟨#[]⟩) := hR.cell 5
            have p5 := hR.free 5
            have z5 : W7.cell? ⟨T, 5, none⟩ = some (.string ⟨k.str.toArray⟩) := hT.cell 5
            go_wp2_with fail
            change bodyPost _ _ _ _ _ (putTok W7 R k)
            have g1 := hR.putTok k
            have g3 : Below R w (putTok W7 R k) := putTok_below hB (Nat.le_refl _) _
            clear hR hB hT q0 q1 q2 q3 q4 q5 p0 p1 p2 p3 p4 p5 z0 z1 z2 z3 z4 z5
            generalize putTok W7 R k = WX at *
            have v0 : WX.cell? ⟨R, 0, none⟩ = some (.int .i64 k.kind) := g1.cell 0
            have v1 : WX.cell? ⟨R, 1, none⟩ = some (.int .i64 k.pos) := g1.cell 1
            have v2 : WX.cell? ⟨R, 2, none⟩ = some (.int .i64 k.next) := g1.cell 2
            have v3 : WX.cell? ⟨R, 3, none⟩ = some (.int .i64 k.num) := g1.cell 3
            have v4 : WX.cell? ⟨R, 4, none⟩ = some (.float .f64 k.flt) := g1.cell 4
            have v5 : WX.cell? ⟨R, 5, none⟩ = some (.string ⟨k.str.toArray⟩) := g1.cell 5
            refine bodyPost_ret (v := .tuple #[.agg (tokCells k), .int .i64 E, .int .i64 0]) (by simp [results, Tryz.results7, go_sem, tokCells_mk k, v0, v1, v2, v3, v4, v5]) rfl ?_
            rw [HRES.out, if_pos H0.out, ← HK.out H0.out]
            exact ⟨rfl, by rw [HGH.out]; exact g3⟩
          · have t4 : (re != 0) = true := by rw [bne_iff_ne]; exact h0
            have H0 := Lib.hid h0; clear h0
            have q0 : W7.cell? ⟨R, 0, none⟩ = some (.int .i64 0) := hR.cell 0
            have p0 := hR.free 0
            have q1 : W7.cell? ⟨R, 1, none⟩ = some (.int .i64 0) := hR.cell 1
            have p1 := hR.free 1
            have q2 : W7.cell? ⟨R, 2, none⟩ = some (.int .i64 0) := hR.cell 2
            have p2 := hR.free 2
            have q3 : W7.cell? ⟨R, 3, none⟩ = some (.int .i64 0) := hR.cell 3
            have p3 := hR.free 3
            have q4 : W7.cell? ⟨R, 4, none⟩ = some (.float .f64 0) := hR.cell 4
            have p4 := hR.free 4
            have q5 : W7.cell? ⟨R, 5, none⟩ = some (.string ⟨#[]⟩) := hR.cell 5
            have p5 := hR.free 5
            go_wp2_with fail
            change bodyPost _ _ _ _ _ (putTok W7 R noTk)
            have g1 := hR.putTok noTk
            have g3 : Below R w (putTok W7 R noTk) := putTok_below hB (Nat.le_refl _) _
            clear hR hB hT q0 q1 q2 q3 q4 q5 p0 p1 p2 p3 p4 p5
            generalize putTok W7 R noTk = WX at *
            have v0 : WX.cell? ⟨R, 0, none⟩ = some (.int .i64 0) := g1.cell 0
            have v1 : WX.cell? ⟨R, 1, none⟩ = some (.int .i64 0) := g1.cell 1
            have v2 : WX.cell? ⟨R, 2, none⟩ = some (.int .i64 0) := g1.cell 2
            have v3 : WX.cell? ⟨R, 3, none⟩ = some (.int .i64 0) := g1.cell 3
            have v4 : WX.cell? ⟨R, 4, none⟩ = some (.float .f64 0) := g1.cell 4
            have v5 : WX.cell? ⟨R, 5, none⟩ = some (.string ⟨#[]⟩) := g1.cell 5
            refine bodyPost_ret (v := .tuple #[.agg (tokCells noTk), .int .i64 E, .int .i64 re]) (by simp [results, Tryz.results7, go_sem, noTk_cells, v0, v1, v2, v3, v4, v5]) rfl ?_
            rw [HRES.out, if_neg H0.out]
            exact ⟨rfl, by rw [HGH.out]; exact g3⟩
      · rw [hv] at HC HPK
        have HC := Lib.hid HC
        have HF := Lib.hid (far_go isBl (by rw [HL.out]; exact hlt) HPK.out.symm)
        have hEk : k + 1 ≤ E := by have := hfar.out; have := HF.out; omega
        clear hR hT hB
        go_wp2_with (go_at_call 15; refine HC.out.mono ?_; rintro e w' ⟨rfl, rfl⟩)
        go_round
        case rel => exact ⟨k + 1, by omega, hEk, by go_num, by show _ = _; rw [hfar.out, HF.out]; omega⟩
        case measure => simp [intOf]; omega
    · have ht : decide ((k : Int) < (s.size : Int)) = false := by simp; omega
      have ht2 : ¬ k < s.size := hlt
      have hks : k = s.size := by omega
      have hEk : E = k := by omega
      have ht1 : ((k : Int) == (s.size : Int)) = true := by rw [hks]; exact beq_self_eq_true _
      subst hEk
      have hr := HR0.out
      rw [if_pos hks] at hr
      have HR := Lib.hid hr
      clear hr hks
      go_upto_region 6 with (fail)
      have hRl : w.heap.size ≤ w.heap.size + 1 := by omega
      have hRT : w.heap.size ≠ w.heap.size + 1 := by omega
      have hTR : w.heap.size + 1 ≠ w.heap.size := by omega
      generalize ((w.alloc (.cells #[.int .i64 0, .int .i64 0, .int .i64 0, .int .i64 0, .float .f64 0, .string ⟨#[]⟩] 25)).alloc (.cells #[.int .i64 1, .int .i64 E, .int .i64 E, .int .i64 0, .float .f64 0, .string ⟨#[]⟩] 25)) = W0 at *
      generalize hgr : w.heap.size + 1 = T at *
      clear hgr
      generalize hgh : w.heap.size = R at *
      have HGH := Lib.hid hgh; clear hgh
      obtain ⟨K, hK⟩ : ∃ K : Tk, K = ⟨1, E, E, 0, 0, []⟩ := ⟨_, rfl⟩
      rw [← hK] at hT
      have HK := Lib.hid hK; clear hK
      have hre : re = 0 := congrArg Prod.snd HR.out
      have hrk : rk = ⟨1, E, E, 0, 0, []⟩ := congrArg Prod.fst HR.out
      have HR0e := Lib.hid hre
      have HRK := Lib.hid hrk
      clear hre hrk
      have q0 : W0.cell? ⟨R, 0, none⟩ = some (.int .i64 0) := hR.cell 0
      have p0 := hR.free 0
      have z0 : W0.cell? ⟨T, 0, none⟩ = some (.int .i64 K.kind) := hT.cell 0
      have q1 : W0.cell? ⟨R, 1, none⟩ = some (.int .i64 0) := hR.cell 1
      have p1 := hR.free 1
      have z1 : W0.cell? ⟨T, 1, none⟩ = some (.int .i64 K.pos) := hT.cell 1
      have q2 : W0.cell? ⟨R, 2, none⟩ = some (.int .i64 0) := hR.cell 2
      have p2 := hR.free 2
      have z2 : W0.cell? ⟨T, 2, none⟩ = some (.int .i64 K.next) := hT.cell 2
      have q3 : W0.cell? ⟨R, 3, none⟩ = some (.int .i64 0) := hR.cell 3
      have p3 := hR.free 3
      have z3 : W0.cell? ⟨T, 3, none⟩ = some (.int .i64 K.num) := hT.cell 3
      have q4 : W0.cell? ⟨R, 4, none⟩ = some (.float .f64 0) := hR.cell 4
      have p4 := hR.free 4
      have z4 : W0.cell? ⟨T, 4, none⟩ = some (.float .f64 K.flt) := hT.cell 4
      have q5 : W0.cell? ⟨R, 5, none⟩ = some (.string ⟨#[]⟩) := hR.cell 5
      have p5 := hR.free 5
      have z5 : W0.cell? ⟨T, 5, none⟩ = some (.string ⟨K.str.toArray⟩) := hT.cell 5
      go_wp2_with fail
      change bodyPost _ _ _ _ _ (putTok W0 R K)
      have g1 := hR.putTok K
      have g3 : Below R w (putTok W0 R K) := putTok_below hB (Nat.le_refl _) _
      clear hR hB hT q0 q1 q2 q3 q4 q5 p0 p1 p2 p3 p4 p5 z0 z1 z2 z3 z4 z5
      generalize putTok W0 R K = WX at *
      have v0 : WX.cell? ⟨R, 0, none⟩ = some (.int .i64 K.kind) := g1.cell 0
      have v1 : WX.cell? ⟨R, 1, none⟩ = some (.int .i64 K.pos) := g1.cell 1
      have v2 : WX.cell? ⟨R, 2, none⟩ = some (.int .i64 K.next) := g1.cell 2
      have v3 : WX.cell? ⟨R, 3, none⟩ = some (.int .i64 K.num) := g1.cell 3
      have v4 : WX.cell? ⟨R, 4, none⟩ = some (.float .f64 K.flt) := g1.cell 4
      have v5 : WX.cell? ⟨R, 5, none⟩ = some (.string ⟨K.str.toArray⟩) := g1.cell 5
      refine bodyPost_ret (v := .tuple #[.agg (tokCells K), .int .i64 E, .int .i64 0]) (by simp [results, Tryz.results7, go_sem, tokCells_mk K, v0, v1, v2, v3, v4, v5]) rfl ?_
      rw [HRES.out, if_pos HR0e.out, HRK.out, ← HK.out]
      exact ⟨rfl, by rw [HGH.out]; exact g3⟩

theorem rnext_any (s : ByteArray) (i : Int) (w : World) : Calls Tryz.prog 7 #[.string s, .int .i64 i] w (TokErr3 (rnextS s.data.toList i) w) := by
  have hl : s.data.toList.length = s.size := by simp
  unfold rnextS
  rw [hl]
  by_cases h : i < 0 ∨ (s.size : Int) < i ∨ 2000 < s.size
  · rw [if_pos h]; exact rnext_out s i w h
  · rw [if_neg h]
    obtain ⟨n, rfl⟩ := Int.eq_ofNat_of_zero_le (show 0 ≤ i by omega)
    rw [Int.toNat_natCast]
    exact rnext_in s n w (by omega) (by omega)
end Go.Proofs.YtkcbkfflabkcgaaGreatDoor
