/-
  The walk of lex.Next.
-/
import Derived.Test.YtkcbkfflabkcgaaDoorKb
import Derived.Deep.Cut
namespace Go.Proofs.YtkcbkfflabkcgaaDoor
open Go.RowKit

def nextS (l : List UInt8) (i : Int) : Tk × Int :=
  if i < 0 ∨ (l.length : Int) < i ∨ 2000 < l.length then (noTk, 3)
  else if (tokS l i.toNat).2 = 0 then tokS l i.toNat else (noTk, (tokS l i.toNat).2)
/-- a token and an error, what was there is as it was -/
def TokErr (r : Tk × Int) (w : World) (e : Ending) (w' : World) : Prop := e = .returned (.tuple #[.agg (tokCells r.1), .int .i64 r.2]) ∧ Below w.heap.size w w'

theorem putTok_below {B : Nat} {a w : World} (h : Below B a w) {H : Nat} (hH : B ≤ H) (k : Tk) : Below B a (putTok w H k) :=
  (((((h.setCell (p := ⟨H, 0, none⟩) hH _).setCell (p := ⟨H, 1, none⟩) hH _).setCell (p := ⟨H, 2, none⟩) hH _).setCell (p := ⟨H, 3, none⟩) hH _).setCell (p := ⟨H, 4, none⟩) hH _).setCell (p := ⟨H, 5, none⟩) hH _
theorem tokCells_mk (k : Tk) : tokCells k = #[.int .i64 k.kind, .int .i64 k.pos, .int .i64 k.next, .int .i64 k.num, .float .f64 k.flt, .string ⟨k.str.toArray⟩] := rfl
theorem noTk_cells : tokCells noTk = #[.int .i64 0, .int .i64 0, .int .i64 0, .int .i64 0, .float .f64 0, .string ⟨#[]⟩] := rfl

set_option maxRecDepth 100000 in
set_option maxHeartbeats 40000000 in
theorem next_out (s : ByteArray) (i : Int) (w : World) (h : i < 0 ∨ (s.size : Int) < i ∨ 2000 < s.size) :
    Calls Tryd.prog 9 #[.string s, .int .i64 i] w (TokErr (noTk, 3) w) := by
  have hst := store_float
  have hB : Below w.heap.size w (w.alloc (.cells (tokCells noTk) 30)) := (Below.refl _ _).alloc (Nat.le_refl _) _
  have g1 : TokAt w.heap.size noTk (w.alloc (.cells (tokCells noTk) 30)) := heap_alloc_new w _
  have v0 : (w.alloc (.cells (tokCells noTk) 30)).cell? ⟨w.heap.size, 0, none⟩ = some (.int .i64 0) := g1.cell 0
  have v1 : (w.alloc (.cells (tokCells noTk) 30)).cell? ⟨w.heap.size, 1, none⟩ = some (.int .i64 0) := g1.cell 1
  have v2 : (w.alloc (.cells (tokCells noTk) 30)).cell? ⟨w.heap.size, 2, none⟩ = some (.int .i64 0) := g1.cell 2
  have v3 : (w.alloc (.cells (tokCells noTk) 30)).cell? ⟨w.heap.size, 3, none⟩ = some (.int .i64 0) := g1.cell 3
  have v4 : (w.alloc (.cells (tokCells noTk) 30)).cell? ⟨w.heap.size, 4, none⟩ = some (.float .f64 0) := g1.cell 4
  have v5 : (w.alloc (.cells (tokCells noTk) 30)).cell? ⟨w.heap.size, 5, none⟩ = some (.string ⟨#[]⟩) := g1.cell 5
  by_cases h1 : i < 0
  · have t1 : decide (i < 0) = true := by simpa using h1
    go_enter Tryd.func9, Tryd.ntmps9
    go_wp2_with fail
    change bodyPost _ _ _ _ _ (w.alloc (.cells (tokCells noTk) 30))
    generalize w.alloc (.cells (tokCells noTk) 30) = WX at *
    refine bodyPost_ret (v := .tuple #[.agg (tokCells noTk), .int .i64 3]) (by simp [results, Tryd.results9, go_sem, noTk_cells, v0, v1, v2, v3, v4, v5]) rfl ?_
    exact ⟨rfl, hB⟩
  · have t1 : decide (i < 0) = false := by simp; omega
    by_cases h2 : (s.size : Int) < i
    · have t2 : decide ((s.size : Int) < i) = true := by simpa using h2
      go_enter Tryd.func9, Tryd.ntmps9
      go_wp2_with fail
      change bodyPost _ _ _ _ _ (w.alloc (.cells (tokCells noTk) 30))
      generalize w.alloc (.cells (tokCells noTk) 30) = WX at *
      refine bodyPost_ret (v := .tuple #[.agg (tokCells noTk), .int .i64 3]) (by simp [results, Tryd.results9, go_sem, noTk_cells, v0, v1, v2, v3, v4, v5]) rfl ?_
      exact ⟨rfl, hB⟩
    · have t2 : decide ((s.size : Int) < i) = false := by simp; omega
      have t3 : decide ((2000 : Int) < (s.size : Int)) = true := by simp; omega
      go_enter Tryd.func9, Tryd.ntmps9
      go_wp2_with fail
      change bodyPost _ _ _ _ _ (w.alloc (.cells (tokCells noTk) 30))
      generalize w.alloc (.cells (tokCells noTk) 30) = WX at *
      refine bodyPost_ret (v := .tuple #[.agg (tokCells noTk), .int .i64 3]) (by simp [results, Tryd.results9, go_sem, noTk_cells, v0, v1, v2, v3, v4, v5]) rfl ?_
      exact ⟨rfl, hB⟩

set_option maxRecDepth 100000 in
set_option maxHeartbeats 4000000 in
theorem next_in (s : ByteArray) (i : Nat) (w : World) (hE : Env w) (hi : i ≤ s.size) (hs : s.size ≤ 2000) :
    Calls Tryd.prog 9 #[.string s, .int .i64 (i : Int)] w (TokErr (if (tokS s.data.toList i).2 = 0 then tokS s.data.toList i else (noTk, (tokS s.data.toList i).2)) w) := by
  have hst := store_float
  have t1 : decide ((i : Int) < 0) = false := by simp
  have t1' : ¬ (i : Int) < 0 := by omega
  have t2 : decide ((s.size : Int) < (i : Int)) = false := by simp; omega
  have t2' : ¬ s.size < i := by omega
  have t3 : decide ((2000 : Int) < (s.size : Int)) = false := by simp; omega
  have t3' : ¬ 2000 < s.size := by omega
  have hR : TokAt w.heap.size noTk ((w.alloc (.cells (tokCells noTk) 30)).alloc (.cells #[.string s, .int .i64 i] 44)) := TokAt.kept (w := w.alloc (.cells (tokCells noTk) 30)) (heap_alloc_new w _) ((Fr.refl [] _).alloc _) (by simp)
  have hlx : LexAt (w.heap.size + 1) s i ((w.alloc (.cells (tokCells noTk) 30)).alloc (.cells #[.string s, .int .i64 i] 44)) := by
    have := heap_alloc_new (w.alloc (.cells (tokCells noTk) 30)) (.cells #[.string s, .int .i64 i] 44)
    simpa [LexAt] using this
  have hB : Below w.heap.size w ((w.alloc (.cells (tokCells noTk) 30)).alloc (.cells #[.string s, .int .i64 i] 44)) := ((Below.refl _ _).alloc (Nat.le_refl _) _).alloc (by simp) _
  have hEB := (EnvB.of hE).below hB
  have HT := Lib.hid (fun (b B : Nat) (w0 : World) (h1 : B ≤ b) (h2 : LexAt b s i w0) (h3 : EnvB B w0) => token_any s (by omega) i b B hi h1 w0 h2 h3)
  generalize tokS s.data.toList i = r at *
  obtain ⟨rk, re⟩ := r
  dsimp only at HT ⊢
  have hsz : ((w.alloc (.cells (tokCells noTk) 30)).alloc (.cells #[.string s, .int .i64 i] 44)).heap.size = w.heap.size + 2 := by simp
  by_cases h0 : re = 0
  · rw [if_pos h0]
    have t4 : (re != 0) = false := by rw [h0]; rfl
    have hsz2 := Lib.hid hsz; clear hsz
    have hh0 := Lib.hid h0; clear h0
    go_enter Tryd.func9, Tryd.ntmps9
    go_wp2_with fail
    refine (HT.out _ w.heap.size _ (by omega) hlx hEB).mono ?_; rintro e w1 ⟨k, c, rfl, hp, hlx1, hc, hfr1, hk⟩
    have HK := Lib.hid hk
    have hb1 := hB.trans (hfr1.below (B := w.heap.size) (by have := hsz2.out; omega) (by simp))
    have hR1 := hR.kept hfr1 (by simp)
    have hHw := lt_of_block hR1
    have hb2 := hb1.alloc (by have := hb1.size; omega) (.cells #[.int .i64 k.kind, .int .i64 k.pos, .int .i64 k.next, .int .i64 k.num, .float .f64 k.flt, .string ⟨k.str.toArray⟩] 30)
    have hR2 := hR1.kept ((Fr.refl [] w1).alloc (.cells #[.int .i64 k.kind, .int .i64 k.pos, .int .i64 k.next, .int .i64 k.num, .float .f64 k.flt, .string ⟨k.str.toArray⟩] 30)) (by simp)
    have hT2 : TokAt w1.heap.size k (w1.alloc (.cells #[.int .i64 k.kind, .int .i64 k.pos, .int .i64 k.next, .int .i64 k.num, .float .f64 k.flt, .string ⟨k.str.toArray⟩] 30)) := heap_alloc_new w1 _
    rw [tokCells_mk k]
    clear hk hp hlx1 hc hfr1 hlx hR hB hEB HT hsz2
    go_upto_region 4 with (fail)
    generalize w1.alloc (.cells #[.int .i64 k.kind, .int .i64 k.pos, .int .i64 k.next, .int .i64 k.num, .float .f64 k.flt, .string ⟨k.str.toArray⟩] 30) = W2 at *
    have hne2 : w.heap.size ≠ w1.heap.size := by omega
    generalize w1.heap.size = T at *
    generalize hgh : w.heap.size = H at *
    have hgh2 := Lib.hid hgh; clear hgh
    have q0 : W2.cell? ⟨H, 0, none⟩ = some (.int .i64 0) := hR2.cell 0
    have p0 := hR2.free 0
    have z0 : W2.cell? ⟨T, 0, none⟩ = some (.int .i64 k.kind) := hT2.cell 0
    have q1 : W2.cell? ⟨H, 1, none⟩ = some (.int .i64 0) := hR2.cell 1
    have p1 := hR2.free 1
    have z1 : W2.cell? ⟨T, 1, none⟩ = some (.int .i64 k.pos) := hT2.cell 1
    have q2 : W2.cell? ⟨H, 2, none⟩ = some (.int .i64 0) := hR2.cell 2
    have p2 := hR2.free 2
    have z2 : W2.cell? ⟨T, 2, none⟩ = some (.int .i64 k.next) := hT2.cell 2
    have q3 : W2.cell? ⟨H, 3, none⟩ = some (.int .i64 0) := hR2.cell 3
    have p3 := hR2.free 3
    have z3 : W2.cell? ⟨T, 3, none⟩ = some (.int .i64 k.num) := hT2.cell 3
    have q4 : W2.cell? ⟨H, 4, none⟩ = some (.float .f64 0) := hR2.cell 4
    have p4 := hR2.free 4
    have z4 : W2.cell? ⟨T, 4, none⟩ = some (.float .f64 k.flt) := hT2.cell 4
    have q5 : W2.cell? ⟨H, 5, none⟩ = some (.string ⟨#[]⟩) := hR2.cell 5
    have p5 := hR2.free 5
    have z5 : W2.cell? ⟨T, 5, none⟩ = some (.string ⟨k.str.toArray⟩) := hT2.cell 5
    go_wp2_with fail
    change bodyPost _ _ _ _ _ (putTok W2 H k)
    have g1 := hR2.putTok k
    have g3 : Below H w (putTok W2 H k) := putTok_below hb2 (Nat.le_refl _) k
    clear hR2 hb2 hT2 q0 q1 q2 q3 q4 q5 p0 p1 p2 p3 p4 p5 z0 z1 z2 z3 z4 z5
    generalize putTok W2 H k = WX at *
    have v0 : WX.cell? ⟨H, 0, none⟩ = some (.int .i64 k.kind) := g1.cell 0
    have v1 : WX.cell? ⟨H, 1, none⟩ = some (.int .i64 k.pos) := g1.cell 1
    have v2 : WX.cell? ⟨H, 2, none⟩ = some (.int .i64 k.next) := g1.cell 2
    have v3 : WX.cell? ⟨H, 3, none⟩ = some (.int .i64 k.num) := g1.cell 3
    have v4 : WX.cell? ⟨H, 4, none⟩ = some (.float .f64 k.flt) := g1.cell 4
    have v5 : WX.cell? ⟨H, 5, none⟩ = some (.string ⟨k.str.toArray⟩) := g1.cell 5
    refine bodyPost_ret (v := .tuple #[.agg (tokCells k), .int .i64 0]) (by simp [results, Tryd.results9, go_sem, tokCells_mk k, v0, v1, v2, v3, v4, v5]) rfl ?_
    have hk0 := (HK.out hh0.out).1
    rw [← hk0, hh0.out]
    exact ⟨rfl, by rw [hgh2.out]; exact g3⟩
  · rw [if_neg h0]
    have t4 : (re != 0) = true := by rw [bne_iff_ne]; exact h0
    have hsz2 := Lib.hid hsz; clear hsz
    have hh0 := Lib.hid h0; clear h0
    go_enter Tryd.func9, Tryd.ntmps9
    go_wp2_with fail
    refine (HT.out _ w.heap.size _ (by omega) hlx hEB).mono ?_; rintro e w1 ⟨k, c, rfl, hp, hlx1, hc, hfr1, hk⟩
    have HK := Lib.hid hk
    have hb1 := hB.trans (hfr1.below (B := w.heap.size) (by have := hsz2.out; omega) (by simp))
    have hR1 := hR.kept hfr1 (by simp)
    have hHw := lt_of_block hR1
    have hb2 := hb1.alloc (by have := hb1.size; omega) (.cells #[.int .i64 k.kind, .int .i64 k.pos, .int .i64 k.next, .int .i64 k.num, .float .f64 k.flt, .string ⟨k.str.toArray⟩] 30)
    have hR2 := hR1.kept ((Fr.refl [] w1).alloc (.cells #[.int .i64 k.kind, .int .i64 k.pos, .int .i64 k.next, .int .i64 k.num, .float .f64 k.flt, .string ⟨k.str.toArray⟩] 30)) (by simp)
    have hT2 : TokAt w1.heap.size k (w1.alloc (.cells #[.int .i64 k.kind, .int .i64 k.pos, .int .i64 k.next, .int .i64 k.num, .float .f64 k.flt, .string ⟨k.str.toArray⟩] 30)) := heap_alloc_new w1 _
    rw [tokCells_mk k]
    clear hk hp hlx1 hc hfr1 hlx hR hB hEB HT hsz2
    go_upto_region 4 with (fail)
    generalize w1.alloc (.cells #[.int .i64 k.kind, .int .i64 k.pos, .int .i64 k.next, .int .i64 k.num, .float .f64 k.flt, .string ⟨k.str.toArray⟩] 30) = W2 at *
    have hne2 : w.heap.size ≠ w1.heap.size := by omega
    generalize w1.heap.size = T at *
    generalize hgh : w.heap.size = H at *
    have hgh2 := Lib.hid hgh; clear hgh
    have q0 : W2.cell? ⟨H, 0, none⟩ = some (.int .i64 0) := hR2.cell 0
    have p0 := hR2.free 0
    have z0 : W2.cell? ⟨T, 0, none⟩ = some (.int .i64 k.kind) := hT2.cell 0
    have q1 : W2.cell? ⟨H, 1, none⟩ = some (.int .i64 0) := hR2.cell 1
    have p1 := hR2.free 1
    have z1 : W2.cell? ⟨T, 1, none⟩ = some (.int .i64 k.pos) := hT2.cell 1
    have q2 : W2.cell? ⟨H, 2, none⟩ = some (.int .i64 0) := hR2.cell 2
    have p2 := hR2.free 2
    have z2 : W2.cell? ⟨T, 2, none⟩ = some (.int .i64 k.next) := hT2.cell 2
    have q3 : W2.cell? ⟨H, 3, none⟩ = some (.int .i64 0) := hR2.cell 3
    have p3 := hR2.free 3
    have z3 : W2.cell? ⟨T, 3, none⟩ = some (.int .i64 k.num) := hT2.cell 3
    have q4 : W2.cell? ⟨H, 4, none⟩ = some (.float .f64 0) := hR2.cell 4
    have p4 := hR2.free 4
    have z4 : W2.cell? ⟨T, 4, none⟩ = some (.float .f64 k.flt) := hT2.cell 4
    have q5 : W2.cell? ⟨H, 5, none⟩ = some (.string ⟨#[]⟩) := hR2.cell 5
    have p5 := hR2.free 5
    have z5 : W2.cell? ⟨T, 5, none⟩ = some (.string ⟨k.str.toArray⟩) := hT2.cell 5
    go_wp2_with fail
    change bodyPost _ _ _ _ _ (putTok W2 H noTk)
    have g1 := hR2.putTok noTk
    have g3 : Below H w (putTok W2 H noTk) := putTok_below hb2 (Nat.le_refl _) noTk
    clear hR2 hb2 hT2 q0 q1 q2 q3 q4 q5 p0 p1 p2 p3 p4 p5 z0 z1 z2 z3 z4 z5
    generalize putTok W2 H noTk = WX at *
    have v0 : WX.cell? ⟨H, 0, none⟩ = some (.int .i64 0) := g1.cell 0
    have v1 : WX.cell? ⟨H, 1, none⟩ = some (.int .i64 0) := g1.cell 1
    have v2 : WX.cell? ⟨H, 2, none⟩ = some (.int .i64 0) := g1.cell 2
    have v3 : WX.cell? ⟨H, 3, none⟩ = some (.int .i64 0) := g1.cell 3
    have v4 : WX.cell? ⟨H, 4, none⟩ = some (.float .f64 0) := g1.cell 4
    have v5 : WX.cell? ⟨H, 5, none⟩ = some (.string ⟨#[]⟩) := g1.cell 5
    refine bodyPost_ret (v := .tuple #[.agg (tokCells noTk), .int .i64 re]) (by simp [results, Tryd.results9, go_sem, noTk_cells, v0, v1, v2, v3, v4, v5]) rfl ?_
    exact ⟨rfl, by rw [hgh2.out]; exact g3⟩
theorem next_any (s : ByteArray) (i : Int) (w : World) (hE : Env w) :
    Calls Tryd.prog 9 #[.string s, .int .i64 i] w (TokErr (nextS s.data.toList i) w) := by
  have hl : s.data.toList.length = s.size := by simp
  unfold nextS
  rw [hl]
  by_cases h : i < 0 ∨ (s.size : Int) < i ∨ 2000 < s.size
  · rw [if_pos h]; exact next_out s i w h
  · rw [if_neg h]
    obtain ⟨n, rfl⟩ := Int.eq_ofNat_of_zero_le (show 0 ≤ i by omega)
    rw [Int.toNat_natCast]
    exact next_in s n w hE (by omega) (by omega)

def wordS (l : List UInt8) : Bool := (l == [116, 114, 117, 101]) || (l == [102, 97, 108, 115, 101]) || (l == [110, 97, 110]) || (l == [105, 110, 102]) || (l == [108, 101, 110]) || (l == [102, 108, 111, 97, 116]) || (l == [105, 110, 116]) || (l == [115, 116, 114])
set_option maxRecDepth 100000 in
set_option maxHeartbeats 2000000 in
theorem word_any (l : List UInt8) (w : World) : Calls Tryd.prog 14 #[.string ⟨l.toArray⟩] w fun e w' => e = .returned (.bool (wordS l)) ∧ w = w' := by
  have HW := Lib.hid (wordS.eq_def l)
  cases e0 : (l == [116, 114, 117, 101])
  · cases e1 : (l == [102, 97, 108, 115, 101])
    · cases e2 : (l == [110, 97, 110])
      · cases e3 : (l == [105, 110, 102])
        · cases e4 : (l == [108, 101, 110])
          · cases e5 : (l == [102, 108, 111, 97, 116])
            · cases e6 : (l == [105, 110, 116])
              · cases e7 : (l == [115, 116, 114])
                · go_enter Tryd.func14, Tryd.ntmps14
                  go_wp2
                  go_ret
                  exact ⟨ret_val (by rw [HW.out, e0, e1, e2, e3, e4, e5, e6, e7]; rfl), rfl⟩
                · go_enter Tryd.func14, Tryd.ntmps14
                  go_wp2
                  go_ret
                  exact ⟨ret_val (by rw [HW.out, e0, e1, e2, e3, e4, e5, e6, e7]; rfl), rfl⟩
              · go_enter Tryd.func14, Tryd.ntmps14
                go_wp2
                go_ret
                exact ⟨ret_val (by rw [HW.out, e0, e1, e2, e3, e4, e5, e6]; rfl), rfl⟩
            · go_enter Tryd.func14, Tryd.ntmps14
              go_wp2
              go_ret
              exact ⟨ret_val (by rw [HW.out, e0, e1, e2, e3, e4, e5]; rfl), rfl⟩
          · go_enter Tryd.func14, Tryd.ntmps14
            go_wp2
            go_ret
            exact ⟨ret_val (by rw [HW.out, e0, e1, e2, e3, e4]; rfl), rfl⟩
        · go_enter Tryd.func14, Tryd.ntmps14
          go_wp2
          go_ret
          exact ⟨ret_val (by rw [HW.out, e0, e1, e2, e3]; rfl), rfl⟩
      · go_enter Tryd.func14, Tryd.ntmps14
        go_wp2
        go_ret
        exact ⟨ret_val (by rw [HW.out, e0, e1, e2]; rfl), rfl⟩
    · go_enter Tryd.func14, Tryd.ntmps14
      go_wp2
      go_ret
      exact ⟨ret_val (by rw [HW.out, e0, e1]; rfl), rfl⟩
  · go_enter Tryd.func14, Tryd.ntmps14
    go_wp2
    go_ret
    exact ⟨ret_val (by rw [HW.out, e0]; rfl), rfl⟩
end Go.Proofs.YtkcbkfflabkcgaaDoor
