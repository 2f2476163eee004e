/-
  The walk of the references' Word, SameToken and Same.
-/
import Derived.Test.YtkcbkfflabkcgaaGreatDoorM8
namespace Go.Proofs.YtkcbkfflabkcgaaGreatDoor
open Go.RowKit

set_option maxRecDepth 100000 in
set_option maxHeartbeats 2000000 in
theorem rword_any (l : List UInt8) (w : World) : Calls Tryz.prog 13 #[.string ⟨l.toArray⟩] w fun e w' => e = .returned (.bool (wordS l)) ∧ w = w' := by
  have HW := Lib.hid (wordS.eq_def l)
  cases e0 : (l == [116, 114, 117, 101])
  · cases e1 : (l == [102, 97, 108, 115, 101])
    · cases e2 : (l == [110, 97, 110])
      · cases e3 : (l == [105, 110, 102])
        · cases e4 : (l == [108, 101, 110])
          · cases e5 : (l == [102, 108, 111, 97, 116])
            · cases e6 : (l == [105, 110, 116])
              · cases e7 : (l == [115, 116, 114])
                · go_enter Tryz.func13, Tryz.ntmps13
                  go_wp2
                  go_ret
                  exact ⟨ret_val (by rw [HW.out, e0, e1, e2, e3, e4, e5, e6, e7]; rfl), rfl⟩
                · go_enter Tryz.func13, Tryz.ntmps13
                  go_wp2
                  go_ret
                  exact ⟨ret_val (by rw [HW.out, e0, e1, e2, e3, e4, e5, e6, e7]; rfl), rfl⟩
              · go_enter Tryz.func13, Tryz.ntmps13
                go_wp2
                go_ret
                exact ⟨ret_val (by rw [HW.out, e0, e1, e2, e3, e4, e5, e6]; rfl), rfl⟩
            · go_enter Tryz.func13, Tryz.ntmps13
              go_wp2
              go_ret
              exact ⟨ret_val (by rw [HW.out, e0, e1, e2, e3, e4, e5]; rfl), rfl⟩
          · go_enter Tryz.func13, Tryz.ntmps13
            go_wp2
            go_ret
            exact ⟨ret_val (by rw [HW.out, e0, e1, e2, e3, e4]; rfl), rfl⟩
        · go_enter Tryz.func13, Tryz.ntmps13
          go_wp2
          go_ret
          exact ⟨ret_val (by rw [HW.out, e0, e1, e2, e3]; rfl), rfl⟩
      · go_enter Tryz.func13, Tryz.ntmps13
        go_wp2
        go_ret
        exact ⟨ret_val (by rw [HW.out, e0, e1, e2]; rfl), rfl⟩
    · go_enter Tryz.func13, Tryz.ntmps13
      go_wp2
      go_ret
      exact ⟨ret_val (by rw [HW.out, e0, e1]; rfl), rfl⟩
  · go_enter Tryz.func13, Tryz.ntmps13
    go_wp2
    go_ret
    exact ⟨ret_val (by rw [HW.out, e0]; rfl), rfl⟩

set_option maxRecDepth 100000 in
set_option maxHeartbeats 4000000 in
/-- a token is the same as itself -/
theorem rsameTok_any (k : Tk) (w : World) : Calls Tryz.prog 8 #[.agg (tokCells k), .agg (tokCells k)] w fun e w' => e = .returned (.bool true) ∧ Below w.heap.size w w' := by
  have hst := store_float
  have HS := rsame_any k.flt k.flt
  simp only [decide_true] at HS
  have HS := Lib.hid HS
  have hB : Below w.heap.size w ((w.alloc (.cells #[.int .i64 k.kind, .int .i64 k.pos, .int .i64 k.next, .int .i64 k.num, .float .f64 k.flt, .string ⟨k.str.toArray⟩] 25)).alloc (.cells #[.int .i64 k.kind, .int .i64 k.pos, .int .i64 k.next, .int .i64 k.num, .float .f64 k.flt, .string ⟨k.str.toArray⟩] 25)) := ((Below.refl _ _).alloc (Nat.le_refl _) _).alloc (by simp) _
  rw [tokCells_mk]
  go_enter Tryz.func8, Tryz.ntmps8
  go_wp2_with (go_at_call 22; refine (HS.out _).mono ?_; rintro e w' ⟨rfl, rfl⟩)
  go_ret
  exact ⟨rfl, hB⟩
theorem rowsOf_get : ∀ (l : List Tk) (i j : Nat), i < l.length → j < 6 → (rowsOf l)[i * 6 + j]? = (tokCells (l.getD i noTk))[j]?
  | [], _, _, h, _ => by simp at h
  | k :: l, 0, j, _, hj => by
    show ((tokCells k).toList ++ rowsOf l)[0 * 6 + j]? = _
    rw [Nat.zero_mul, Nat.zero_add, List.getElem?_append_left (by simpa [tokCells] using hj)]
    simp
  | k :: l, i + 1, j, h, hj => by
    show ((tokCells k).toList ++ rowsOf l)[(i + 1) * 6 + j]? = _
    have hlen : (tokCells k).toList.length = 6 := rfl
    rw [List.getElem?_append_right (by omega), hlen, show (i + 1) * 6 + j - 6 = i * 6 + j by omega, rowsOf_get l i j (by simpa using h) hj]
    rfl
theorem Toks.form {B : Nat} {v : Value} {l : List Tk} {w : World} (h : Toks B v l w) (hl : 0 < l.length) : ∃ g cap, v = .slice (some ⟨g, 0, none⟩) l.length cap ∧ g < w.heap.size ∧ ∀ i j, i < l.length → j < 6 → w.cell? ⟨g, i * 6 + j, none⟩ = (tokCells (l.getD i noTk))[j]? := by
  have hc := fun g => World.ownsRow.cells (g := g) h
  rcases h.2 with ⟨_, h0⟩ | ⟨g, cap, cur, rfl, _, hg, _⟩
  · omega
  · refine ⟨g, cap, rfl, lt_of_block hg, fun i j hi hj => ?_⟩
    have h1 := rowsOf_get l i j hi hj
    have h2 : ∃ u, (tokCells (l.getD i noTk))[j]? = some u := by
      have : j < (tokCells (l.getD i noTk)).size := hj
      exact ⟨_, Array.getElem?_eq_getElem this⟩
    obtain ⟨u, hu⟩ := h2
    have h3 := hc g rfl (i * 6 + j) u (by rw [h1, hu])
    rw [hu, ← h3]
    congr 1
    unfold Addr.add
    split <;> simp_all
theorem Toks.nil {B : Nat} {v : Value} {w : World} (h : Toks B v [] w) : ∃ p cap, v = .slice p 0 cap := by
  rcases h.2 with ⟨rfl, _⟩ | ⟨g, cap, cur, rfl, _⟩
  · exact ⟨_, _, rfl⟩
  · exact ⟨_, _, rfl⟩

set_option maxRecDepth 100000 in
set_option maxHeartbeats 4000000 in
theorem rsameList_nil (p q : Option Addr) (c d : Nat) (w : World) : Calls Tryz.prog 11 #[.slice p 0 c, .slice q 0 d] w fun e w' => e = .returned (.bool true) ∧ Below w.heap.size w w' := by
  go_enter Tryz.func11, Tryz.ntmps11
  go_wp2_with fail
  refine wp_loop_rounds 1 ?_
  rw [rounds_succ]
  go_wp2_with fail
  go_ret
  exact ⟨rfl, Below.refl _ _⟩

set_option maxRecDepth 100000 in
set_option maxHeartbeats 4000000 in
theorem rsameList_any (l : List Tk) (hl : l.length ≤ 1000000) (h0 : 0 < l.length) (g g' cap cap' : Nat) (w : World) (hg : g < w.heap.size) (hg' : g' < w.heap.size)
    (hc : ∀ i j, i < l.length → j < 6 → w.cell? ⟨g, i * 6 + j, none⟩ = (tokCells (l.getD i noTk))[j]?) (hc' : ∀ i j, i < l.length → j < 6 → w.cell? ⟨g', i * 6 + j, none⟩ = (tokCells (l.getD i noTk))[j]?) :
    Calls Tryz.prog 11 #[.slice (some ⟨g, 0, none⟩) l.length cap, .slice (some ⟨g', 0, none⟩) l.length cap'] w fun e w' => e = .returned (.bool true) ∧ Below w.heap.size w w' := by
  have HC := Lib.hid hc
  have HC' := Lib.hid hc'
  clear hc hc'
  have hB := Below.refl w.heap.size w
  generalize hn : l.length = n at *
  have HN := Lib.hid hn; clear hn
  go_enter Tryz.func11, Tryz.ntmps11
  go_wp2_with fail
  generalize hgh : w.heap.size = H at *
  have HH := Lib.hid hgh; clear hgh
  go_loopw [5] (fun iv wr => ∃ i : Nat, i ≤ n ∧ iv = .int .i64 i ∧ Below H w wr) (fun iv _ => n - (intOf iv).toNat)
  case atStart => exact ⟨0, by omega, rfl, hB⟩
  case round =>
    clear hB
    obtain ⟨i, hi, rfl, hB⟩ := hrel
    have hHr : H ≤ wr.heap.size := by have := hB.size; rw [HH.out] at this; exact this
    by_cases hlt : i < n
    · have t0 : decide ((i : Int) < (n : Int)) = true := by simp; omega
      have x0 : wr.cell? ⟨g, i * 6, none⟩ = some (.int .i64 (l.getD i noTk).kind) := (hB.cell (p := ⟨g, i * 6 + 0, none⟩) (by show _ < H; omega)).trans (HC.out i 0 hlt (by decide))
      have x1 : wr.cell? ⟨g, i * 6 + 1, none⟩ = some (.int .i64 (l.getD i noTk).pos) := (hB.cell (p := ⟨g, i * 6 + 1, none⟩) (by show _ < H; omega)).trans (HC.out i 1 hlt (by decide))
      have x2 : wr.cell? ⟨g, i * 6 + 2, none⟩ = some (.int .i64 (l.getD i noTk).next) := (hB.cell (p := ⟨g, i * 6 + 2, none⟩) (by show _ < H; omega)).trans (HC.out i 2 hlt (by decide))
      have x3 : wr.cell? ⟨g, i * 6 + 3, none⟩ = some (.int .i64 (l.getD i noTk).num) := (hB.cell (p := ⟨g, i * 6 + 3, none⟩) (by show _ < H; omega)).trans (HC.out i 3 hlt (by decide))
      have x4 : wr.cell? ⟨g, i * 6 + 4, none⟩ = some (.float .f64 (l.getD i noTk).flt) := (hB.cell (p := ⟨g, i * 6 + 4, none⟩) (by show _ < H; omega)).trans (HC.out i 4 hlt (by decide))
      have x5 : wr.cell? ⟨g, i * 6 + 5, none⟩ = some (.string ⟨(l.getD i noTk).str.toArray⟩) := (hB.cell (p := ⟨g, i * 6 + 5, none⟩) (by show _ < H; omega)).trans (HC.out i 5 hlt (by decide))
      have y0 : wr.cell? ⟨g', i * 6, none⟩ = some (.int .i64 (l.getD i noTk).kind) := (hB.cell (p := ⟨g', i * 6 + 0, none⟩) (by show _ < H; omega)).trans (HC'.out i 0 hlt (by decide))
      have y1 : wr.cell? ⟨g', i * 6 + 1, none⟩ = some (.int .i64 (l.getD i noTk).pos) := (hB.cell (p := ⟨g', i * 6 + 1, none⟩) (by show _ < H; omega)).trans (HC'.out i 1 hlt (by decide))
      have y2 : wr.cell? ⟨g', i * 6 + 2, none⟩ = some (.int .i64 (l.getD i noTk).next) := (hB.cell (p := ⟨g', i * 6 + 2, none⟩) (by show _ < H; omega)).trans (HC'.out i 2 hlt (by decide))
      have y3 : wr.cell? ⟨g', i * 6 + 3, none⟩ = some (.int .i64 (l.getD i noTk).num) := (hB.cell (p := ⟨g', i * 6 + 3, none⟩) (by show _ < H; omega)).trans (HC'.out i 3 hlt (by decide))
      have y4 : wr.cell? ⟨g', i * 6 + 4, none⟩ = some (.float .f64 (l.getD i noTk).flt) := (hB.cell (p := ⟨g', i * 6 + 4, none⟩) (by show _ < H; omega)).trans (HC'.out i 4 hlt (by decide))
      have y5 : wr.cell? ⟨g', i * 6 + 5, none⟩ = some (.string ⟨(l.getD i noTk).str.toArray⟩) := (hB.cell (p := ⟨g', i * 6 + 5, none⟩) (by show _ < H; omega)).trans (HC'.out i 5 hlt (by decide))
      have HS := Lib.hid (fun w => rsameTok_any (l.getD i noTk) w)
      generalize l.getD i noTk = k at *
      rw [tokCells_mk] at HS
      have b1 : (0 : Int) ≤ (i : Int) := by omega
      have b2 : (i : Int) < (n : Int) := by omega
      go_wp2_with fail
      go_region_held3 (fun w' => w'.cell? ⟨g, i * 6, none⟩ = some (.int .i64 k.kind) ∧ w'.cell? ⟨g, i * 6 + 1, none⟩ = some (.int .i64 k.pos) ∧ w'.cell? ⟨g, i * 6 + 2, none⟩ = some (.int .i64 k.next) ∧ w'.cell? ⟨g, i * 6 + 3, none⟩ = some (.int .i64 k.num) ∧ w'.cell? ⟨g, i * 6 + 4, none⟩ = some (.float .f64 k.flt) ∧ w'.cell? ⟨g, i * 6 + 5, none⟩ = some (.string ⟨k.str.toArray⟩) ∧ w'.cell? ⟨g', i * 6, none⟩ = some (.int .i64 k.kind) ∧ w'.cell? ⟨g', i * 6 + 1, none⟩ = some (.int .i64 k.pos) ∧ w'.cell? ⟨g', i * 6 + 2, none⟩ = some (.int .i64 k.next) ∧ w'.cell? ⟨g', i * 6 + 3, none⟩ = some (.int .i64 k.num) ∧ w'.cell? ⟨g', i * 6 + 4, none⟩ = some (.float .f64 k.flt) ∧ w'.cell? ⟨g', i * 6 + 5, none⟩ = some (.string ⟨k.str.toArray⟩)) (first | exact ⟨x0, x1, x2, x3, x4, x5, y0, y1, y2, y3, y4, y5⟩ | exact ⟨(hb5.cell (p := ⟨g, i * 6, none⟩) (by show g < wr.heap.size; omega)).trans x0, (hb5.cell (p := ⟨g, i * 6 + 1, none⟩) (by show g < wr.heap.size; omega)).trans x1, (hb5.cell (p := ⟨g, i * 6 + 2, none⟩) (by show g < wr.heap.size; omega)).trans x2, (hb5.cell (p := ⟨g, i * 6 + 3, none⟩) (by show g < wr.heap.size; omega)).trans x3, (hb5.cell (p := ⟨g, i * 6 + 4, none⟩) (by show g < wr.heap.size; omega)).trans x4, (hb5.cell (p := ⟨g, i * 6 + 5, none⟩) (by show g < wr.heap.size; omega)).trans x5, (hb5.cell (p := ⟨g', i * 6, none⟩) (by show g' < wr.heap.size; omega)).trans y0, (hb5.cell (p := ⟨g', i * 6 + 1, none⟩) (by show g' < wr.heap.size; omega)).trans y1, (hb5.cell (p := ⟨g', i * 6 + 2, none⟩) (by show g' < wr.heap.size; omega)).trans y2, (hb5.cell (p := ⟨g', i * 6 + 3, none⟩) (by show g' < wr.heap.size; omega)).trans y3, (hb5.cell (p := ⟨g', i * 6 + 4, none⟩) (by show g' < wr.heap.size; omega)).trans y4, (hb5.cell (p := ⟨g', i * 6 + 5, none⟩) (by show g' < wr.heap.size; omega)).trans y5⟩)
        ((go_at_call 8; refine (HS.out _).mono ?_; rintro e w5 ⟨rfl, hb5⟩))
      have hB5 : Below H w w5 := hB.drew.trans (hb5.mono hHr)
      go_wp2_with fail
      go_roundw
      case rel => exact ⟨i + 1, by omega, by go_num, hB5⟩
      case measure => simp [intOf]; omega
    · have t0 : decide ((i : Int) < (n : Int)) = false := by simp; omega
      go_wp2_with fail
      go_ret
      exact ⟨rfl, by rw [HH.out]; exact hB⟩
end Go.Proofs.YtkcbkfflabkcgaaGreatDoor
