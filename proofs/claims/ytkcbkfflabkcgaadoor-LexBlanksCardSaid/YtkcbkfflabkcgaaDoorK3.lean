/-
  The walks of the lexer's name.
-/
import Derived.Test.YtkcbkfflabkcgaaDoorK2
import Derived.Test.YtkcbkfflabkcgaaDoorW8
namespace Go.Proofs.YtkcbkfflabkcgaaDoor
open Go.RowKit

theorem store_float (w : World) (a : Addr) (x : Nat) (m : Mode) : (store a (.float .f64 x) m).run Tryd.prog w = stored Tryd.prog w a (.float .f64 x) m := run_store Tryd.prog w a _ m rfl
/-- a token's cells -/
def tokCells (k : Tk) : Array Value := #[.int .i64 k.kind, .int .i64 k.pos, .int .i64 k.next, .int .i64 k.num, .float .f64 k.flt, .string ⟨k.str.toArray⟩]
def TokAt (t : Nat) (k : Tk) (w : World) : Prop := w.heap[t]? = some (.cells (tokCells k) 30 (0, 0))
theorem TokAt.cell {t : Nat} {k : Tk} {w : World} (h : TokAt t k w) (i : Nat) : w.cell? ⟨t, i, none⟩ = (tokCells k)[i]? := Lib.cell_of_heap h i
theorem TokAt.free {t : Nat} {k : Tk} {w : World} (h : TokAt t k w) (i : Nat) : w.frozen? ⟨t, i, none⟩ = false := Lib.frozen_of_heap h i
theorem TokAt.kept {t : Nat} {k : Tk} {l : List Nat} {w w' : World} (h : TokAt t k w) (hf : Fr l w w') (ht : t ∉ l) : TokAt t k w' := (hf.block t (lt_of_block h) ht).trans h
theorem TokAt.drewN {t : Nat} {k : Tk} {w : World} (h : TokAt t k w) (n : Nat) : TokAt t k (w.drewN n) := h
theorem TokAt.set {t : Nat} {k k' : Tk} {w : World} (h : TokAt t k w) (i : Nat) (x : Value) (e : (tokCells k).setIfInBounds i x = tokCells k') : TokAt t k' (w.setCell ⟨t, i, none⟩ x) := by
  show _ = _
  rw [heap_setN h i x, e]
theorem TokAt.other {t : Nat} {k : Tk} {w : World} (h : TokAt t k w) (p : Addr) (x : Value) (hne : t ≠ p.block) : TokAt t k (w.setCell p x) := (Below.heap_setCell _ _ _ _ hne).trans h
theorem LexAt.other {b : Nat} {s : ByteArray} {a : Nat} {w : World} (h : LexAt b s a w) (p : Addr) (x : Value) (hne : b ≠ p.block) : LexAt b s a (w.setCell p x) := (Below.heap_setCell _ _ _ _ hne).trans h

theorem enters_blank : ∀ args w, (callFunc 22 args).run Tryd.prog w = .ok (.enter 22 args) w := enters_of Tryd.func22 (by kernel_rfl) rfl
theorem enters_digit : ∀ args w, (callFunc 23 args).run Tryd.prog w = .ok (.enter 23 args) w := enters_of Tryd.func23 (by kernel_rfl) rfl
theorem enters_name : ∀ args w, (callFunc 25 args).run Tryd.prog w = .ok (.enter 25 args) w := enters_of Tryd.func25 (by kernel_rfl) rfl

theorem part_bytes (s : ByteArray) (a e : Nat) : s.extract a e = ⟨(part s.data.toList a e).toArray⟩ := by
  apply ByteArray.ext
  apply Array.toList_inj.1
  show _ = part s.data.toList a e
  simp only [ByteArray.data_extract, Array.toList_extract, List.extract_eq_take_drop]
  unfold part
  rfl

theorem part_length {l : List UInt8} {a e : Nat} (h : e ≤ l.length) : (part l a e).length = e - a := by unfold part; rw [List.length_take, List.length_drop]; omega

/-- the library's variables, as long as only blocks from B on turn -/
def EnvB (B : Nat) (w : World) : Prop := B ≤ w.heap.size ∧ ∀ w', Below B w w' → Env w'
theorem EnvB.here {B : Nat} {w : World} (h : EnvB B w) : Env w := h.2 w (Below.refl _ _)
theorem EnvB.below {B : Nat} {w w' : World} (h : EnvB B w) (hb : Below B w w') : EnvB B w' := ⟨Nat.le_trans h.1 hb.size, fun _ k => h.2 _ (hb.trans k)⟩
theorem EnvB.fr {B b t : Nat} {w w' : World} (h : EnvB B w) (hb : B ≤ b) (ht : B ≤ t) (hf : Fr [b, t] w w') : EnvB B w' := h.below (hf.below h.1 (by simp; omega))
theorem EnvB.of {w : World} (h : Env w) : EnvB w.heap.size w := ⟨Nat.le_refl _, fun _ k => h.below k⟩
theorem Fr.one {b t : Nat} {w w' : World} (h : Fr [b] w w') : Fr [b, t] w w' := h.mono (by simp)

/-- what a reading leaves: the token and the place behind it, or an error -/
def Reads (b t : Nat) (s : ByteArray) (a : Nat) (r : Tk × Int) (w : World) (e : Ending) (w' : World) : Prop :=
  e = .returned (.int .i64 r.2) ∧ Fr [b, t] w w' ∧ (∃ k c, k.pos = a ∧ TokAt t k w' ∧ LexAt b s c w' ∧ c ≤ s.size) ∧
    (r.2 = 0 → TokAt t { r.1 with next := 0 } w' ∧ LexAt b s r.1.next w' ∧ r.1.next ≤ s.size ∧ r.1.pos = a)

set_option maxRecDepth 100000 in
set_option maxHeartbeats 1000000 in
theorem name_any (s : ByteArray) (hs : s.size ≤ 1000000) (a b t B : Nat) (ha : a ≤ s.size) (hbt : b ≠ t) (hBb : B ≤ b) (hBt : B ≤ t) (w : World) (hb : LexAt b s a w) (ht : TokAt t ⟨1, a, 0, 0, 0, []⟩ w) (hE : EnvB B w) :
    Calls Tryd.prog 26 #[.pointer (some ⟨b, 0, none⟩), .pointer (some ⟨t, 0, none⟩)] w (Reads b t s a (nameS s.data.toList a) w) := by
  have hl : s.data.toList.length = s.size := by simp
  have hfl := far_le isNm s.data.toList (a := a) (by rw [hl]; exact ha)
  rw [hl] at hfl
  have hw := while_any 25 enters_name isNm (isName_any) s hs a b ha w hb
  rw [part_bytes s a (a + far isNm s.data.toList a)] at hw
  have HW := Lib.hid hw; clear hw
  have hlen := part_length (l := s.data.toList) (a := a) (e := a + far isNm s.data.toList a) (by rw [hl]; exact hfl)
  have hr := nameS.eq_def s.data.toList a
  have HP := Lib.hid (parse_any (part s.data.toList a (a + far isNm s.data.toList a)) (by rw [hlen]; omega))
  rw [show a + far isNm s.data.toList a - a = far isNm s.data.toList a by omega] at hlen
  generalize hn : far isNm s.data.toList a = n at *
  generalize hi : a + n = i at *
  generalize hq : part s.data.toList a i = q at *
  simp only [hq] at hr
  clear hn hi hq hl
  by_cases h1 : q = [110, 97, 110] ∨ q = [105, 110, 102]
  · rw [if_pos h1] at hr
    have HR := Lib.hid hr; clear hr
    generalize (parseB q).1 = x at *
    generalize (parseB q).2 = y at *
    by_cases h2 : q = [110, 97, 110]
    · have e1 : (q == [110, 97, 110]) = true := by simp [h2]
      clear h1 h2
      go_enter Tryd.func26, Tryd.ntmps26
      go_wp2_with fail
      refine (HW.out).mono ?_; rintro e w1 ⟨rfl, hlx, hfr⟩
      have htk := ht.kept hfr (by simp; omega)
      have z0 : w1.cell? ⟨t, 0, none⟩ = some (.int .i64 1) := htk.cell 0
      have f0 := htk.free 0
      have htk2 : TokAt t ⟨3, a, 0, 0, 0, []⟩ (w1.setCell ⟨t, 0, none⟩ (.int .i64 3)) := htk.set 0 _ rfl
      have hfr2 := hfr.one.setCell (l := [b, t]) ⟨t, 0, none⟩ (by simp) (.int .i64 3)
      have hlx2 := hlx.other ⟨t, 0, none⟩ (.int .i64 3) hbt
      have hE2 := hE.fr hBb hBt hfr2
      go_wp2_with fail
      generalize w1.setCell ⟨t, 0, none⟩ (.int .i64 3) = w2 at *
      refine (HP.out _ hE2.here).mono ?_; rintro e w3 ⟨rfl, hb3⟩
      have hf3 : Fr [b, t] w2 w3 := Fr.of_below hb3
      have hst := store_float
      have htk3 := htk2.kept (Fr.of_below (l := []) hb3) (by simp)
      have hlx3 := hlx2.kept (Fr.of_below (l := []) hb3) (by simp)
      have z4 : w3.cell? ⟨t, 4, none⟩ = some (.float .f64 0) := htk3.cell 4
      have f4 := htk3.free 4
      have htk4 : TokAt t ⟨3, a, 0, 0, x, []⟩ (w3.setCell ⟨t, 4, none⟩ (.float .f64 x)) := htk3.set 4 _ rfl
      have hlx4 := hlx3.other ⟨t, 4, none⟩ (.float .f64 x) hbt
      have hfr4 := (hfr2.trans hf3).setCell (l := [b, t]) ⟨t, 4, none⟩ (by simp) (.float .f64 x)
      go_wp2_with fail
      go_ret
      exact ⟨ret_val (by rw [HR.out]; rfl), hfr4, ⟨_, i, rfl, htk4, hlx4, hfl⟩, fun _ => by rw [HR.out]; exact ⟨htk4, hlx4, hfl, rfl⟩⟩
    · have e1 : (q == [110, 97, 110]) = false := by simp [h2]
      have e2 : (q == [105, 110, 102]) = true := by rcases h1 with h | h; exact absurd h h2; simp [h]
      clear h1 h2
      go_enter Tryd.func26, Tryd.ntmps26
      go_wp2_with fail
      refine (HW.out).mono ?_; rintro e w1 ⟨rfl, hlx, hfr⟩
      have htk := ht.kept hfr (by simp; omega)
      have z0 : w1.cell? ⟨t, 0, none⟩ = some (.int .i64 1) := htk.cell 0
      have f0 := htk.free 0
      have htk2 : TokAt t ⟨3, a, 0, 0, 0, []⟩ (w1.setCell ⟨t, 0, none⟩ (.int .i64 3)) := htk.set 0 _ rfl
      have hfr2 := hfr.one.setCell (l := [b, t]) ⟨t, 0, none⟩ (by simp) (.int .i64 3)
      have hlx2 := hlx.other ⟨t, 0, none⟩ (.int .i64 3) hbt
      have hE2 := hE.fr hBb hBt hfr2
      go_wp2_with fail
      generalize w1.setCell ⟨t, 0, none⟩ (.int .i64 3) = w2 at *
      refine (HP.out _ hE2.here).mono ?_; rintro e w3 ⟨rfl, hb3⟩
      have hf3 : Fr [b, t] w2 w3 := Fr.of_below hb3
      have hst := store_float
      have htk3 := htk2.kept (Fr.of_below (l := []) hb3) (by simp)
      have hlx3 := hlx2.kept (Fr.of_below (l := []) hb3) (by simp)
      have z4 : w3.cell? ⟨t, 4, none⟩ = some (.float .f64 0) := htk3.cell 4
      have f4 := htk3.free 4
      have htk4 : TokAt t ⟨3, a, 0, 0, x, []⟩ (w3.setCell ⟨t, 4, none⟩ (.float .f64 x)) := htk3.set 4 _ rfl
      have hlx4 := hlx3.other ⟨t, 4, none⟩ (.float .f64 x) hbt
      have hfr4 := (hfr2.trans hf3).setCell (l := [b, t]) ⟨t, 4, none⟩ (by simp) (.float .f64 x)
      go_wp2_with fail
      go_ret
      exact ⟨ret_val (by rw [HR.out]; rfl), hfr4, ⟨_, i, rfl, htk4, hlx4, hfl⟩, fun _ => by rw [HR.out]; exact ⟨htk4, hlx4, hfl, rfl⟩⟩
  · rw [if_neg h1] at hr
    have e1 : (q == [110, 97, 110]) = false := beq_eq_false_iff_ne.2 (fun h => h1 (.inl h))
    have e2 : (q == [105, 110, 102]) = false := beq_eq_false_iff_ne.2 (fun h => h1 (.inr h))
    clear h1
    by_cases h3 : 30 < n
    · rw [if_pos h3] at hr
      have HR := Lib.hid hr; clear hr
      have e3 : decide ((30 : Int) < (n : Int)) = true := by simp; omega
      go_enter Tryd.func26, Tryd.ntmps26
      go_wp2_with fail
      refine (HW.out).mono ?_; rintro e w1 ⟨rfl, hlx, hfr⟩
      have htk := ht.kept hfr (by simp; omega)
      go_wp2_with fail
      go_ret
      exact ⟨ret_val (by rw [HR.out]; rfl), hfr.one, ⟨_, i, rfl, htk, hlx, hfl⟩, fun h => by rw [HR.out] at h; cases h⟩
    · rw [if_neg h3] at hr
      have HR := Lib.hid hr; clear hr
      have e3 : decide ((30 : Int) < (n : Int)) = false := by simp; omega
      go_enter Tryd.func26, Tryd.ntmps26
      go_wp2_with fail
      refine (HW.out).mono ?_; rintro e w1 ⟨rfl, hlx, hfr⟩
      have htk := ht.kept hfr (by simp; omega)
      have z0 : w1.cell? ⟨t, 0, none⟩ = some (.int .i64 1) := htk.cell 0
      have f0 := htk.free 0
      have htk2 : TokAt t ⟨5, a, 0, 0, 0, []⟩ (w1.setCell ⟨t, 0, none⟩ (.int .i64 5)) := htk.set 0 _ rfl
      have hfr2 := hfr.one.setCell (l := [b, t]) ⟨t, 0, none⟩ (by simp) (.int .i64 5)
      have hlx2 := hlx.other ⟨t, 0, none⟩ (.int .i64 5) hbt
      have z5 : (w1.setCell ⟨t, 0, none⟩ (.int .i64 5)).cell? ⟨t, 5, none⟩ = some (.string ⟨#[]⟩) := htk2.cell 5
      have f5 := htk2.free 5
      have y5 : w1.cell? ⟨t, 5, none⟩ = some (.string ⟨#[]⟩) := htk.cell 5
      have g5 := htk.free 5
      have htk4 : TokAt t ⟨5, a, 0, 0, 0, q⟩ ((w1.setCell ⟨t, 0, none⟩ (.int .i64 5)).setCell ⟨t, 5, none⟩ (.string ⟨q.toArray⟩)) := htk2.set 5 _ rfl
      have hlx4 := hlx2.other ⟨t, 5, none⟩ (.string ⟨q.toArray⟩) hbt
      have hfr4 := hfr2.setCell (l := [b, t]) ⟨t, 5, none⟩ (by simp) (.string ⟨q.toArray⟩)
      go_wp2_with fail
      go_ret
      exact ⟨ret_val (by rw [HR.out]; rfl), hfr4, ⟨_, i, rfl, htk4, hlx4, hfl⟩, fun _ => by rw [HR.out]; exact ⟨htk4, hlx4, hfl, rfl⟩⟩
end Go.Proofs.YtkcbkfflabkcgaaDoor
