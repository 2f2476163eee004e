/-
  The walk of the lexer's number: a float with a minus behind its 'p'.
-/
import Derived.Test.YtkcbkfflabkcgaaDoorK6
namespace Go.Proofs.YtkcbkfflabkcgaaDoor
open Go.RowKit

set_option maxRecDepth 100000 in
set_option maxHeartbeats 4000000 in
theorem number_flt1 (s : ByteArray) (hs : s.size ≤ 1000000) (a b t B : Nat) (ha : a ≤ s.size) (hbt : b ≠ t) (hBb : B ≤ b) (hBt : B ≤ t) (w : World) (hb : LexAt b s a w) (ht : TokAt t ⟨1, a, 0, 0, 0, []⟩ w) (hE : EnvB B w)
    (hp : s.data.toList[a + far isDig s.data.toList a]? = some 112) (hm : s.data.toList[a + far isDig s.data.toList a + 1]? = some 45) :
    Calls Tryd.prog 24 #[.pointer (some ⟨b, 0, none⟩), .pointer (some ⟨t, 0, none⟩)] w (Reads b t s a (numS s.data.toList a) w) := by
  have hl : s.data.toList.length = s.size := by simp
  have hw := while_any 23 enters_digit isDig (isDigit_any) s hs a b ha w hb
  rw [part_bytes s a (a + far isDig s.data.toList a)] at hw
  have HW := Lib.hid hw; clear hw
  have hr := numS.eq_def s.data.toList a
  simp only at hr
  rw [if_pos hp] at hr
  have HR := Lib.hid hr; clear hr
  obtain ⟨hi, h112⟩ := (at_byte s _ 112).1 hp
  generalize hai : a + far isDig s.data.toList a = i at *
  have h112' : (((s[i]'hi).toNat : Int) == 112) = true := h112
  have hi2 : decide ((i : Int) < (s.size : Int)) = true := by simp; omega
  obtain ⟨hm1, hm2⟩ := (at_byte s _ 45).1 hm
  clear hp h112
  go_enter Tryd.func24, Tryd.ntmps24
  go_wp2_with fail
  refine (HW.out).mono ?_; rintro e w1 ⟨rfl, hlx, hfr⟩
  have htk := ht.kept hfr (by simp; omega)
  have c0 := hlx.c0; have c1 := hlx.c1; have g1 := hlx.f1
  have hE1 := hE.fr hBb hBt hfr.one
  go_wp2_with fail
  go_quiet (fail)
  go_wp2_with fail
  have A1 : LexAt b s (i + 1) ((w1.drewN nq).setCell ⟨b, 1, none⟩ (.int .i64 ((i : Int) + 1))) := (hlx.drewN nq).put (i + 1)
  have A2 := (htk.drewN nq).other ⟨b, 1, none⟩ (.int .i64 ((i : Int) + 1)) (Ne.symm hbt)
  have A3 := (hfr.one (t := t) |>.drewN nq).setCell (l := [b, t]) ⟨b, 1, none⟩ (by simp) (.int .i64 ((i : Int) + 1))
  generalize (w1.drewN nq).setCell ⟨b, 1, none⟩ (.int .i64 ((i : Int) + 1)) = W2 at *
  generalize hi1 : i + 1 = m at *
  have hm2' : (((s[m]'hm1).toNat : Int) == 45) = true := hm2
  have hj2 : decide ((m : Int) < (s.size : Int)) = true := by simp; omega
  have b0 := A1.c0; have b1 := A1.c1; have m1 := A1.f1
  have hE2 := hE.fr hBb hBt A3
  rw [if_pos hm] at HR
  go_wp2_with fail
  go_quiet (fail)
  go_wp2_with fail
  have B1 : LexAt b s (m + 1) ((W2.drewN nq).setCell ⟨b, 1, none⟩ (.int .i64 ((m : Int) + 1))) := (A1.drewN nq).put (m + 1)
  have B2 := (A2.drewN nq).other ⟨b, 1, none⟩ (.int .i64 ((m : Int) + 1)) (Ne.symm hbt)
  have B3 := (A3.drewN nq).setCell (l := [b, t]) ⟨b, 1, none⟩ (by simp) (.int .i64 ((m : Int) + 1))
  generalize (W2.drewN nq).setCell ⟨b, 1, none⟩ (.int .i64 ((m : Int) + 1)) = W3 at *
  have hi2' : i + 2 = m + 1 := by omega
  rw [hi2'] at HR
  generalize hj1 : m + 1 = j at *
  clear b0 b1 m1 hE2 A1 A2 A3 W2 hi2'
  have A1 := B1; have A2 := B2; have A3 := B3
  clear B1 B2 B3
  have b0 := A1.c0; have b1 := A1.c1; have m1 := A1.f1
  have hfw := far_le isDig s.data.toList (a := j) (by rw [hl]; omega)
  rw [hl] at hfw
  have HV := Lib.hid (fun w h => while_any 23 enters_digit isDig (isDigit_any) s hs j b (by omega) w h)
  rw [part_bytes s j (j + far isDig s.data.toList j)] at HV
  have hlen := part_length (l := s.data.toList) (a := j) (e := j + far isDig s.data.toList j) (by rw [hl]; exact hfw)
  rw [show j + far isDig s.data.toList j - j = far isDig s.data.toList j by omega] at hlen
  by_cases hz : far isDig s.data.toList j = 0
  · have hq : part s.data.toList j (j + far isDig s.data.toList j) = [] := List.length_eq_zero_iff.1 (by rw [hlen]; exact hz)
    rw [hq] at HV
    clear hq hlen
    refine (HV.out _ A1).mono ?_; rintro e w3 ⟨rfl, hlx3, hfr3⟩
    go_wp2_with fail
    have htk3 := A2.kept hfr3 (by simp; omega)
    have hr2 := HR.out
    rw [if_pos hz] at hr2
    have HR2 := Lib.hid hr2; clear hr2
    go_ret
    exact ⟨ret_val (by rw [HR2.out]; rfl), A3.trans hfr3.one, ⟨_, _, rfl, htk3, hlx3, hfw⟩, fun h => by rw [HR2.out] at h; cases h⟩
  · have hr2 := HR.out
    rw [if_neg hz] at hr2
    have HR2 := Lib.hid hr2; clear hr2 HR
    have hq : (part s.data.toList j (j + far isDig s.data.toList j) == []) = false := by
      rw [beq_eq_false_iff_ne]; intro e; rw [e] at hlen; simp at hlen; omega
    generalize hcc : j + far isDig s.data.toList j = c at *
    have hac : a ≤ c := by omega
    have hp2 := part_length (l := s.data.toList) (a := a) (e := c) (by rw [hl]; exact hfw)
    have HP := parse_any (part s.data.toList a c) (by omega)
    rw [← part_bytes s a c] at HP
    have HP := Lib.hid HP
    generalize (parseB (part s.data.toList a c)).1 = x at *
    generalize (parseB (part s.data.toList a c)).2 = y at *
    generalize part s.data.toList j c = q at *
    clear hz hlen hp2
    refine (HV.out _ A1).mono ?_; rintro e w3 ⟨rfl, hlx3, hfr3⟩
    have htk3 := A2.kept hfr3 (by simp; omega)
    have hf3 := A3.trans hfr3.one
    have z0 : w3.cell? ⟨t, 0, none⟩ = some (.int .i64 1) := htk3.cell 0
    have f0 := htk3.free 0
    have hE4 : EnvB B (w3.setCell ⟨t, 0, none⟩ (.int .i64 3)) := hE.fr hBb hBt (hf3.setCell (l := [b, t]) ⟨t, 0, none⟩ (by simp) (.int .i64 3))
    have htk4 : TokAt t ⟨3, a, 0, 0, 0, []⟩ (w3.setCell ⟨t, 0, none⟩ (.int .i64 3)) := htk3.set 0 _ rfl
    have hlx4 := hlx3.other ⟨t, 0, none⟩ (.int .i64 3) hbt
    have hf4 := hf3.setCell (l := [b, t]) ⟨t, 0, none⟩ (by simp) (.int .i64 3)
    go_wp2_with fail
    generalize w3.setCell ⟨t, 0, none⟩ (.int .i64 3) = W4 at *
    have l0 := hlx4.c0; have l1 := hlx4.c1
    have t1 : W4.cell? ⟨t, 1, none⟩ = some (.int .i64 a) := htk4.cell 1
    have w3' : (c : Int) ≤ (s.size : Int) := by omega
    have w4' : (0 : Int) ≤ (a : Int) := by omega
    have w5' : (a : Int) ≤ (c : Int) := by omega
    have hst := store_float
    clear HV HW hfr3 hlx hlx3 htk htk3 A1 A2 A3 c0 c1 g1 b0 b1 m1 hE1 hq z0 f0 hb ht
    go_region_held3 (fun w' => w'.cell? ⟨b, 0, none⟩ = some (.string s) ∧ w'.cell? ⟨b, 1, none⟩ = some (.int .i64 (c : Int)) ∧ w'.cell? ⟨t, 1, none⟩ = some (.int .i64 (a : Int))) (first | exact ⟨l0, l1, t1⟩ | exact ⟨hlx5.c0, hlx5.c1, htk5.cell 1⟩ | exact ⟨(cell_kept hbt).trans hlx5.c0, (cell_kept hbt).trans hlx5.c1, (TokAt.set (k' := ⟨3, a, 0, 0, x, []⟩) htk5 4 (.float .f64 x) rfl).cell 1⟩)
      ((go_at_call 30; refine (HP.out _ hE4.drew).mono ?_; rintro e w5 ⟨rfl, hb5⟩; have hf5 := Fr.of_below (l := []) hb5; have htk5 : TokAt t ⟨3, a, 0, 0, 0, []⟩ w5 := TokAt.kept htk4.drew hf5 (by simp); have hlx5 : LexAt b s c w5 := LexAt.kept hlx4.drew hf5 (by simp); have hf6 : Fr [b, t] w w5 := hf4.drew.trans (Fr.of_below (l := [b, t]) hb5); have z4 : w5.cell? ⟨t, 4, none⟩ = some (.float .f64 0) := htk5.cell 4; have f4 := htk5.free 4))
    all_goals go_wp2_with fail
    go_ret
    have F1 : TokAt t ⟨3, a, 0, 0, x, []⟩ (w5.setCell ⟨t, 4, none⟩ (.float .f64 x)) := htk5.set 4 _ rfl
    have F2 := hlx5.other ⟨t, 4, none⟩ (.float .f64 x) hbt
    have F3 := hf6.setCell (l := [b, t]) ⟨t, 4, none⟩ (by simp) (.float .f64 x)
    exact ⟨ret_val (by rw [HR2.out]; rfl), F3, ⟨_, c, rfl, F1, F2, hfw⟩, fun _ => by rw [HR2.out]; exact ⟨F1, F2, hfw, rfl⟩⟩

end Go.Proofs.YtkcbkfflabkcgaaDoor
