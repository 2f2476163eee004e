/-
  The walk of the lexer's number.
-/
import Derived.Test.YtkcbkfflabkcgaaDoorK4
import Derived.Lib.ParseIntB
namespace Go.Proofs.YtkcbkfflabkcgaaDoor
open Go.RowKit

theorem parseInt_digs (l : List UInt8) (h : l.all isDig = true) (h0 : 1 ≤ l.length) : Lib.parseIntB 64 l = if decVal l < 9223372036854775808 then .ok (decVal l : Int) else .range := by
  have hu := parseUint_digs l h h0
  cases l with
  | nil => simp at h0
  | cons c r =>
    have hc : 48 ≤ c.toNat ∧ c.toNat ≤ 57 := by
      rw [List.all_cons, Bool.and_eq_true] at h; simpa [isDig] using h.1
    unfold Lib.parseIntB
    simp only
    rw [if_neg (by omega), hu]
    by_cases h1 : decVal (c :: r) < 18446744073709551616
    · rw [if_pos h1]
      simp only
      by_cases h2 : decVal (c :: r) < 9223372036854775808
      · rw [if_pos h2, if_neg (by omega), if_neg (by omega), if_neg (by omega)]
      · rw [if_neg h2, if_pos (by omega)]
    · rw [if_neg h1, if_neg (by omega)]

theorem part_all (p : UInt8 → Bool) (l : List UInt8) (a : Nat) : (part l a (a + far p l a)).all p = true := by
  have e : part l a (a + far p l a) = (l.drop a).takeWhile p := by
    unfold part far
    rw [Nat.add_sub_cancel_left]
    exact (List.prefix_iff_eq_take.1 (List.takeWhile_prefix p)).symm
  rw [e]
  induction l.drop a with
  | nil => rfl
  | cons c r ih =>
    rw [List.takeWhile_cons]
    by_cases h : p c = true
    · rw [if_pos h, List.all_cons, h, ih]; rfl
    · rw [if_neg h]; rfl

/-- whether the byte at a place is c: as the code asks it -/
theorem at_byte (s : ByteArray) (k : Nat) (c : UInt8) : (s.data.toList[k]? = some c) ↔ ∃ h : k < s.size, (((s[k]'h).toNat : Int) == (c.toNat : Int)) = true := by
  constructor
  · intro h
    have hk : k < s.data.toList.length := by
      rcases Nat.lt_or_ge k s.data.toList.length with g | g
      · exact g
      · rw [List.getElem?_eq_none g] at h; cases h
    have hk2 : k < s.size := by simpa using hk
    refine ⟨hk2, ?_⟩
    rw [List.getElem?_eq_getElem hk] at h
    have e : s[k]'hk2 = c := Option.some.inj h
    rw [e]; simp
  · rintro ⟨hk, h⟩
    have hk2 : k < s.data.toList.length := by simpa using hk
    rw [List.getElem?_eq_getElem hk2]
    congr 1
    show s[k]'hk = c
    rw [beq_iff_eq] at h
    apply UInt8.toNat_inj.1
    omega

theorem parseInt_ok (l : List UInt8) (hl : l.length ≤ 1000000) (v : Int) (h : Lib.parseIntB 64 l = .ok v) (w : World) (hE : Env w) : Calls Tryd.prog 31 #[.string ⟨l.toArray⟩, .int .i64 10, .int .i64 64] w fun e w' =>
    e = .returned (.tuple #[.int .i64 v, .nilIface]) ∧ Below w.heap.size w w' := by
  have := hE.most
  exact (Tryd.strconv_ParseInt_10_at64_ok ⟨l.toArray⟩ (by show l.toArray.size ≤ _; simp; omega) v h w).mono fun _ _ ⟨h1, h2⟩ => ⟨h1, by
    rcases h2 with h2 | ⟨t, h2⟩ <;> rw [h2]
    · exact Below.refl _ _
    · exact Joins.below_bytesWorld _ _ _ _ (Nat.le_refl _)⟩
theorem parseInt_range (l : List UInt8) (hl : l.length ≤ 1000000) (h : Lib.parseIntB 64 l = .range) (w : World) (hE : Env w) : Calls Tryd.prog 31 #[.string ⟨l.toArray⟩, .int .i64 10, .int .i64 64] w fun e w' =>
    ∃ N, e = .returned (.tuple #[.int .i64 (Lib.intSat 64 l), .iface 90 (.pointer (some ⟨N, 0, none⟩))]) ∧ Below w.heap.size w w' := by
  obtain ⟨ev, he, hev⟩ := hE.rng
  exact (Tryd.strconv_ParseInt_10_at64_range ⟨l.toArray⟩ (by show l.toArray.size ≤ _; simp; omega) h ev w he hev).mono fun _ _ ⟨N, h1, _, _, h2⟩ => ⟨N, h1, h2⟩

theorem EnvB.drewN {B : Nat} {w : World} (h : EnvB B w) (n : Nat) : EnvB B (w.drewN n) := h.below ⟨rfl, rfl, rfl, Nat.le_refl _, fun _ _ => rfl⟩
/-- an int: no 'p' stands behind its digits -/
def NoP (s : ByteArray) (i : Nat) : Prop := (decide ((i : Int) < (s.size : Int)) = false ∧ ¬ i < s.size) ∨ ∃ h : i < s.size, (((s[i]'h).toNat : Int) == 112) = false

set_option maxRecDepth 100000 in
set_option maxHeartbeats 4000000 in
theorem number_int (s : ByteArray) (hs : s.size ≤ 1000000) (a b t B : Nat) (ha : a ≤ s.size) (hbt : b ≠ t) (hBb : B ≤ b) (hBt : B ≤ t) (w : World) (hb : LexAt b s a w) (ht : TokAt t ⟨1, a, 0, 0, 0, []⟩ w) (hE : EnvB B w)
    (h1 : 1 ≤ far isDig s.data.toList a) (hnp : ¬ s.data.toList[a + far isDig s.data.toList a]? = some 112) (hno : NoP s (a + far isDig s.data.toList a)) :
    Calls Tryd.prog 24 #[.pointer (some ⟨b, 0, none⟩), .pointer (some ⟨t, 0, none⟩)] w (Reads b t s a (numS s.data.toList a) w) := by
  have hl : s.data.toList.length = s.size := by simp
  have hfl := far_le isDig s.data.toList (a := a) (by rw [hl]; exact ha)
  rw [hl] at hfl
  have hw := while_any 23 enters_digit isDig (isDigit_any) s hs a b ha w hb
  rw [part_bytes s a (a + far isDig s.data.toList a)] at hw
  have HW := Lib.hid hw; clear hw
  have hlen := part_length (l := s.data.toList) (a := a) (e := a + far isDig s.data.toList a) (by rw [hl]; exact hfl)
  rw [show a + far isDig s.data.toList a - a = far isDig s.data.toList a by omega] at hlen
  have hall := part_all isDig s.data.toList a
  have hr := numS.eq_def s.data.toList a
  simp only at hr
  rw [if_neg hnp] at hr
  generalize far isDig s.data.toList a = n at *
  generalize hai : a + n = i at *
  generalize part s.data.toList a i = q at *
  have hpi := parseInt_digs q hall (by omega)
  clear hall hnp hl
  by_cases h2 : decVal q < 9223372036854775808
  · rw [if_pos h2] at hpi
    have HI := Lib.hid (parseInt_ok q (by omega) _ hpi)
    generalize decVal q = v at *
    by_cases h3 : 19 < n
    · rw [if_pos (.inl h3)] at hr
      have HR := Lib.hid hr; clear hr hpi
      have t3 : decide ((19 : Int) < (n : Int)) = true := by simp; omega
      rcases hno with ⟨hno, hno2⟩ | ⟨hi, hno⟩
      · go_enter Tryd.func24, Tryd.ntmps24
        go_wp2_with fail
        refine (HW.out).mono ?_; rintro e w1 ⟨rfl, hlx, hfr⟩
        have htk := ht.kept hfr (by simp; omega)
        have c0 := hlx.c0; have c1 := hlx.c1; have g1 := hlx.f1
        have hE1 := hE.fr hBb hBt hfr.one
        go_wp2_with fail
        go_quiet (fail)
        go_wp2_with fail
        refine (HI.out _ (hE1.drewN _).here).mono ?_; rintro e w3 ⟨rfl, hb3⟩
        have hlx3 := (hlx.drewN nq).kept (Fr.of_below (l := []) hb3) (by simp)
        have htk3 := (htk.drewN nq).kept (Fr.of_below (l := []) hb3) (by simp)
        have hfr3 := (hfr.one.drewN nq).trans (Fr.of_below (l := [b, t]) hb3)
        have z0 : w3.cell? ⟨t, 0, none⟩ = some (.int .i64 1) := htk3.cell 0
        have z3 : w3.cell? ⟨t, 3, none⟩ = some (.int .i64 0) := htk3.cell 3
        have f0 := htk3.free 0
        have f3 := htk3.free 3
        go_wp2_with fail
        go_ret
        exact ⟨ret_val (by rw [HR.out]; rfl), hfr3, ⟨_, i, rfl, htk3, hlx3, hfl⟩, fun h => by rw [HR.out] at h; cases h⟩
      · have hi2 : decide ((i : Int) < (s.size : Int)) = true := by simp; omega
        go_enter Tryd.func24, Tryd.ntmps24
        go_wp2_with fail
        refine (HW.out).mono ?_; rintro e w1 ⟨rfl, hlx, hfr⟩
        have htk := ht.kept hfr (by simp; omega)
        have c0 := hlx.c0; have c1 := hlx.c1; have g1 := hlx.f1
        have hE1 := hE.fr hBb hBt hfr.one
        go_wp2_with fail
        go_quiet (fail)
        go_wp2_with fail
        refine (HI.out _ (hE1.drewN _).here).mono ?_; rintro e w3 ⟨rfl, hb3⟩
        have hlx3 := (hlx.drewN nq).kept (Fr.of_below (l := []) hb3) (by simp)
        have htk3 := (htk.drewN nq).kept (Fr.of_below (l := []) hb3) (by simp)
        have hfr3 := (hfr.one.drewN nq).trans (Fr.of_below (l := [b, t]) hb3)
        have z0 : w3.cell? ⟨t, 0, none⟩ = some (.int .i64 1) := htk3.cell 0
        have z3 : w3.cell? ⟨t, 3, none⟩ = some (.int .i64 0) := htk3.cell 3
        have f0 := htk3.free 0
        have f3 := htk3.free 3
        go_wp2_with fail
        go_ret
        exact ⟨ret_val (by rw [HR.out]; rfl), hfr3, ⟨_, i, rfl, htk3, hlx3, hfl⟩, fun h => by rw [HR.out] at h; cases h⟩
    · rw [if_neg (by omega)] at hr
      have HR := Lib.hid hr; clear hr hpi
      have t3 : decide ((19 : Int) < (n : Int)) = false := by simp; omega
      rcases hno with ⟨hno, hno2⟩ | ⟨hi, hno⟩
      · go_enter Tryd.func24, Tryd.ntmps24
        go_wp2_with fail
        refine (HW.out).mono ?_; rintro e w1 ⟨rfl, hlx, hfr⟩
        have htk := ht.kept hfr (by simp; omega)
        have c0 := hlx.c0; have c1 := hlx.c1; have g1 := hlx.f1
        have hE1 := hE.fr hBb hBt hfr.one
        go_wp2_with fail
        go_quiet (fail)
        go_wp2_with fail
        refine (HI.out _ (hE1.drewN _).here).mono ?_; rintro e w3 ⟨rfl, hb3⟩
        have hlx3 := (hlx.drewN nq).kept (Fr.of_below (l := []) hb3) (by simp)
        have htk3 := (htk.drewN nq).kept (Fr.of_below (l := []) hb3) (by simp)
        have hfr3 := (hfr.one.drewN nq).trans (Fr.of_below (l := [b, t]) hb3)
        have z0 : w3.cell? ⟨t, 0, none⟩ = some (.int .i64 1) := htk3.cell 0
        have z3 : w3.cell? ⟨t, 3, none⟩ = some (.int .i64 0) := htk3.cell 3
        have f0 := htk3.free 0
        have f3 := htk3.free 3
        go_wp2_with fail
        have F0 := htk3.set (k' := ⟨2, a, 0, 0, 0, []⟩) 0 (.int .i64 2) rfl
        have F1 : TokAt t ⟨2, a, 0, v, 0, []⟩ ((w3.setCell ⟨t, 0, none⟩ (.int .i64 2)).setCell ⟨t, 3, none⟩ (.int .i64 v)) := F0.set 3 _ rfl
        have F2 := (hlx3.other ⟨t, 0, none⟩ (.int .i64 2) hbt).other ⟨t, 3, none⟩ (.int .i64 (v : Int)) hbt
        have F3 := (hfr3.setCell (l := [b, t]) ⟨t, 0, none⟩ (by simp) (.int .i64 2)).setCell (l := [b, t]) ⟨t, 3, none⟩ (by simp) (.int .i64 (v : Int))
        go_ret
        exact ⟨ret_val (by rw [HR.out]; rfl), F3, ⟨_, i, rfl, F1, F2, hfl⟩, fun _ => by rw [HR.out]; exact ⟨F1, F2, hfl, rfl⟩⟩
      · have hi2 : decide ((i : Int) < (s.size : Int)) = true := by simp; omega
        go_enter Tryd.func24, Tryd.ntmps24
        go_wp2_with fail
        refine (HW.out).mono ?_; rintro e w1 ⟨rfl, hlx, hfr⟩
        have htk := ht.kept hfr (by simp; omega)
        have c0 := hlx.c0; have c1 := hlx.c1; have g1 := hlx.f1
        have hE1 := hE.fr hBb hBt hfr.one
        go_wp2_with fail
        go_quiet (fail)
        go_wp2_with fail
        refine (HI.out _ (hE1.drewN _).here).mono ?_; rintro e w3 ⟨rfl, hb3⟩
        have hlx3 := (hlx.drewN nq).kept (Fr.of_below (l := []) hb3) (by simp)
        have htk3 := (htk.drewN nq).kept (Fr.of_below (l := []) hb3) (by simp)
        have hfr3 := (hfr.one.drewN nq).trans (Fr.of_below (l := [b, t]) hb3)
        have z0 : w3.cell? ⟨t, 0, none⟩ = some (.int .i64 1) := htk3.cell 0
        have z3 : w3.cell? ⟨t, 3, none⟩ = some (.int .i64 0) := htk3.cell 3
        have f0 := htk3.free 0
        have f3 := htk3.free 3
        go_wp2_with fail
        have F0 := htk3.set (k' := ⟨2, a, 0, 0, 0, []⟩) 0 (.int .i64 2) rfl
        have F1 : TokAt t ⟨2, a, 0, v, 0, []⟩ ((w3.setCell ⟨t, 0, none⟩ (.int .i64 2)).setCell ⟨t, 3, none⟩ (.int .i64 v)) := F0.set 3 _ rfl
        have F2 := (hlx3.other ⟨t, 0, none⟩ (.int .i64 2) hbt).other ⟨t, 3, none⟩ (.int .i64 (v : Int)) hbt
        have F3 := (hfr3.setCell (l := [b, t]) ⟨t, 0, none⟩ (by simp) (.int .i64 2)).setCell (l := [b, t]) ⟨t, 3, none⟩ (by simp) (.int .i64 (v : Int))
        go_ret
        exact ⟨ret_val (by rw [HR.out]; rfl), F3, ⟨_, i, rfl, F1, F2, hfl⟩, fun _ => by rw [HR.out]; exact ⟨F1, F2, hfl, rfl⟩⟩
  · rw [if_neg h2] at hpi
    have HI := Lib.hid (parseInt_range q (by omega) hpi)
    rw [if_pos (.inr (by omega))] at hr
    have HR := Lib.hid hr; clear hr hpi
    by_cases h3 : 19 < n
    · have t3 : decide ((19 : Int) < (n : Int)) = true := by simp; omega
      rcases hno with ⟨hno, hno2⟩ | ⟨hi, hno⟩
      · go_enter Tryd.func24, Tryd.ntmps24
        go_wp2_with fail
        refine (HW.out).mono ?_; rintro e w1 ⟨rfl, hlx, hfr⟩
        have htk := ht.kept hfr (by simp; omega)
        have c0 := hlx.c0; have c1 := hlx.c1; have g1 := hlx.f1
        have hE1 := hE.fr hBb hBt hfr.one
        go_wp2_with fail
        go_quiet (fail)
        go_wp2_with fail
        refine (HI.out _ (hE1.drewN _).here).mono ?_; rintro e w3 ⟨N, rfl, hb3⟩
        have hlx3 := (hlx.drewN nq).kept (Fr.of_below (l := []) hb3) (by simp)
        have htk3 := (htk.drewN nq).kept (Fr.of_below (l := []) hb3) (by simp)
        have hfr3 := (hfr.one.drewN nq).trans (Fr.of_below (l := [b, t]) hb3)
        have z0 : w3.cell? ⟨t, 0, none⟩ = some (.int .i64 1) := htk3.cell 0
        have z3 : w3.cell? ⟨t, 3, none⟩ = some (.int .i64 0) := htk3.cell 3
        have f0 := htk3.free 0
        have f3 := htk3.free 3
        go_wp2_with fail
        go_ret
        exact ⟨ret_val (by rw [HR.out]; rfl), hfr3, ⟨_, i, rfl, htk3, hlx3, hfl⟩, fun h => by rw [HR.out] at h; cases h⟩
      · have hi2 : decide ((i : Int) < (s.size : Int)) = true := by simp; omega
        go_enter Tryd.func24, Tryd.ntmps24
        go_wp2_with fail
        refine (HW.out).mono ?_; rintro e w1 ⟨rfl, hlx, hfr⟩
        have htk := ht.kept hfr (by simp; omega)
        have c0 := hlx.c0; have c1 := hlx.c1; have g1 := hlx.f1
        have hE1 := hE.fr hBb hBt hfr.one
        go_wp2_with fail
        go_quiet (fail)
        go_wp2_with fail
        refine (HI.out _ (hE1.drewN _).here).mono ?_; rintro e w3 ⟨N, rfl, hb3⟩
        have hlx3 := (hlx.drewN nq).kept (Fr.of_below (l := []) hb3) (by simp)
        have htk3 := (htk.drewN nq).kept (Fr.of_below (l := []) hb3) (by simp)
        have hfr3 := (hfr.one.drewN nq).trans (Fr.of_below (l := [b, t]) hb3)
        have z0 : w3.cell? ⟨t, 0, none⟩ = some (.int .i64 1) := htk3.cell 0
        have z3 : w3.cell? ⟨t, 3, none⟩ = some (.int .i64 0) := htk3.cell 3
        have f0 := htk3.free 0
        have f3 := htk3.free 3
        go_wp2_with fail
        go_ret
        exact ⟨ret_val (by rw [HR.out]; rfl), hfr3, ⟨_, i, rfl, htk3, hlx3, hfl⟩, fun h => by rw [HR.out] at h; cases h⟩
    · have t3 : decide ((19 : Int) < (n : Int)) = false := by simp; omega
      rcases hno with ⟨hno, hno2⟩ | ⟨hi, hno⟩
      · go_enter Tryd.func24, Tryd.ntmps24
        go_wp2_with fail
        refine (HW.out).mono ?_; rintro e w1 ⟨rfl, hlx, hfr⟩
        have htk := ht.kept hfr (by simp; omega)
        have c0 := hlx.c0; have c1 := hlx.c1; have g1 := hlx.f1
        have hE1 := hE.fr hBb hBt hfr.one
        go_wp2_with fail
        go_quiet (fail)
        go_wp2_with fail
        refine (HI.out _ (hE1.drewN _).here).mono ?_; rintro e w3 ⟨N, rfl, hb3⟩
        have hlx3 := (hlx.drewN nq).kept (Fr.of_below (l := []) hb3) (by simp)
        have htk3 := (htk.drewN nq).kept (Fr.of_below (l := []) hb3) (by simp)
        have hfr3 := (hfr.one.drewN nq).trans (Fr.of_below (l := [b, t]) hb3)
        have z0 : w3.cell? ⟨t, 0, none⟩ = some (.int .i64 1) := htk3.cell 0
        have z3 : w3.cell? ⟨t, 3, none⟩ = some (.int .i64 0) := htk3.cell 3
        have f0 := htk3.free 0
        have f3 := htk3.free 3
        go_wp2_with fail
        go_ret
        exact ⟨ret_val (by rw [HR.out]; rfl), hfr3, ⟨_, i, rfl, htk3, hlx3, hfl⟩, fun h => by rw [HR.out] at h; cases h⟩
      · have hi2 : decide ((i : Int) < (s.size : Int)) = true := by simp; omega
        go_enter Tryd.func24, Tryd.ntmps24
        go_wp2_with fail
        refine (HW.out).mono ?_; rintro e w1 ⟨rfl, hlx, hfr⟩
        have htk := ht.kept hfr (by simp; omega)
        have c0 := hlx.c0; have c1 := hlx.c1; have g1 := hlx.f1
        have hE1 := hE.fr hBb hBt hfr.one
        go_wp2_with fail
        go_quiet (fail)
        go_wp2_with fail
        refine (HI.out _ (hE1.drewN _).here).mono ?_; rintro e w3 ⟨N, rfl, hb3⟩
        have hlx3 := (hlx.drewN nq).kept (Fr.of_below (l := []) hb3) (by simp)
        have htk3 := (htk.drewN nq).kept (Fr.of_below (l := []) hb3) (by simp)
        have hfr3 := (hfr.one.drewN nq).trans (Fr.of_below (l := [b, t]) hb3)
        have z0 : w3.cell? ⟨t, 0, none⟩ = some (.int .i64 1) := htk3.cell 0
        have z3 : w3.cell? ⟨t, 3, none⟩ = some (.int .i64 0) := htk3.cell 3
        have f0 := htk3.free 0
        have f3 := htk3.free 3
        go_wp2_with fail
        go_ret
        exact ⟨ret_val (by rw [HR.out]; rfl), hfr3, ⟨_, i, rfl, htk3, hlx3, hfl⟩, fun h => by rw [HR.out] at h; cases h⟩
end Go.Proofs.YtkcbkfflabkcgaaDoor
