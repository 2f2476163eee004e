/-
  The walk of the references' name.
-/
import Derived.Test.YtkcbkfflabkcgaaGreatDoorM1
import Derived.Test.YtkcbkfflabkcgaaGreatDoorKc
import Derived.Test.YtkcbkfflabkcgaaGreatDoorR5
import Derived.Deep.Cut
namespace Go.Proofs.YtkcbkfflabkcgaaGreatDoor
open Go.RowKit

/-- what the references' readings of a token leave -/
def RefTok (r : Tk × Int) (w : World) (e : Ending) (w' : World) : Prop :=
  ∃ k, e = .returned (.tuple #[.agg (tokCells k), .int .i64 r.2]) ∧ (r.2 = 0 → k = r.1) ∧ Below w.heap.size w w'
theorem TokAt.belowP {t : Nat} {k : Tk} {w w' : World} (h : TokAt t k w) (hb : Below w.heap.size w w') : TokAt t k w' := (hb.block t (lt_of_block h)).trans h

set_option maxRecDepth 100000 in
set_option maxHeartbeats 8000000 in
theorem rname_any (s : ByteArray) (hs : s.size ≤ 1000000) (a : Nat) (ha : a ≤ s.size) (w : World) :
    Calls Tryz.prog 19 #[.string s, .agg (tokCells ⟨1, a, a, 0, 0, []⟩)] w (RefTok (nameS s.data.toList a) w) := by
  have hlen : s.data.toList.length = s.size := by simp
  have HL := Lib.hid hlen
  have hfl := far_le isNm s.data.toList (a := a) (by rw [hlen]; exact ha)
  rw [hlen] at hfl
  have hr := nameS.eq_def s.data.toList a
  simp only at hr
  have hE : ∃ E, E = a + far isNm s.data.toList a := ⟨_, rfl⟩
  obtain ⟨E, hE⟩ := hE
  rw [← hE] at hr hfl
  have HE := Lib.hid hE
  have hfe : far isNm s.data.toList a = E - a := by omega
  have haE : a ≤ E := by omega
  rw [hfe] at hr
  have HR0 := Lib.hid hr
  clear hlen hr hE hfe
  have hst := store_float
  have hP : TokAt w.heap.size ⟨1, a, a, 0, 0, []⟩ ((w.alloc (.cells #[.int .i64 1, .int .i64 a, .int .i64 a, .int .i64 0, .float .f64 0, .string ⟨#[]⟩] 25)).alloc (.cells #[.int .i64 0, .int .i64 0, .int .i64 0, .int .i64 0, .float .f64 0, .string ⟨#[]⟩] 25)) := TokAt.kept (w := w.alloc (.cells #[.int .i64 1, .int .i64 a, .int .i64 a, .int .i64 0, .float .f64 0, .string ⟨#[]⟩] 25)) (heap_alloc_new w _) ((Fr.refl [] _).alloc _) (by simp)
  have hR : TokAt (w.heap.size + 1) noTk ((w.alloc (.cells #[.int .i64 1, .int .i64 a, .int .i64 a, .int .i64 0, .float .f64 0, .string ⟨#[]⟩] 25)).alloc (.cells #[.int .i64 0, .int .i64 0, .int .i64 0, .int .i64 0, .float .f64 0, .string ⟨#[]⟩] 25)) := by
    have := heap_alloc_new (w.alloc (.cells #[.int .i64 1, .int .i64 a, .int .i64 a, .int .i64 0, .float .f64 0, .string ⟨#[]⟩] 25)) (.cells #[.int .i64 0, .int .i64 0, .int .i64 0, .int .i64 0, .float .f64 0, .string ⟨#[]⟩] 25)
    simpa [TokAt, tokCells, noTk] using this
  have hB : Below w.heap.size w ((w.alloc (.cells #[.int .i64 1, .int .i64 a, .int .i64 a, .int .i64 0, .float .f64 0, .string ⟨#[]⟩] 25)).alloc (.cells #[.int .i64 0, .int .i64 0, .int .i64 0, .int .i64 0, .float .f64 0, .string ⟨#[]⟩] 25)) := ((Below.refl _ _).alloc (Nat.le_refl _) _).alloc (by simp) _
  have hPR : w.heap.size ≠ w.heap.size + 1 := by omega
  have hRP : w.heap.size + 1 ≠ w.heap.size := by omega
  have hPle : w.heap.size ≤ w.heap.size + 1 := by omega
  rw [tokCells_mk]
  go_enter Tryz.func19, Tryz.ntmps19
  go_wp2_with fail
  generalize ((w.alloc (.cells #[.int .i64 1, .int .i64 a, .int .i64 a, .int .i64 0, .float .f64 0, .string ⟨#[]⟩] 25)).alloc (.cells #[.int .i64 0, .int .i64 0, .int .i64 0, .int .i64 0, .float .f64 0, .string ⟨#[]⟩] 25)) = W0 at *
  generalize hgr : w.heap.size + 1 = R at *
  clear hgr
  generalize hgh : w.heap.size = P at *
  have HGH := Lib.hid hgh; clear hgh
  have z1 : W0.cell? ⟨P, 1, none⟩ = some (.int .i64 (a : Int)) := hP.cell 1
  go_wp2_with fail
  go_loop [6] (fun kv => ∃ k : Nat, a ≤ k ∧ k ≤ E ∧ kv = .int .i64 k ∧ Hid (E = k + far isNm s.data.toList k)) (fun kv => s.size - (intOf kv).toNat)
  case atStart => exact ⟨a, Nat.le_refl _, by omega, rfl, HE⟩
  case round =>
    obtain ⟨k, hak, hkE, rfl, hfar⟩ := hrel
    by_cases hlt : k < s.size
    · have ht0 : decide ((k : Int) < (s.size : Int)) = true := by simp; omega
      have hg0 : s[k]'hlt = s.data.toList.getD k 0 := by simp [List.getD, hlt]; rfl
      have hpk : isNm (s[k]'hlt) = isNm (s.data.toList.getD k 0) := by rw [hg0]
      have HPK := Lib.hid hpk; clear hpk hg0
      have HD := Lib.hid (rdigit_any (s[k]'hlt))
      have HT := Lib.hid (rletter_any (s[k]'hlt))
      have HNm := Lib.hid (show isNm (s[k]'hlt) = (isLet (s[k]'hlt) || isDig (s[k]'hlt) || ((s[k]'hlt).toNat : Int) == 95) from by unfold isNm; rw [u8_beq (s[k]'hlt) 95]; rfl)
      generalize isLet (s[k]'hlt) = bl at *
      generalize isDig (s[k]'hlt) = bd at *
      generalize isNm (s[k]'hlt) = bn at *
      cases bl
      · cases bd
        · cases h95 : ((s[k]'hlt).toNat : Int) == 95
          · rw [h95] at HNm
            have HF := Lib.hid (far_stop isNm (by rw [HL.out]; exact hlt) (by rw [← HPK.out, HNm.out]; rfl))
            have hEk : E = k := by have := hfar.out; have := HF.out; omega
            subst hEk
            have hx := part_bytes s a E
            have hql := part_length (l := s.data.toList) (a := a) (e := E) (by rw [HL.out]; omega)
            have w3' : (E : Int) ≤ (s.size : Int) := by omega
            have w5' : (a : Int) ≤ (E : Int) := by omega
            have hr := HR0.out
            have HPr := Lib.hid (rparse_any (part s.data.toList a E) (by omega))
            generalize part s.data.toList a E = q at *
            have HX := Lib.hid hx; clear hx
            generalize hqn : E - a = n at *
            have z1 : W0.cell? ⟨P, 1, none⟩ = some (.int .i64 (a : Int)) := hP.cell 1
            have z2 : W0.cell? ⟨P, 2, none⟩ = some (.int .i64 (a : Int)) := hP.cell 2
            have f2 := hP.free 2
            by_cases h1 : q = [110, 97, 110] ∨ q = [105, 110, 102]
            · rw [if_pos h1] at hr
              have HR := Lib.hid hr; clear hr
              by_cases h2 : q = [110, 97, 110]
              · have e1 : (q == [110, 97, 110]) = true := by simp [h2]
                clear h1 h2
                have hx := HX.out
                go_upto_region 6 with (first | (go_at_call 18; refine (HT.out _).mono ?_; rintro e w' ⟨rfl, rfl⟩) | (go_at_call 16; refine (HD.out _).mono ?_; rintro e w' ⟨rfl, rfl⟩))
                clear hx
                replace hP := hP.set (k' := ⟨1, a, E, 0, 0, []⟩) 2 (.int .i64 (E : Nat)) rfl
                replace hR := hR.other ⟨P, 2, none⟩ (.int .i64 (E : Nat)) hRP
                replace hB := hB.setCell (p := ⟨P, 2, none⟩) (Nat.le_refl _) (.int .i64 (E : Nat))
                generalize W0.setCell ⟨P, 2, none⟩ (.int .i64 (E : Nat)) = W1 at *
                have z0 : W1.cell? ⟨P, 0, none⟩ = some (.int .i64 1) := hP.cell 0
                have f0 := hP.free 0
                go_upto_region 8 with (fail)
                replace hP := hP.set (k' := ⟨3, a, E, 0, 0, []⟩) 0 (.int .i64 3) rfl
                replace hR := hR.other ⟨P, 0, none⟩ (.int .i64 3) hRP
                replace hB := hB.setCell (p := ⟨P, 0, none⟩) (Nat.le_refl _) (.int .i64 3)
                generalize W1.setCell ⟨P, 0, none⟩ (.int .i64 3) = W2 at *
                go_wp2_with fail
                refine (HPr.out _).mono ?_; rintro e w3 ⟨rfl, hb3⟩
                have hB3 : Below P w w3 := hB.trans (hb3.mono (by have := hB.size; rw [HGH.out] at this; exact this))
                clear hB
                have hB := hB3
                clear hB3
                replace hP := hP.belowP hb3
                replace hR := hR.belowP hb3
                have z4 : w3.cell? ⟨P, 4, none⟩ = some (.float .f64 0) := hP.cell 4
                have f4 := hP.free 4
                generalize (parseB q).1 = x at *
                generalize (parseB q).2 = y at *
                go_upto_region 9 with (fail)
                replace hP := hP.set (k' := ⟨3, a, E, 0, x, []⟩) 4 (.float .f64 x) rfl
                replace hR := hR.other ⟨P, 4, none⟩ (.float .f64 x) hRP
                replace hB := hB.setCell (p := ⟨P, 4, none⟩) (Nat.le_refl _) (.float .f64 x)
                generalize w3.setCell ⟨P, 4, none⟩ (.float .f64 x) = W4 at *
                obtain ⟨T, hT⟩ : ∃ T : Tk, T = ⟨3, a, E, 0, x, []⟩ := ⟨_, rfl⟩
                rw [← hT] at hP
                have HT := Lib.hid hT; clear hT
                have z0 : W4.cell? ⟨P, 0, none⟩ = some (.int .i64 T.kind) := hP.cell 0
                have q0 : W4.cell? ⟨R, 0, none⟩ = some (.int .i64 0) := hR.cell 0
                have p0 := hR.free 0
                have z1 : W4.cell? ⟨P, 1, none⟩ = some (.int .i64 T.pos) := hP.cell 1
                have q1 : W4.cell? ⟨R, 1, none⟩ = some (.int .i64 0) := hR.cell 1
                have p1 := hR.free 1
                have z2 : W4.cell? ⟨P, 2, none⟩ = some (.int .i64 T.next) := hP.cell 2
                have q2 : W4.cell? ⟨R, 2, none⟩ = some (.int .i64 0) := hR.cell 2
                have p2 := hR.free 2
                have z3 : W4.cell? ⟨P, 3, none⟩ = some (.int .i64 T.num) := hP.cell 3
                have q3 : W4.cell? ⟨R, 3, none⟩ = some (.int .i64 0) := hR.cell 3
                have p3 := hR.free 3
                have z4 : W4.cell? ⟨P, 4, none⟩ = some (.float .f64 T.flt) := hP.cell 4
                have q4 : W4.cell? ⟨R, 4, none⟩ = some (.float .f64 0) := hR.cell 4
                have p4 := hR.free 4
                have z5 : W4.cell? ⟨P, 5, none⟩ = some (.string ⟨T.str.toArray⟩) := hP.cell 5
                have q5 : W4.cell? ⟨R, 5, none⟩ = some (.string ⟨#[]⟩) := hR.cell 5
                have p5 := hR.free 5
                go_wp2_with fail
                change bodyPost _ _ _ _ _ (putTok W4 R T)
                have g1 := hR.putTok T
                have g3 : Below P w (putTok W4 R T) := putTok_below hB hPle _
                clear hR hB hP z0 z1 z2 z3 z4 z5 q0 q1 q2 q3 q4 q5 p0 p1 p2 p3 p4 p5
                generalize putTok W4 R T = WX at *
                have v0 : WX.cell? ⟨R, 0, none⟩ = some (.int .i64 T.kind) := g1.cell 0
                have v1 : WX.cell? ⟨R, 1, none⟩ = some (.int .i64 T.pos) := g1.cell 1
                have v2 : WX.cell? ⟨R, 2, none⟩ = some (.int .i64 T.next) := g1.cell 2
                have v3 : WX.cell? ⟨R, 3, none⟩ = some (.int .i64 T.num) := g1.cell 3
                have v4 : WX.cell? ⟨R, 4, none⟩ = some (.float .f64 T.flt) := g1.cell 4
                have v5 : WX.cell? ⟨R, 5, none⟩ = some (.string ⟨T.str.toArray⟩) := g1.cell 5
                refine bodyPost_ret (v := .tuple #[.agg (tokCells T), .int .i64 0]) (by simp [results, Tryz.results19, go_sem, tokCells_mk T, v0, v1, v2, v3, v4, v5]) rfl ?_
                exact ⟨T, by rw [HR.out], (fun _ => by rw [HR.out]; exact HT.out), by rw [HGH.out]; exact g3⟩
              · have e1 : (q == [110, 97, 110]) = false := by simp [h2]
                have e2 : (q == [105, 110, 102]) = true := by rcases h1 with h | h; exact absurd h h2; simp [h]
                clear h1 h2
                have hx := HX.out
                go_upto_region 6 with (first | (go_at_call 18; refine (HT.out _).mono ?_; rintro e w' ⟨rfl, rfl⟩) | (go_at_call 16; refine (HD.out _).mono ?_; rintro e w' ⟨rfl, rfl⟩))
                clear hx
                replace hP := hP.set (k' := ⟨1, a, E, 0, 0, []⟩) 2 (.int .i64 (E : Nat)) rfl
                replace hR := hR.other ⟨P, 2, none⟩ (.int .i64 (E : Nat)) hRP
                replace hB := hB.setCell (p := ⟨P, 2, none⟩) (Nat.le_refl _) (.int .i64 (E : Nat))
                generalize W0.setCell ⟨P, 2, none⟩ (.int .i64 (E : Nat)) = W1 at *
                have z0 : W1.cell? ⟨P, 0, none⟩ = some (.int .i64 1) := hP.cell 0
                have f0 := hP.free 0
                go_upto_region 8 with (fail)
                replace hP := hP.set (k' := ⟨3, a, E, 0, 0, []⟩) 0 (.int .i64 3) rfl
                replace hR := hR.other ⟨P, 0, none⟩ (.int .i64 3) hRP
                replace hB := hB.setCell (p := ⟨P, 0, none⟩) (Nat.le_refl _) (.int .i64 3)
                generalize W1.setCell ⟨P, 0, none⟩ (.int .i64 3) = W2 at *
                go_wp2_with fail
                refine (HPr.out _).mono ?_; rintro e w3 ⟨rfl, hb3⟩
                have hB3 : Below P w w3 := hB.trans (hb3.mono (by have := hB.size; rw [HGH.out] at this; exact this))
                clear hB
                have hB := hB3
                clear hB3
                replace hP := hP.belowP hb3
                replace hR := hR.belowP hb3
                have z4 : w3.cell? ⟨P, 4, none⟩ = some (.float .f64 0) := hP.cell 4
                have f4 := hP.free 4
                generalize (parseB q).1 = x at *
                generalize (parseB q).2 = y at *
                go_upto_region 9 with (fail)
                replace hP := hP.set (k' := ⟨3, a, E, 0, x, []⟩) 4 (.float .f64 x) rfl
                replace hR := hR.other ⟨P, 4, none⟩ (.float .f64 x) hRP
                replace hB := hB.setCell (p := ⟨P, 4, none⟩) (Nat.le_refl _) (.float .f64 x)
                generalize w3.setCell ⟨P, 4, none⟩ (.float .f64 x) = W4 at *
                obtain ⟨T, hT⟩ : ∃ T : Tk, T = ⟨3, a, E, 0, x, []⟩ := ⟨_, rfl⟩
                rw [← hT] at hP
                have HT := Lib.hid hT; clear hT
                have z0 : W4.cell? ⟨P, 0, none⟩ = some (.int .i64 T.kind) := hP.cell 0
                have q0 : W4.cell? ⟨R, 0, none⟩ = some (.int .i64 0) := hR.cell 0
                have p0 := hR.free 0
                have z1 : W4.cell? ⟨P, 1, none⟩ = some (.int .i64 T.pos) := hP.cell 1
                have q1 : W4.cell? ⟨R, 1, none⟩ = some (.int .i64 0) := hR.cell 1
                have p1 := hR.free 1
                have z2 : W4.cell? ⟨P, 2, none⟩ = some (.int .i64 T.next) := hP.cell 2
                have q2 : W4.cell? ⟨R, 2, none⟩ = some (.int .i64 0) := hR.cell 2
                have p2 := hR.free 2
                have z3 : W4.cell? ⟨P, 3, none⟩ = some (.int .i64 T.num) := hP.cell 3
                have q3 : W4.cell? ⟨R, 3, none⟩ = some (.int .i64 0) := hR.cell 3
                have p3 := hR.free 3
                have z4 : W4.cell? ⟨P, 4, none⟩ = some (.float .f64 T.flt) := hP.cell 4
                have q4 : W4.cell? ⟨R, 4, none⟩ = some (.float .f64 0) := hR.cell 4
                have p4 := hR.free 4
                have z5 : W4.cell? ⟨P, 5, none⟩ = some (.string ⟨T.str.toArray⟩) := hP.cell 5
                have q5 : W4.cell? ⟨R, 5, none⟩ = some (.string ⟨#[]⟩) := hR.cell 5
                have p5 := hR.free 5
                go_wp2_with fail
                change bodyPost _ _ _ _ _ (putTok W4 R T)
                have g1 := hR.putTok T
                have g3 : Below P w (putTok W4 R T) := putTok_below hB hPle _
                clear hR hB hP z0 z1 z2 z3 z4 z5 q0 q1 q2 q3 q4 q5 p0 p1 p2 p3 p4 p5
                generalize putTok W4 R T = WX at *
                have v0 : WX.cell? ⟨R, 0, none⟩ = some (.int .i64 T.kind) := g1.cell 0
                have v1 : WX.cell? ⟨R, 1, none⟩ = some (.int .i64 T.pos) := g1.cell 1
                have v2 : WX.cell? ⟨R, 2, none⟩ = some (.int .i64 T.next) := g1.cell 2
                have v3 : WX.cell? ⟨R, 3, none⟩ = some (.int .i64 T.num) := g1.cell 3
                have v4 : WX.cell? ⟨R, 4, none⟩ = some (.float .f64 T.flt) := g1.cell 4
                have v5 : WX.cell? ⟨R, 5, none⟩ = some (.string ⟨T.str.toArray⟩) := g1.cell 5
                refine bodyPost_ret (v := .tuple #[.agg (tokCells T), .int .i64 0]) (by simp [results, Tryz.results19, go_sem, tokCells_mk T, v0, v1, v2, v3, v4, v5]) rfl ?_
                exact ⟨T, by rw [HR.out], (fun _ => by rw [HR.out]; exact HT.out), by rw [HGH.out]; exact g3⟩
            · rw [if_neg h1] at hr
              have e1 : (q == [110, 97, 110]) = false := beq_eq_false_iff_ne.2 (fun h => h1 (.inl h))
              have e2 : (q == [105, 110, 102]) = false := beq_eq_false_iff_ne.2 (fun h => h1 (.inr h))
              clear h1
              by_cases h3 : 30 < n
              · rw [if_pos h3] at hr
                have HR := Lib.hid hr; clear hr
                have e3 : decide ((30 : Int) < (n : Int)) = true := by simp; omega
                have hx := HX.out
                go_upto_region 6 with (first | (go_at_call 18; refine (HT.out _).mono ?_; rintro e w' ⟨rfl, rfl⟩) | (go_at_call 16; refine (HD.out _).mono ?_; rintro e w' ⟨rfl, rfl⟩))
                clear hx
                replace hP := hP.set (k' := ⟨1, a, E, 0, 0, []⟩) 2 (.int .i64 (E : Nat)) rfl
                replace hR := hR.other ⟨P, 2, none⟩ (.int .i64 (E : Nat)) hRP
                replace hB := hB.setCell (p := ⟨P, 2, none⟩) (Nat.le_refl _) (.int .i64 (E : Nat))
                generalize W0.setCell ⟨P, 2, none⟩ (.int .i64 (E : Nat)) = W1 at *
                have z0 : W1.cell? ⟨P, 0, none⟩ = some (.int .i64 1) := hP.cell 0
                have f0 := hP.free 0
                have z5 : W1.cell? ⟨P, 5, none⟩ = some (.string ⟨#[]⟩) := hP.cell 5
                have f5 := hP.free 5
                go_upto_region 12 with (fail)
                replace hP := (hP.set (k' := ⟨5, a, E, 0, 0, []⟩) 0 (.int .i64 5) rfl).set (k' := ⟨5, a, E, 0, 0, q⟩) 5 (.string ⟨q.toArray⟩) rfl
                replace hR := (hR.other ⟨P, 0, none⟩ (.int .i64 5) hRP).other ⟨P, 5, none⟩ (.string ⟨q.toArray⟩) hRP
                replace hB := (hB.setCell (p := ⟨P, 0, none⟩) (Nat.le_refl _) (.int .i64 5)).setCell (p := ⟨P, 5, none⟩) (Nat.le_refl _) (.string ⟨q.toArray⟩)
                generalize (W1.setCell ⟨P, 0, none⟩ (.int .i64 5)).setCell ⟨P, 5, none⟩ (.string ⟨q.toArray⟩) = W4 at *
                clear z0 z5 f0 f5
                obtain ⟨T, hT⟩ : ∃ T : Tk, T = ⟨5, a, E, 0, 0, q⟩ := ⟨_, rfl⟩
                rw [← hT] at hP
                have HT := Lib.hid hT; clear hT
                have z0 : W4.cell? ⟨P, 0, none⟩ = some (.int .i64 T.kind) := hP.cell 0
                have q0 : W4.cell? ⟨R, 0, none⟩ = some (.int .i64 0) := hR.cell 0
                have p0 := hR.free 0
                have z1 : W4.cell? ⟨P, 1, none⟩ = some (.int .i64 T.pos) := hP.cell 1
                have q1 : W4.cell? ⟨R, 1, none⟩ = some (.int .i64 0) := hR.cell 1
                have p1 := hR.free 1
                have z2 : W4.cell? ⟨P, 2, none⟩ = some (.int .i64 T.next) := hP.cell 2
                have q2 : W4.cell? ⟨R, 2, none⟩ = some (.int .i64 0) := hR.cell 2
                have p2 := hR.free 2
                have z3 : W4.cell? ⟨P, 3, none⟩ = some (.int .i64 T.num) := hP.cell 3
                have q3 : W4.cell? ⟨R, 3, none⟩ = some (.int .i64 0) := hR.cell 3
                have p3 := hR.free 3
                have z4 : W4.cell? ⟨P, 4, none⟩ = some (.float .f64 T.flt) := hP.cell 4
                have q4 : W4.cell? ⟨R, 4, none⟩ = some (.float .f64 0) := hR.cell 4
                have p4 := hR.free 4
                have z5 : W4.cell? ⟨P, 5, none⟩ = some (.string ⟨T.str.toArray⟩) := hP.cell 5
                have q5 : W4.cell? ⟨R, 5, none⟩ = some (.string ⟨#[]⟩) := hR.cell 5
                have p5 := hR.free 5
                go_wp2_with fail
                change bodyPost _ _ _ _ _ (putTok W4 R T)
                have g1 := hR.putTok T
                have g3 : Below P w (putTok W4 R T) := putTok_below hB hPle _
                clear hR hB hP z0 z1 z2 z3 z4 z5 q0 q1 q2 q3 q4 q5 p0 p1 p2 p3 p4 p5
                generalize putTok W4 R T = WX at *
                have v0 : WX.cell? ⟨R, 0, none⟩ = some (.int .i64 T.kind) := g1.cell 0
                have v1 : WX.cell? ⟨R, 1, none⟩ = some (.int .i64 T.pos) := g1.cell 1
                have v2 : WX.cell? ⟨R, 2, none⟩ = some (.int .i64 T.next) := g1.cell 2
                have v3 : WX.cell? ⟨R, 3, none⟩ = some (.int .i64 T.num) := g1.cell 3
                have v4 : WX.cell? ⟨R, 4, none⟩ = some (.float .f64 T.flt) := g1.cell 4
                have v5 : WX.cell? ⟨R, 5, none⟩ = some (.string ⟨T.str.toArray⟩) := g1.cell 5
                refine bodyPost_ret (v := .tuple #[.agg (tokCells T), .int .i64 3]) (by simp [results, Tryz.results19, go_sem, tokCells_mk T, v0, v1, v2, v3, v4, v5]) rfl ?_
                exact ⟨T, by rw [HR.out], (fun h => by rw [HR.out] at h; cases h), by rw [HGH.out]; exact g3⟩
              · rw [if_neg h3] at hr
                have HR := Lib.hid hr; clear hr
                have e3 : decide ((30 : Int) < (n : Int)) = false := by simp; omega
                have hx := HX.out
                go_upto_region 6 with (first | (go_at_call 18; refine (HT.out _).mono ?_; rintro e w' ⟨rfl, rfl⟩) | (go_at_call 16; refine (HD.out _).mono ?_; rintro e w' ⟨rfl, rfl⟩))
                clear hx
                replace hP := hP.set (k' := ⟨1, a, E, 0, 0, []⟩) 2 (.int .i64 (E : Nat)) rfl
                replace hR := hR.other ⟨P, 2, none⟩ (.int .i64 (E : Nat)) hRP
                replace hB := hB.setCell (p := ⟨P, 2, none⟩) (Nat.le_refl _) (.int .i64 (E : Nat))
                generalize W0.setCell ⟨P, 2, none⟩ (.int .i64 (E : Nat)) = W1 at *
                have z0 : W1.cell? ⟨P, 0, none⟩ = some (.int .i64 1) := hP.cell 0
                have f0 := hP.free 0
                have z5 : W1.cell? ⟨P, 5, none⟩ = some (.string ⟨#[]⟩) := hP.cell 5
                have f5 := hP.free 5
                go_upto_region 12 with (fail)
                replace hP := (hP.set (k' := ⟨5, a, E, 0, 0, []⟩) 0 (.int .i64 5) rfl).set (k' := ⟨5, a, E, 0, 0, q⟩) 5 (.string ⟨q.toArray⟩) rfl
                replace hR := (hR.other ⟨P, 0, none⟩ (.int .i64 5) hRP).other ⟨P, 5, none⟩ (.string ⟨q.toArray⟩) hRP
                replace hB := (hB.setCell (p := ⟨P, 0, none⟩) (Nat.le_refl _) (.int .i64 5)).setCell (p := ⟨P, 5, none⟩) (Nat.le_refl _) (.string ⟨q.toArray⟩)
                generalize (W1.setCell ⟨P, 0, none⟩ (.int .i64 5)).setCell ⟨P, 5, none⟩ (.string ⟨q.toArray⟩) = W4 at *
                clear z0 z5 f0 f5
                obtain ⟨T, hT⟩ : ∃ T : Tk, T = ⟨5, a, E, 0, 0, q⟩ := ⟨_, rfl⟩
                rw [← hT] at hP
                have HT := Lib.hid hT; clear hT
                have z0 : W4.cell? ⟨P, 0, none⟩ = some (.int .i64 T.kind) := hP.cell 0
                have q0 : W4.cell? ⟨R, 0, none⟩ = some (.int .i64 0) := hR.cell 0
                have p0 := hR.free 0
                have z1 : W4.cell? ⟨P, 1, none⟩ = some (.int .i64 T.pos) := hP.cell 1
                have q1 : W4.cell? ⟨R, 1, none⟩ = some (.int .i64 0) := hR.cell 1
                have p1 := hR.free 1
                have z2 : W4.cell? ⟨P, 2, none⟩ = some (.int .i64 T.next) := hP.cell 2
                have q2 : W4.cell? ⟨R, 2, none⟩ = some (.int .i64 0) := hR.cell 2
                have p2 := hR.free 2
                have z3 : W4.cell? ⟨P, 3, none⟩ = some (.int .i64 T.num) := hP.cell 3
                have q3 : W4.cell? ⟨R, 3, none⟩ = some (.int .i64 0) := hR.cell 3
                have p3 := hR.free 3
                have z4 : W4.cell? ⟨P, 4, none⟩ = some (.float .f64 T.flt) := hP.cell 4
                have q4 : W4.cell? ⟨R, 4, none⟩ = some (.float .f64 0) := hR.cell 4
                have p4 := hR.free 4
                have z5 : W4.cell? ⟨P, 5, none⟩ = some (.string ⟨T.str.toArray⟩) := hP.cell 5
                have q5 : W4.cell? ⟨R, 5, none⟩ = some (.string ⟨#[]⟩) := hR.cell 5
                have p5 := hR.free 5
                go_wp2_with fail
                change bodyPost _ _ _ _ _ (putTok W4 R T)
                have g1 := hR.putTok T
                have g3 : Below P w (putTok W4 R T) := putTok_below hB hPle _
                clear hR hB hP z0 z1 z2 z3 z4 z5 q0 q1 q2 q3 q4 q5 p0 p1 p2 p3 p4 p5
                generalize putTok W4 R T = WX at *
                have v0 : WX.cell? ⟨R, 0, none⟩ = some (.int .i64 T.kind) := g1.cell 0
                have v1 : WX.cell? ⟨R, 1, none⟩ = some (.int .i64 T.pos) := g1.cell 1
                have v2 : WX.cell? ⟨R, 2, none⟩ = some (.int .i64 T.next) := g1.cell 2
                have v3 : WX.cell? ⟨R, 3, none⟩ = some (.int .i64 T.num) := g1.cell 3
                have v4 : WX.cell? ⟨R, 4, none⟩ = some (.float .f64 T.flt) := g1.cell 4
                have v5 : WX.cell? ⟨R, 5, none⟩ = some (.string ⟨T.str.toArray⟩) := g1.cell 5
                refine bodyPost_ret (v := .tuple #[.agg (tokCells T), .int .i64 0]) (by simp [results, Tryz.results19, go_sem, tokCells_mk T, v0, v1, v2, v3, v4, v5]) rfl ?_
                exact ⟨T, by rw [HR.out], (fun _ => by rw [HR.out]; exact HT.out), by rw [HGH.out]; exact g3⟩
          · rw [h95] at HNm
            have HF := Lib.hid (far_go isNm (by rw [HL.out]; exact hlt) (by rw [← HPK.out, HNm.out]; rfl))
            have hEk : k + 1 ≤ E := by have := hfar.out; have := HF.out; omega
            go_wp2_with (first | (go_at_call 18; refine (HT.out _).mono ?_; rintro e w' ⟨rfl, rfl⟩) | (go_at_call 16; refine (HD.out _).mono ?_; rintro e w' ⟨rfl, rfl⟩))
            go_round
            case rel => exact ⟨k + 1, by omega, hEk, by go_num, by show _ = _; rw [hfar.out, HF.out]; omega⟩
            case measure => simp [intOf]; omega
        · have HF := Lib.hid (far_go isNm (by rw [HL.out]; exact hlt) (by rw [← HPK.out, HNm.out]; rfl))
          have hEk : k + 1 ≤ E := by have := hfar.out; have := HF.out; omega
          go_wp2_with (first | (go_at_call 18; refine (HT.out _).mono ?_; rintro e w' ⟨rfl, rfl⟩) | (go_at_call 16; refine (HD.out _).mono ?_; rintro e w' ⟨rfl, rfl⟩))
          go_round
          case rel => exact ⟨k + 1, by omega, hEk, by go_num, by show _ = _; rw [hfar.out, HF.out]; omega⟩
          case measure => simp [intOf]; omega
      · have HF := Lib.hid (far_go isNm (by rw [HL.out]; exact hlt) (by rw [← HPK.out, HNm.out]; rfl))
        have hEk : k + 1 ≤ E := by have := hfar.out; have := HF.out; omega
        go_wp2_with (first | (go_at_call 18; refine (HT.out _).mono ?_; rintro e w' ⟨rfl, rfl⟩) | (go_at_call 16; refine (HD.out _).mono ?_; rintro e w' ⟨rfl, rfl⟩))
        go_round
        case rel => exact ⟨k + 1, by omega, hEk, by go_num, by show _ = _; rw [hfar.out, HF.out]; omega⟩
        case measure => simp [intOf]; omega
    · have ht : decide ((k : Int) < (s.size : Int)) = false := by simp; omega
      have ht2 : ¬ k < s.size := hlt
      have hEk : E = k := by omega
      subst hEk
      have hx := part_bytes s a E
      have hql := part_length (l := s.data.toList) (a := a) (e := E) (by rw [HL.out]; omega)
      have w3' : (E : Int) ≤ (s.size : Int) := by omega
      have w5' : (a : Int) ≤ (E : Int) := by omega
      have hr := HR0.out
      have HPr := Lib.hid (rparse_any (part s.data.toList a E) (by omega))
      generalize part s.data.toList a E = q at *
      have HX := Lib.hid hx; clear hx
      generalize hqn : E - a = n at *
      have z1 : W0.cell? ⟨P, 1, none⟩ = some (.int .i64 (a : Int)) := hP.cell 1
      have z2 : W0.cell? ⟨P, 2, none⟩ = some (.int .i64 (a : Int)) := hP.cell 2
      have f2 := hP.free 2
      by_cases h1 : q = [110, 97, 110] ∨ q = [105, 110, 102]
      · rw [if_pos h1] at hr
        have HR := Lib.hid hr; clear hr
        by_cases h2 : q = [110, 97, 110]
        · have e1 : (q == [110, 97, 110]) = true := by simp [h2]
          clear h1 h2
          have hx := HX.out
          go_upto_region 6 with (fail)
          clear hx
          replace hP := hP.set (k' := ⟨1, a, E, 0, 0, []⟩) 2 (.int .i64 (E : Nat)) rfl
          replace hR := hR.other ⟨P, 2, none⟩ (.int .i64 (E : Nat)) hRP
          replace hB := hB.setCell (p := ⟨P, 2, none⟩) (Nat.le_refl _) (.int .i64 (E : Nat))
          generalize W0.setCell ⟨P, 2, none⟩ (.int .i64 (E : Nat)) = W1 at *
          have z0 : W1.cell? ⟨P, 0, none⟩ = some (.int .i64 1) := hP.cell 0
          have f0 := hP.free 0
          go_upto_region 8 with (fail)
          replace hP := hP.set (k' := ⟨3, a, E, 0, 0, []⟩) 0 (.int .i64 3) rfl
          replace hR := hR.other ⟨P, 0, none⟩ (.int .i64 3) hRP
          replace hB := hB.setCell (p := ⟨P, 0, none⟩) (Nat.le_refl _) (.int .i64 3)
          generalize W1.setCell ⟨P, 0, none⟩ (.int .i64 3) = W2 at *
          go_wp2_with fail
          refine (HPr.out _).mono ?_; rintro e w3 ⟨rfl, hb3⟩
          have hB3 : Below P w w3 := hB.trans (hb3.mono (by have := hB.size; rw [HGH.out] at this; exact this))
          clear hB
          have hB := hB3
          clear hB3
          replace hP := hP.belowP hb3
          replace hR := hR.belowP hb3
          have z4 : w3.cell? ⟨P, 4, none⟩ = some (.float .f64 0) := hP.cell 4
          have f4 := hP.free 4
          generalize (parseB q).1 = x at *
          generalize (parseB q).2 = y at *
          go_upto_region 9 with (fail)
          replace hP := hP.set (k' := ⟨3, a, E, 0, x, []⟩) 4 (.float .f64 x) rfl
          replace hR := hR.other ⟨P, 4, none⟩ (.float .f64 x) hRP
          replace hB := hB.setCell (p := ⟨P, 4, none⟩) (Nat.le_refl _) (.float .f64 x)
          generalize w3.setCell ⟨P, 4, none⟩ (.float .f64 x) = W4 at *
          obtain ⟨T, hT⟩ : ∃ T : Tk, T = ⟨3, a, E, 0, x, []⟩ := ⟨_, rfl⟩
          rw [← hT] at hP
          have HT := Lib.hid hT; clear hT
          have z0 : W4.cell? ⟨P, 0, none⟩ = some (.int .i64 T.kind) := hP.cell 0
          have q0 : W4.cell? ⟨R, 0, none⟩ = some (.int .i64 0) := hR.cell 0
          have p0 := hR.free 0
          have z1 : W4.cell? ⟨P, 1, none⟩ = some (.int .i64 T.pos) := hP.cell 1
          have q1 : W4.cell? ⟨R, 1, none⟩ = some (.int .i64 0) := hR.cell 1
          have p1 := hR.free 1
          have z2 : W4.cell? ⟨P, 2, none⟩ = some (.int .i64 T.next) := hP.cell 2
          have q2 : W4.cell? ⟨R, 2, none⟩ = some (.int .i64 0) := hR.cell 2
          have p2 := hR.free 2
          have z3 : W4.cell? ⟨P, 3, none⟩ = some (.int .i64 T.num) := hP.cell 3
          have q3 : W4.cell? ⟨R, 3, none⟩ = some (.int .i64 0) := hR.cell 3
          have p3 := hR.free 3
          have z4 : W4.cell? ⟨P, 4, none⟩ = some (.float .f64 T.flt) := hP.cell 4
          have q4 : W4.cell? ⟨R, 4, none⟩ = some (.float .f64 0) := hR.cell 4
          have p4 := hR.free 4
          have z5 : W4.cell? ⟨P, 5, none⟩ = some (.string ⟨T.str.toArray⟩) := hP.cell 5
          have q5 : W4.cell? ⟨R, 5, none⟩ = some (.string ⟨#[]⟩) := hR.cell 5
          have p5 := hR.free 5
          go_wp2_with fail
          change bodyPost _ _ _ _ _ (putTok W4 R T)
          have g1 := hR.putTok T
          have g3 : Below P w (putTok W4 R T) := putTok_below hB hPle _
          clear hR hB hP z0 z1 z2 z3 z4 z5 q0 q1 q2 q3 q4 q5 p0 p1 p2 p3 p4 p5
          generalize putTok W4 R T = WX at *
          have v0 : WX.cell? ⟨R, 0, none⟩ = some (.int .i64 T.kind) := g1.cell 0
          have v1 : WX.cell? ⟨R, 1, none⟩ = some (.int .i64 T.pos) := g1.cell 1
          have v2 : WX.cell? ⟨R, 2, none⟩ = some (.int .i64 T.next) := g1.cell 2
          have v3 : WX.cell? ⟨R, 3, none⟩ = some (.int .i64 T.num) := g1.cell 3
          have v4 : WX.cell? ⟨R, 4, none⟩ = some (.float .f64 T.flt) := g1.cell 4
          have v5 : WX.cell? ⟨R, 5, none⟩ = some (.string ⟨T.str.toArray⟩) := g1.cell 5
          refine bodyPost_ret (v := .tuple #[.agg (tokCells T), .int .i64 0]) (by simp [results, Tryz.results19, go_sem, tokCells_mk T, v0, v1, v2, v3, v4, v5]) rfl ?_
          exact ⟨T, by rw [HR.out], (fun _ => by rw [HR.out]; exact HT.out), by rw [HGH.out]; exact g3⟩
        · have e1 : (q == [110, 97, 110]) = false := by simp [h2]
          have e2 : (q == [105, 110, 102]) = true := by rcases h1 with h | h; exact absurd h h2; simp [h]
          clear h1 h2
          have hx := HX.out
          go_upto_region 6 with (fail)
          clear hx
          replace hP := hP.set (k' := ⟨1, a, E, 0, 0, []⟩) 2 (.int .i64 (E : Nat)) rfl
          replace hR := hR.other ⟨P, 2, none⟩ (.int .i64 (E : Nat)) hRP
          replace hB := hB.setCell (p := ⟨P, 2, none⟩) (Nat.le_refl _) (.int .i64 (E : Nat))
          generalize W0.setCell ⟨P, 2, none⟩ (.int .i64 (E : Nat)) = W1 at *
          have z0 : W1.cell? ⟨P, 0, none⟩ = some (.int .i64 1) := hP.cell 0
          have f0 := hP.free 0
          go_upto_region 8 with (fail)
          replace hP := hP.set (k' := ⟨3, a, E, 0, 0, []⟩) 0 (.int .i64 3) rfl
          replace hR := hR.other ⟨P, 0, none⟩ (.int .i64 3) hRP
          replace hB := hB.setCell (p := ⟨P, 0, none⟩) (Nat.le_refl _) (.int .i64 3)
          generalize W1.setCell ⟨P, 0, none⟩ (.int .i64 3) = W2 at *
          go_wp2_with fail
          refine (HPr.out _).mono ?_; rintro e w3 ⟨rfl, hb3⟩
          have hB3 : Below P w w3 := hB.trans (hb3.mono (by have := hB.size; rw [HGH.out] at this; exact this))
          clear hB
          have hB := hB3
          clear hB3
          replace hP := hP.belowP hb3
          replace hR := hR.belowP hb3
          have z4 : w3.cell? ⟨P, 4, none⟩ = some (.float .f64 0) := hP.cell 4
          have f4 := hP.free 4
          generalize (parseB q).1 = x at *
          generalize (parseB q).2 = y at *
          go_upto_region 9 with (fail)
          replace hP := hP.set (k' := ⟨3, a, E, 0, x, []⟩) 4 (.float .f64 x) rfl
          replace hR := hR.other ⟨P, 4, none⟩ (.float .f64 x) hRP
          replace hB := hB.setCell (p := ⟨P, 4, none⟩) (Nat.le_refl _) (.float .f64 x)
          generalize w3.setCell ⟨P, 4, none⟩ (.float .f64 x) = W4 at *
          obtain ⟨T, hT⟩ : ∃ T : Tk, T = ⟨3, a, E, 0, x, []⟩ := ⟨_, rfl⟩
          rw [← hT] at hP
          have HT := Lib.hid hT; clear hT
          have z0 : W4.cell? ⟨P, 0, none⟩ = some (.int .i64 T.kind) := hP.cell 0
          have q0 : W4.cell? ⟨R, 0, none⟩ = some (.int .i64 0) := hR.cell 0
          have p0 := hR.free 0
          have z1 : W4.cell? ⟨P, 1, none⟩ = some (.int .i64 T.pos) := hP.cell 1
          have q1 : W4.cell? ⟨R, 1, none⟩ = some (.int .i64 0) := hR.cell 1
          have p1 := hR.free 1
          have z2 : W4.cell? ⟨P, 2, none⟩ = some (.int .i64 T.next) := hP.cell 2
          have q2 : W4.cell? ⟨R, 2, none⟩ = some (.int .i64 0) := hR.cell 2
          have p2 := hR.free 2
          have z3 : W4.cell? ⟨P, 3, none⟩ = some (.int .i64 T.num) := hP.cell 3
          have q3 : W4.cell? ⟨R, 3, none⟩ = some (.int .i64 0) := hR.cell 3
          have p3 := hR.free 3
          have z4 : W4.cell? ⟨P, 4, none⟩ = some (.float .f64 T.flt) := hP.cell 4
          have q4 : W4.cell? ⟨R, 4, none⟩ = some (.float .f64 0) := hR.cell 4
          have p4 := hR.free 4
          have z5 : W4.cell? ⟨P, 5, none⟩ = some (.string ⟨T.str.toArray⟩) := hP.cell 5
          have q5 : W4.cell? ⟨R, 5, none⟩ = some (.string ⟨#[]⟩) := hR.cell 5
          have p5 := hR.free 5
          go_wp2_with fail
          change bodyPost _ _ _ _ _ (putTok W4 R T)
          have g1 := hR.putTok T
          have g3 : Below P w (putTok W4 R T) := putTok_below hB hPle _
          clear hR hB hP z0 z1 z2 z3 z4 z5 q0 q1 q2 q3 q4 q5 p0 p1 p2 p3 p4 p5
          generalize putTok W4 R T = WX at *
          have v0 : WX.cell? ⟨R, 0, none⟩ = some (.int .i64 T.kind) := g1.cell 0
          have v1 : WX.cell? ⟨R, 1, none⟩ = some (.int .i64 T.pos) := g1.cell 1
          have v2 : WX.cell? ⟨R, 2, none⟩ = some (.int .i64 T.next) := g1.cell 2
          have v3 : WX.cell? ⟨R, 3, none⟩ = some (.int .i64 T.num) := g1.cell 3
          have v4 : WX.cell? ⟨R, 4, none⟩ = some (.float .f64 T.flt) := g1.cell 4
          have v5 : WX.cell? ⟨R, 5, none⟩ = some (.string ⟨T.str.toArray⟩) := g1.cell 5
          refine bodyPost_ret (v := .tuple #[.agg (tokCells T), .int .i64 0]) (by simp [results, Tryz.results19, go_sem, tokCells_mk T, v0, v1, v2, v3, v4, v5]) rfl ?_
          exact ⟨T, by rw [HR.out], (fun _ => by rw [HR.out]; exact HT.out), by rw [HGH.out]; exact g3⟩
      · rw [if_neg h1] at hr
        have e1 : (q == [110, 97, 110]) = false := beq_eq_false_iff_ne.2 (fun h => h1 (.inl h))
        have e2 : (q == [105, 110, 102]) = false := beq_eq_false_iff_ne.2 (fun h => h1 (.inr h))
        clear h1
        by_cases h3 : 30 < n
        · rw [if_pos h3] at hr
          have HR := Lib.hid hr; clear hr
          have e3 : decide ((30 : Int) < (n : Int)) = true := by simp; omega
          have hx := HX.out
          go_upto_region 6 with (fail)
          clear hx
          replace hP := hP.set (k' := ⟨1, a, E, 0, 0, []⟩) 2 (.int .i64 (E : Nat)) rfl
          replace hR := hR.other ⟨P, 2, none⟩ (.int .i64 (E : Nat)) hRP
          replace hB := hB.setCell (p := ⟨P, 2, none⟩) (Nat.le_refl _) (.int .i64 (E : Nat))
          generalize W0.setCell ⟨P, 2, none⟩ (.int .i64 (E : Nat)) = W1 at *
          have z0 : W1.cell? ⟨P, 0, none⟩ = some (.int .i64 1) := hP.cell 0
          have f0 := hP.free 0
          have z5 : W1.cell? ⟨P, 5, none⟩ = some (.string ⟨#[]⟩) := hP.cell 5
          have f5 := hP.free 5
          go_upto_region 12 with (fail)
          replace hP := (hP.set (k' := ⟨5, a, E, 0, 0, []⟩) 0 (.int .i64 5) rfl).set (k' := ⟨5, a, E, 0, 0, q⟩) 5 (.string ⟨q.toArray⟩) rfl
          replace hR := (hR.other ⟨P, 0, none⟩ (.int .i64 5) hRP).other ⟨P, 5, none⟩ (.string ⟨q.toArray⟩) hRP
          replace hB := (hB.setCell (p := ⟨P, 0, none⟩) (Nat.le_refl _) (.int .i64 5)).setCell (p := ⟨P, 5, none⟩) (Nat.le_refl _) (.string ⟨q.toArray⟩)
          generalize (W1.setCell ⟨P, 0, none⟩ (.int .i64 5)).setCell ⟨P, 5, none⟩ (.string ⟨q.toArray⟩) = W4 at *
          clear z0 z5 f0 f5
          obtain ⟨T, hT⟩ : ∃ T : Tk, T = ⟨5, a, E, 0, 0, q⟩ := ⟨_, rfl⟩
          rw [← hT] at hP
          have HT := Lib.hid hT; clear hT
          have z0 : W4.cell? ⟨P, 0, none⟩ = some (.int .i64 T.kind) := hP.cell 0
          have q0 : W4.cell? ⟨R, 0, none⟩ = some (.int .i64 0) := hR.cell 0
          have p0 := hR.free 0
          have z1 : W4.cell? ⟨P, 1, none⟩ = some (.int .i64 T.pos) := hP.cell 1
          have q1 : W4.cell? ⟨R, 1, none⟩ = some (.int .i64 0) := hR.cell 1
          have p1 := hR.free 1
          have z2 : W4.cell? ⟨P, 2, none⟩ = some (.int .i64 T.next) := hP.cell 2
          have q2 : W4.cell? ⟨R, 2, none⟩ = some (.int .i64 0) := hR.cell 2
          have p2 := hR.free 2
          have z3 : W4.cell? ⟨P, 3, none⟩ = some (.int .i64 T.num) := hP.cell 3
          have q3 : W4.cell? ⟨R, 3, none⟩ = some (.int .i64 0) := hR.cell 3
          have p3 := hR.free 3
          have z4 : W4.cell? ⟨P, 4, none⟩ = some (.float .f64 T.flt) := hP.cell 4
          have q4 : W4.cell? ⟨R, 4, none⟩ = some (.float .f64 0) := hR.cell 4
          have p4 := hR.free 4
          have z5 : W4.cell? ⟨P, 5, none⟩ = some (.string ⟨T.str.toArray⟩) := hP.cell 5
          have q5 : W4.cell? ⟨R, 5, none⟩ = some (.string ⟨#[]⟩) := hR.cell 5
          have p5 := hR.free 5
          go_wp2_with fail
          change bodyPost _ _ _ _ _ (putTok W4 R T)
          have g1 := hR.putTok T
          have g3 : Below P w (putTok W4 R T) := putTok_below hB hPle _
          clear hR hB hP z0 z1 z2 z3 z4 z5 q0 q1 q2 q3 q4 q5 p0 p1 p2 p3 p4 p5
          generalize putTok W4 R T = WX at *
          have v0 : WX.cell? ⟨R, 0, none⟩ = some (.int .i64 T.kind) := g1.cell 0
          have v1 : WX.cell? ⟨R, 1, none⟩ = some (.int .i64 T.pos) := g1.cell 1
          have v2 : WX.cell? ⟨R, 2, none⟩ = some (.int .i64 T.next) := g1.cell 2
          have v3 : WX.cell? ⟨R, 3, none⟩ = some (.int .i64 T.num) := g1.cell 3
          have v4 : WX.cell? ⟨R, 4, none⟩ = some (.float .f64 T.flt) := g1.cell 4
          have v5 : WX.cell? ⟨R, 5, none⟩ = some (.string ⟨T.str.toArray⟩) := g1.cell 5
          refine bodyPost_ret (v := .tuple #[.agg (tokCells T), .int .i64 3]) (by simp [results, Tryz.results19, go_sem, tokCells_mk T, v0, v1, v2, v3, v4, v5]) rfl ?_
          exact ⟨T, by rw [HR.out], (fun h => by rw [HR.out] at h; cases h), by rw [HGH.out]; exact g3⟩
        · rw [if_neg h3] at hr
          have HR := Lib.hid hr; clear hr
          have e3 : decide ((30 : Int) < (n : Int)) = false := by simp; omega
          have hx := HX.out
          go_upto_region 6 with (fail)
          clear hx
          replace hP := hP.set (k' := ⟨1, a, E, 0, 0, []⟩) 2 (.int .i64 (E : Nat)) rfl
          replace hR := hR.other ⟨P, 2, none⟩ (.int .i64 (E : Nat)) hRP
          replace hB := hB.setCell (p := ⟨P, 2, none⟩) (Nat.le_refl _) (.int .i64 (E : Nat))
          generalize W0.setCell ⟨P, 2, none⟩ (.int .i64 (E : Nat)) = W1 at *
          have z0 : W1.cell? ⟨P, 0, none⟩ = some (.int .i64 1) := hP.cell 0
          have f0 := hP.free 0
          have z5 : W1.cell? ⟨P, 5, none⟩ = some (.string ⟨#[]⟩) := hP.cell 5
          have f5 := hP.free 5
          go_upto_region 12 with (fail)
          replace hP := (hP.set (k' := ⟨5, a, E, 0, 0, []⟩) 0 (.int .i64 5) rfl).set (k' := ⟨5, a, E, 0, 0, q⟩) 5 (.string ⟨q.toArray⟩) rfl
          replace hR := (hR.other ⟨P, 0, none⟩ (.int .i64 5) hRP).other ⟨P, 5, none⟩ (.string ⟨q.toArray⟩) hRP
          replace hB := (hB.setCell (p := ⟨P, 0, none⟩) (Nat.le_refl _) (.int .i64 5)).setCell (p := ⟨P, 5, none⟩) (Nat.le_refl _) (.string ⟨q.toArray⟩)
          generalize (W1.setCell ⟨P, 0, none⟩ (.int .i64 5)).setCell ⟨P, 5, none⟩ (.string ⟨q.toArray⟩) = W4 at *
          clear z0 z5 f0 f5
          obtain ⟨T, hT⟩ : ∃ T : Tk, T = ⟨5, a, E, 0, 0, q⟩ := ⟨_, rfl⟩
          rw [← hT] at hP
          have HT := Lib.hid hT; clear hT
          have z0 : W4.cell? ⟨P, 0, none⟩ = some (.int .i64 T.kind) := hP.cell 0
          have q0 : W4.cell? ⟨R, 0, none⟩ = some (.int .i64 0) := hR.cell 0
          have p0 := hR.free 0
          have z1 : W4.cell? ⟨P, 1, none⟩ = some (.int .i64 T.pos) := hP.cell 1
          have q1 : W4.cell? ⟨R, 1, none⟩ = some (.int .i64 0) := hR.cell 1
          have p1 := hR.free 1
          have z2 : W4.cell? ⟨P, 2, none⟩ = some (.int .i64 T.next) := hP.cell 2
          have q2 : W4.cell? ⟨R, 2, none⟩ = some (.int .i64 0) := hR.cell 2
          have p2 := hR.free 2
          have z3 : W4.cell? ⟨P, 3, none⟩ = some (.int .i64 T.num) := hP.cell 3
          have q3 : W4.cell? ⟨R, 3, none⟩ = some (.int .i64 0) := hR.cell 3
          have p3 := hR.free 3
          have z4 : W4.cell? ⟨P, 4, none⟩ = some (.float .f64 T.flt) := hP.cell 4
          have q4 : W4.cell? ⟨R, 4, none⟩ = some (.float .f64 0) := hR.cell 4
          have p4 := hR.free 4
          have z5 : W4.cell? ⟨P, 5, none⟩ = some (.string ⟨T.str.toArray⟩) := hP.cell 5
          have q5 : W4.cell? ⟨R, 5, none⟩ = some (.string ⟨#[]⟩) := hR.cell 5
          have p5 := hR.free 5
          go_wp2_with fail
          change bodyPost _ _ _ _ _ (putTok W4 R T)
          have g1 := hR.putTok T
          have g3 : Below P w (putTok W4 R T) := putTok_below hB hPle _
          clear hR hB hP z0 z1 z2 z3 z4 z5 q0 q1 q2 q3 q4 q5 p0 p1 p2 p3 p4 p5
          generalize putTok W4 R T = WX at *
          have v0 : WX.cell? ⟨R, 0, none⟩ = some (.int .i64 T.kind) := g1.cell 0
          have v1 : WX.cell? ⟨R, 1, none⟩ = some (.int .i64 T.pos) := g1.cell 1
          have v2 : WX.cell? ⟨R, 2, none⟩ = some (.int .i64 T.next) := g1.cell 2
          have v3 : WX.cell? ⟨R, 3, none⟩ = some (.int .i64 T.num) := g1.cell 3
          have v4 : WX.cell? ⟨R, 4, none⟩ = some (.float .f64 T.flt) := g1.cell 4
          have v5 : WX.cell? ⟨R, 5, none⟩ = some (.string ⟨T.str.toArray⟩) := g1.cell 5
          refine bodyPost_ret (v := .tuple #[.agg (tokCells T), .int .i64 0]) (by simp [results, Tryz.results19, go_sem, tokCells_mk T, v0, v1, v2, v3, v4, v5]) rfl ?_
          exact ⟨T, by rw [HR.out], (fun _ => by rw [HR.out]; exact HT.out), by rw [HGH.out]; exact g3⟩
end Go.Proofs.YtkcbkfflabkcgaaGreatDoor
