/-
  The walk of the references' number: an int.
-/
import Derived.Test.YtkcbkfflabkcgaaGreatDoorM3
namespace Go.Proofs.YtkcbkfflabkcgaaGreatDoor
open Go.RowKit

set_option maxRecDepth 100000 in
set_option maxHeartbeats 4000000 in
theorem rnumber_i (s : ByteArray) (hs : s.size ≤ 1000000) (a : Nat) (ha : a ≤ s.size) (w : World) (hp : ¬ s.data.toList[a + far isDig s.data.toList a]? = some 112) :
    Calls Tryz.prog 17 #[.string s, .agg (tokCells ⟨1, a, a, 0, 0, []⟩)] w (RefTok (numS s.data.toList a) w) := by
  have hl : s.data.toList.length = s.size := by simp
  have HL := Lib.hid hl
  have hfl := far_le isDig s.data.toList (a := a) (by rw [hl]; exact ha)
  rw [hl] at hfl
  have hr := numS.eq_def s.data.toList a
  simp only at hr
  rw [if_neg hp] at hr
  have hno := noByte hp
  have HRA := Lib.hid (rrun_any s hs a ha)
  have HFD := Lib.hid (fun k (h1 : a ≤ k) (h2 : k < a + far isDig s.data.toList a) => far_dig (l := s.data.toList) h1 h2 (by rw [hl]; exact ha))
  have HNB := Lib.hid (fun k (h1 : k ≤ a + far isDig s.data.toList a) (h2 : k - a ≤ 18) => num_bound (l := s.data.toList) h1 (by rw [hl]; exact ha) h2)
  generalize hai : a + far isDig s.data.toList a = i at *
  have hfi : far isDig s.data.toList a = i - a := by omega
  have hak : a ≤ i := by omega
  rw [hfi] at hr
  have HR0 := Lib.hid hr
  clear hr hai hfi hl hp
  have hst := store_float
  have hP : TokAt w.heap.size ⟨1, a, a, 0, 0, []⟩ ((w.alloc (.cells #[.int .i64 1, .int .i64 a, .int .i64 a, .int .i64 0, .float .f64 0, .string ⟨#[]⟩] 25)).alloc (.cells #[.int .i64 0, .int .i64 0, .int .i64 0, .int .i64 0, .float .f64 0, .string ⟨#[]⟩] 25)) := TokAt.kept (w := w.alloc (.cells #[.int .i64 1, .int .i64 a, .int .i64 a, .int .i64 0, .float .f64 0, .string ⟨#[]⟩] 25)) (heap_alloc_new w _) ((Fr.refl [] _).alloc _) (by simp)
  have hR : TokAt (w.heap.size + 1) noTk ((w.alloc (.cells #[.int .i64 1, .int .i64 a, .int .i64 a, .int .i64 0, .float .f64 0, .string ⟨#[]⟩] 25)).alloc (.cells #[.int .i64 0, .int .i64 0, .int .i64 0, .int .i64 0, .float .f64 0, .string ⟨#[]⟩] 25)) := by
    have := heap_alloc_new (w.alloc (.cells #[.int .i64 1, .int .i64 a, .int .i64 a, .int .i64 0, .float .f64 0, .string ⟨#[]⟩] 25)) (.cells #[.int .i64 0, .int .i64 0, .int .i64 0, .int .i64 0, .float .f64 0, .string ⟨#[]⟩] 25)
    simpa [TokAt, tokCells, noTk] using this
  have hB : Below w.heap.size w ((w.alloc (.cells #[.int .i64 1, .int .i64 a, .int .i64 a, .int .i64 0, .float .f64 0, .string ⟨#[]⟩] 25)).alloc (.cells #[.int .i64 0, .int .i64 0, .int .i64 0, .int .i64 0, .float .f64 0, .string ⟨#[]⟩] 25)) := ((Below.refl _ _).alloc (Nat.le_refl _) _).alloc (by simp) _
  have hPR : w.heap.size ≠ w.heap.size + 1 := by omega
  have hRP : w.heap.size + 1 ≠ w.heap.size := by omega
  have hPle : w.heap.size ≤ w.heap.size + 1 := by omega
  rw [tokCells_mk]
  go_enter Tryz.func17, Tryz.ntmps17
  go_wp2_with fail
  generalize ((w.alloc (.cells #[.int .i64 1, .int .i64 a, .int .i64 a, .int .i64 0, .float .f64 0, .string ⟨#[]⟩] 25)).alloc (.cells #[.int .i64 0, .int .i64 0, .int .i64 0, .int .i64 0, .float .f64 0, .string ⟨#[]⟩] 25)) = W0 at *
  generalize hgr : w.heap.size + 1 = R at *
  clear hgr
  generalize hgh : w.heap.size = P at *
  have HGH := Lib.hid hgh; clear hgh
  have z1 : W0.cell? ⟨P, 1, none⟩ = some (.int .i64 (a : Int)) := hP.cell 1
  go_wp2_with fail
  refine (HRA.out _).mono ?_; rintro e w' ⟨rfl, rfl⟩
  have z0 : W0.cell? ⟨P, 0, none⟩ = some (.int .i64 1) := hP.cell 0
  have z2 : W0.cell? ⟨P, 2, none⟩ = some (.int .i64 (a : Int)) := hP.cell 2
  have f0 := hP.free 0
  have f2 := hP.free 2
  rcases hno with ⟨hn1, hn2⟩ | ⟨hn1, hn2⟩
  · go_upto_region 15 with (fail)
    replace hP := (hP.set (k' := ⟨2, a, a, 0, 0, []⟩) 0 (.int .i64 2) rfl).set (k' := ⟨2, a, i, 0, 0, []⟩) 2 (.int .i64 (i : Nat)) rfl
    replace hR := (hR.other ⟨P, 0, none⟩ (.int .i64 2) hRP).other ⟨P, 2, none⟩ (.int .i64 (i : Nat)) hRP
    replace hB := (hB.setCell (p := ⟨P, 0, none⟩) (Nat.le_refl _) (.int .i64 2)).setCell (p := ⟨P, 2, none⟩) (Nat.le_refl _) (.int .i64 (i : Nat))
    generalize (W0.setCell ⟨P, 0, none⟩ (.int .i64 2)).setCell ⟨P, 2, none⟩ (.int .i64 (i : Nat)) = W1 at *
    clear z0 z1 z2 f0 f2
    have hr := HR0.out
    have y1 : W1.cell? ⟨P, 1, none⟩ = some (.int .i64 (a : Int)) := hP.cell 1
    by_cases h19 : 19 < i - a
    · rw [if_pos (.inl h19)] at hr
      have HR := Lib.hid hr; clear hr HR0
      have t9 : decide ((19 : Int) < (i : Int) - (a : Int)) = true := by simp; omega
      go_upto_region 16 with (fail)
      clear y1
      obtain ⟨T, hT⟩ : ∃ T : Tk, T = ⟨2, a, i, 0, 0, []⟩ := ⟨_, rfl⟩
      rw [← hT] at hP
      have HT := Lib.hid hT; clear hT
      have z0 : W1.cell? ⟨P, 0, none⟩ = some (.int .i64 T.kind) := hP.cell 0
      have q0 : W1.cell? ⟨R, 0, none⟩ = some (.int .i64 0) := hR.cell 0
      have p0 := hR.free 0
      have z1 : W1.cell? ⟨P, 1, none⟩ = some (.int .i64 T.pos) := hP.cell 1
      have q1 : W1.cell? ⟨R, 1, none⟩ = some (.int .i64 0) := hR.cell 1
      have p1 := hR.free 1
      have z2 : W1.cell? ⟨P, 2, none⟩ = some (.int .i64 T.next) := hP.cell 2
      have q2 : W1.cell? ⟨R, 2, none⟩ = some (.int .i64 0) := hR.cell 2
      have p2 := hR.free 2
      have z3 : W1.cell? ⟨P, 3, none⟩ = some (.int .i64 T.num) := hP.cell 3
      have q3 : W1.cell? ⟨R, 3, none⟩ = some (.int .i64 0) := hR.cell 3
      have p3 := hR.free 3
      have z4 : W1.cell? ⟨P, 4, none⟩ = some (.float .f64 T.flt) := hP.cell 4
      have q4 : W1.cell? ⟨R, 4, none⟩ = some (.float .f64 0) := hR.cell 4
      have p4 := hR.free 4
      have z5 : W1.cell? ⟨P, 5, none⟩ = some (.string ⟨T.str.toArray⟩) := hP.cell 5
      have q5 : W1.cell? ⟨R, 5, none⟩ = some (.string ⟨#[]⟩) := hR.cell 5
      have p5 := hR.free 5
      go_wp2_with fail
      change bodyPost _ _ _ _ _ (putTok W1 R T)
      have g1 := hR.putTok T
      have g3 : Below P w (putTok W1 R T) := putTok_below hB hPle _
      clear hR hB hP z0 z1 z2 z3 z4 z5 q0 q1 q2 q3 q4 q5 p0 p1 p2 p3 p4 p5
      generalize putTok W1 R T = WX at *
      have v0 : WX.cell? ⟨R, 0, none⟩ = some (.int .i64 T.kind) := g1.cell 0
      have v1 : WX.cell? ⟨R, 1, none⟩ = some (.int .i64 T.pos) := g1.cell 1
      have v2 : WX.cell? ⟨R, 2, none⟩ = some (.int .i64 T.next) := g1.cell 2
      have v3 : WX.cell? ⟨R, 3, none⟩ = some (.int .i64 T.num) := g1.cell 3
      have v4 : WX.cell? ⟨R, 4, none⟩ = some (.float .f64 T.flt) := g1.cell 4
      have v5 : WX.cell? ⟨R, 5, none⟩ = some (.string ⟨T.str.toArray⟩) := g1.cell 5
      refine bodyPost_ret (v := .tuple #[.agg (tokCells T), .int .i64 3]) (by simp [results, Tryz.results17, go_sem, tokCells_mk T, v0, v1, v2, v3, v4, v5]) rfl ?_
      exact ⟨T, by rw [HR.out], (fun h => by rw [HR.out] at h; cases h), by rw [HGH.out]; exact g3⟩
    · have t9 : decide ((19 : Int) < (i : Int) - (a : Int)) = false := by simp; omega
      clear hr
      go_wp2_with fail
      go_loop [10, 11] (fun nv kv => ∃ (k n : Nat), a ≤ k ∧ k ≤ i ∧ n ≤ 9999999999999999999 ∧ nv = .int .u64 n ∧ kv = .int .i64 k ∧ Hid (n = decVal (part s.data.toList a k))) (fun _ kv => i - (intOf kv).toNat)
      case atStart => exact ⟨a, 0, Nat.le_refl _, hak, by omega, rfl, rfl, by show _ = _; rw [part_self]; rfl⟩
      case round =>
        obtain ⟨k, n, hk1, hk2, hn, rfl, rfl, hv⟩ := hrel
        by_cases hlt : k < i
        · have hlt2 : k < s.size := by omega
          have t1 : decide ((k : Int) < (i : Int)) = true := by simp; omega
          have hd := HFD.out k hk1 hlt
          have hg0 : s[k]'hlt2 = s.data.toList.getD k 0 := by simp [List.getD, hlt2]; rfl
          rw [← hg0] at hd
          have hd2 : 48 ≤ (s[k]'hlt2).toNat ∧ (s[k]'hlt2).toNat ≤ 57 := of_decide_eq_true hd
          obtain ⟨d1, d2⟩ := hd2
          have hnb := HNB.out k hk2 (by omega)
          rw [← hv.out] at hnb
          have HV2 := Lib.hid (show n * 10 + ((s[k]'hlt2).toNat - 48) = decVal (part s.data.toList a (k + 1)) from by rw [part_snoc hk1 (by rw [HL.out]; exact hlt2), decVal_snoc, ← hv.out, hg0])
          clear hd hg0
          go_wp2
          go_round
          case rel => exact ⟨k + 1, n * 10 + ((s[k]'hlt2).toNat - 48), by omega, by omega, by omega, by congr 1; omega, by go_num, HV2.out⟩
          case measure => simp [intOf]; omega
        · have t1 : decide ((k : Int) < (i : Int)) = false := by simp; omega
          have hki : k = i := by omega
          subst hki
          have hr := HR0.out
          rw [← hv.out] at hr
          by_cases h63 : 9223372036854775808 ≤ n
          · rw [if_pos (.inr h63)] at hr
            have HR := Lib.hid hr; clear hr HR0
            have t3 : decide ((9223372036854775808 : Int) ≤ (n : Int)) = true := by simp; omega
            go_upto_region 23 with (fail)
            clear y1
            obtain ⟨T, hT⟩ : ∃ T : Tk, T = ⟨2, a, k, 0, 0, []⟩ := ⟨_, rfl⟩
            rw [← hT] at hP
            have HT := Lib.hid hT; clear hT
            have z0 : W1.cell? ⟨P, 0, none⟩ = some (.int .i64 T.kind) := hP.cell 0
            have q0 : W1.cell? ⟨R, 0, none⟩ = some (.int .i64 0) := hR.cell 0
            have p0 := hR.free 0
            have z1 : W1.cell? ⟨P, 1, none⟩ = some (.int .i64 T.pos) := hP.cell 1
            have q1 : W1.cell? ⟨R, 1, none⟩ = some (.int .i64 0) := hR.cell 1
            have p1 := hR.free 1
            have z2 : W1.cell? ⟨P, 2, none⟩ = some (.int .i64 T.next) := hP.cell 2
            have q2 : W1.cell? ⟨R, 2, none⟩ = some (.int .i64 0) := hR.cell 2
            have p2 := hR.free 2
            have z3 : W1.cell? ⟨P, 3, none⟩ = some (.int .i64 T.num) := hP.cell 3
            have q3 : W1.cell? ⟨R, 3, none⟩ = some (.int .i64 0) := hR.cell 3
            have p3 := hR.free 3
            have z4 : W1.cell? ⟨P, 4, none⟩ = some (.float .f64 T.flt) := hP.cell 4
            have q4 : W1.cell? ⟨R, 4, none⟩ = some (.float .f64 0) := hR.cell 4
            have p4 := hR.free 4
            have z5 : W1.cell? ⟨P, 5, none⟩ = some (.string ⟨T.str.toArray⟩) := hP.cell 5
            have q5 : W1.cell? ⟨R, 5, none⟩ = some (.string ⟨#[]⟩) := hR.cell 5
            have p5 := hR.free 5
            go_wp2_with fail
            change bodyPost _ _ _ _ _ (putTok W1 R T)
            have g1 := hR.putTok T
            have g3 : Below P w (putTok W1 R T) := putTok_below hB hPle _
            clear hR hB hP z0 z1 z2 z3 z4 z5 q0 q1 q2 q3 q4 q5 p0 p1 p2 p3 p4 p5
            generalize putTok W1 R T = WX at *
            have v0 : WX.cell? ⟨R, 0, none⟩ = some (.int .i64 T.kind) := g1.cell 0
            have v1 : WX.cell? ⟨R, 1, none⟩ = some (.int .i64 T.pos) := g1.cell 1
            have v2 : WX.cell? ⟨R, 2, none⟩ = some (.int .i64 T.next) := g1.cell 2
            have v3 : WX.cell? ⟨R, 3, none⟩ = some (.int .i64 T.num) := g1.cell 3
            have v4 : WX.cell? ⟨R, 4, none⟩ = some (.float .f64 T.flt) := g1.cell 4
            have v5 : WX.cell? ⟨R, 5, none⟩ = some (.string ⟨T.str.toArray⟩) := g1.cell 5
            refine bodyPost_ret (v := .tuple #[.agg (tokCells T), .int .i64 3]) (by simp [results, Tryz.results17, go_sem, tokCells_mk T, v0, v1, v2, v3, v4, v5]) rfl ?_
            exact ⟨T, by rw [HR.out], (fun h => by rw [HR.out] at h; cases h), by rw [HGH.out]; exact g3⟩
          · rw [if_neg (by omega)] at hr
            have HR := Lib.hid hr; clear hr HR0
            have t3 : decide ((9223372036854775808 : Int) ≤ (n : Int)) = false := by simp; omega
            have y3 : W1.cell? ⟨P, 3, none⟩ = some (.int .i64 0) := hP.cell 3
            have f3 := hP.free 3
            have hn63 : (n : Int) < 9223372036854775808 := by omega
            go_upto_region 25 with (fail)
            clear y1 y3 f3
            replace hP := hP.set (k' := ⟨2, a, k, n, 0, []⟩) 3 (.int .i64 (n : Nat)) rfl
            replace hR := hR.other ⟨P, 3, none⟩ (.int .i64 (n : Nat)) hRP
            replace hB := hB.setCell (p := ⟨P, 3, none⟩) (Nat.le_refl _) (.int .i64 (n : Nat))
            generalize W1.setCell ⟨P, 3, none⟩ (.int .i64 (n : Nat)) = W2 at *
            obtain ⟨T, hT⟩ : ∃ T : Tk, T = ⟨2, a, k, n, 0, []⟩ := ⟨_, rfl⟩
            rw [← hT] at hP
            have HT := Lib.hid hT; clear hT
            have z0 : W2.cell? ⟨P, 0, none⟩ = some (.int .i64 T.kind) := hP.cell 0
            have q0 : W2.cell? ⟨R, 0, none⟩ = some (.int .i64 0) := hR.cell 0
            have p0 := hR.free 0
            have z1 : W2.cell? ⟨P, 1, none⟩ = some (.int .i64 T.pos) := hP.cell 1
            have q1 : W2.cell? ⟨R, 1, none⟩ = some (.int .i64 0) := hR.cell 1
            have p1 := hR.free 1
            have z2 : W2.cell? ⟨P, 2, none⟩ = some (.int .i64 T.next) := hP.cell 2
            have q2 : W2.cell? ⟨R, 2, none⟩ = some (.int .i64 0) := hR.cell 2
            have p2 := hR.free 2
            have z3 : W2.cell? ⟨P, 3, none⟩ = some (.int .i64 T.num) := hP.cell 3
            have q3 : W2.cell? ⟨R, 3, none⟩ = some (.int .i64 0) := hR.cell 3
            have p3 := hR.free 3
            have z4 : W2.cell? ⟨P, 4, none⟩ = some (.float .f64 T.flt) := hP.cell 4
            have q4 : W2.cell? ⟨R, 4, none⟩ = some (.float .f64 0) := hR.cell 4
            have p4 := hR.free 4
            have z5 : W2.cell? ⟨P, 5, none⟩ = some (.string ⟨T.str.toArray⟩) := hP.cell 5
            have q5 : W2.cell? ⟨R, 5, none⟩ = some (.string ⟨#[]⟩) := hR.cell 5
            have p5 := hR.free 5
            go_wp2_with fail
            change bodyPost _ _ _ _ _ (putTok W2 R T)
            have g1 := hR.putTok T
            have g3 : Below P w (putTok W2 R T) := putTok_below hB hPle _
            clear hR hB hP z0 z1 z2 z3 z4 z5 q0 q1 q2 q3 q4 q5 p0 p1 p2 p3 p4 p5
            generalize putTok W2 R T = WX at *
            have v0 : WX.cell? ⟨R, 0, none⟩ = some (.int .i64 T.kind) := g1.cell 0
            have v1 : WX.cell? ⟨R, 1, none⟩ = some (.int .i64 T.pos) := g1.cell 1
            have v2 : WX.cell? ⟨R, 2, none⟩ = some (.int .i64 T.next) := g1.cell 2
            have v3 : WX.cell? ⟨R, 3, none⟩ = some (.int .i64 T.num) := g1.cell 3
            have v4 : WX.cell? ⟨R, 4, none⟩ = some (.float .f64 T.flt) := g1.cell 4
            have v5 : WX.cell? ⟨R, 5, none⟩ = some (.string ⟨T.str.toArray⟩) := g1.cell 5
            refine bodyPost_ret (v := .tuple #[.agg (tokCells T), .int .i64 0]) (by simp [results, Tryz.results17, go_sem, tokCells_mk T, v0, v1, v2, v3, v4, v5]) rfl ?_
            exact ⟨T, by rw [HR.out], (fun _ => by rw [HR.out]; exact HT.out), by rw [HGH.out]; exact g3⟩
  · have hn3 : decide ((i : Int) < (s.size : Int)) = true := by simp; omega
    have hn2' : (((s[i]'hn1).toNat : Int) == 112) = false := hn2
    clear hn2
    go_upto_region 15 with (fail)
    replace hP := (hP.set (k' := ⟨2, a, a, 0, 0, []⟩) 0 (.int .i64 2) rfl).set (k' := ⟨2, a, i, 0, 0, []⟩) 2 (.int .i64 (i : Nat)) rfl
    replace hR := (hR.other ⟨P, 0, none⟩ (.int .i64 2) hRP).other ⟨P, 2, none⟩ (.int .i64 (i : Nat)) hRP
    replace hB := (hB.setCell (p := ⟨P, 0, none⟩) (Nat.le_refl _) (.int .i64 2)).setCell (p := ⟨P, 2, none⟩) (Nat.le_refl _) (.int .i64 (i : Nat))
    generalize (W0.setCell ⟨P, 0, none⟩ (.int .i64 2)).setCell ⟨P, 2, none⟩ (.int .i64 (i : Nat)) = W1 at *
    clear z0 z1 z2 f0 f2
    have hr := HR0.out
    have y1 : W1.cell? ⟨P, 1, none⟩ = some (.int .i64 (a : Int)) := hP.cell 1
    by_cases h19 : 19 < i - a
    · rw [if_pos (.inl h19)] at hr
      have HR := Lib.hid hr; clear hr HR0
      have t9 : decide ((19 : Int) < (i : Int) - (a : Int)) = true := by simp; omega
      go_upto_region 16 with (fail)
      clear y1
      obtain ⟨T, hT⟩ : ∃ T : Tk, T = ⟨2, a, i, 0, 0, []⟩ := ⟨_, rfl⟩
      rw [← hT] at hP
      have HT := Lib.hid hT; clear hT
      have z0 : W1.cell? ⟨P, 0, none⟩ = some (.int .i64 T.kind) := hP.cell 0
      have q0 : W1.cell? ⟨R, 0, none⟩ = some (.int .i64 0) := hR.cell 0
      have p0 := hR.free 0
      have z1 : W1.cell? ⟨P, 1, none⟩ = some (.int .i64 T.pos) := hP.cell 1
      have q1 : W1.cell? ⟨R, 1, none⟩ = some (.int .i64 0) := hR.cell 1
      have p1 := hR.free 1
      have z2 : W1.cell? ⟨P, 2, none⟩ = some (.int .i64 T.next) := hP.cell 2
      have q2 : W1.cell? ⟨R, 2, none⟩ = some (.int .i64 0) := hR.cell 2
      have p2 := hR.free 2
      have z3 : W1.cell? ⟨P, 3, none⟩ = some (.int .i64 T.num) := hP.cell 3
      have q3 : W1.cell? ⟨R, 3, none⟩ = some (.int .i64 0) := hR.cell 3
      have p3 := hR.free 3
      have z4 : W1.cell? ⟨P, 4, none⟩ = some (.float .f64 T.flt) := hP.cell 4
      have q4 : W1.cell? ⟨R, 4, none⟩ = some (.float .f64 0) := hR.cell 4
      have p4 := hR.free 4
      have z5 : W1.cell? ⟨P, 5, none⟩ = some (.string ⟨T.str.toArray⟩) := hP.cell 5
      have q5 : W1.cell? ⟨R, 5, none⟩ = some (.string ⟨#[]⟩) := hR.cell 5
      have p5 := hR.free 5
      go_wp2_with fail
      change bodyPost _ _ _ _ _ (putTok W1 R T)
      have g1 := hR.putTok T
      have g3 : Below P w (putTok W1 R T) := putTok_below hB hPle _
      clear hR hB hP z0 z1 z2 z3 z4 z5 q0 q1 q2 q3 q4 q5 p0 p1 p2 p3 p4 p5
      generalize putTok W1 R T = WX at *
      have v0 : WX.cell? ⟨R, 0, none⟩ = some (.int .i64 T.kind) := g1.cell 0
      have v1 : WX.cell? ⟨R, 1, none⟩ = some (.int .i64 T.pos) := g1.cell 1
      have v2 : WX.cell? ⟨R, 2, none⟩ = some (.int .i64 T.next) := g1.cell 2
      have v3 : WX.cell? ⟨R, 3, none⟩ = some (.int .i64 T.num) := g1.cell 3
      have v4 : WX.cell? ⟨R, 4, none⟩ = some (.float .f64 T.flt) := g1.cell 4
      have v5 : WX.cell? ⟨R, 5, none⟩ = some (.string ⟨T.str.toArray⟩) := g1.cell 5
      refine bodyPost_ret (v := .tuple #[.agg (tokCells T), .int .i64 3]) (by simp [results, Tryz.results17, go_sem, tokCells_mk T, v0, v1, v2, v3, v4, v5]) rfl ?_
      exact ⟨T, by rw [HR.out], (fun h => by rw [HR.out] at h; cases h), by rw [HGH.out]; exact g3⟩
    · have t9 : decide ((19 : Int) < (i : Int) - (a : Int)) = false := by simp; omega
      clear hr
      go_wp2_with fail
      go_loop [10, 11] (fun nv kv => ∃ (k n : Nat), a ≤ k ∧ k ≤ i ∧ n ≤ 9999999999999999999 ∧ nv = .int .u64 n ∧ kv = .int .i64 k ∧ Hid (n = decVal (part s.data.toList a k))) (fun _ kv => i - (intOf kv).toNat)
      case atStart => exact ⟨a, 0, Nat.le_refl _, hak, by omega, rfl, rfl, by show _ = _; rw [part_self]; rfl⟩
      case round =>
        obtain ⟨k, n, hk1, hk2, hn, rfl, rfl, hv⟩ := hrel
        by_cases hlt : k < i
        · have hlt2 : k < s.size := by omega
          have t1 : decide ((k : Int) < (i : Int)) = true := by simp; omega
          have hd := HFD.out k hk1 hlt
          have hg0 : s[k]'hlt2 = s.data.toList.getD k 0 := by simp [List.getD, hlt2]; rfl
          rw [← hg0] at hd
          have hd2 : 48 ≤ (s[k]'hlt2).toNat ∧ (s[k]'hlt2).toNat ≤ 57 := of_decide_eq_true hd
          obtain ⟨d1, d2⟩ := hd2
          have hnb := HNB.out k hk2 (by omega)
          rw [← hv.out] at hnb
          have HV2 := Lib.hid (show n * 10 + ((s[k]'hlt2).toNat - 48) = decVal (part s.data.toList a (k + 1)) from by rw [part_snoc hk1 (by rw [HL.out]; exact hlt2), decVal_snoc, ← hv.out, hg0])
          clear hd hg0
          go_wp2
          go_round
          case rel => exact ⟨k + 1, n * 10 + ((s[k]'hlt2).toNat - 48), by omega, by omega, by omega, by congr 1; omega, by go_num, HV2.out⟩
          case measure => simp [intOf]; omega
        · have t1 : decide ((k : Int) < (i : Int)) = false := by simp; omega
          have hki : k = i := by omega
          subst hki
          have hr := HR0.out
          rw [← hv.out] at hr
          by_cases h63 : 9223372036854775808 ≤ n
          · rw [if_pos (.inr h63)] at hr
            have HR := Lib.hid hr; clear hr HR0
            have t3 : decide ((9223372036854775808 : Int) ≤ (n : Int)) = true := by simp; omega
            go_upto_region 23 with (fail)
            clear y1
            obtain ⟨T, hT⟩ : ∃ T : Tk, T = ⟨2, a, k, 0, 0, []⟩ := ⟨_, rfl⟩
            rw [← hT] at hP
            have HT := Lib.hid hT; clear hT
            have z0 : W1.cell? ⟨P, 0, none⟩ = some (.int .i64 T.kind) := hP.cell 0
            have q0 : W1.cell? ⟨R, 0, none⟩ = some (.int .i64 0) := hR.cell 0
            have p0 := hR.free 0
            have z1 : W1.cell? ⟨P, 1, none⟩ = some (.int .i64 T.pos) := hP.cell 1
            have q1 : W1.cell? ⟨R, 1, none⟩ = some (.int .i64 0) := hR.cell 1
            have p1 := hR.free 1
            have z2 : W1.cell? ⟨P, 2, none⟩ = some (.int .i64 T.next) := hP.cell 2
            have q2 : W1.cell? ⟨R, 2, none⟩ = some (.int .i64 0) := hR.cell 2
            have p2 := hR.free 2
            have z3 : W1.cell? ⟨P, 3, none⟩ = some (.int .i64 T.num) := hP.cell 3
            have q3 : W1.cell? ⟨R, 3, none⟩ = some (.int .i64 0) := hR.cell 3
            have p3 := hR.free 3
            have z4 : W1.cell? ⟨P, 4, none⟩ = some (.float .f64 T.flt) := hP.cell 4
            have q4 : W1.cell? ⟨R, 4, none⟩ = some (.float .f64 0) := hR.cell 4
            have p4 := hR.free 4
            have z5 : W1.cell? ⟨P, 5, none⟩ = some (.string ⟨T.str.toArray⟩) := hP.cell 5
            have q5 : W1.cell? ⟨R, 5, none⟩ = some (.string ⟨#[]⟩) := hR.cell 5
            have p5 := hR.free 5
            go_wp2_with fail
            change bodyPost _ _ _ _ _ (putTok W1 R T)
            have g1 := hR.putTok T
            have g3 : Below P w (putTok W1 R T) := putTok_below hB hPle _
            clear hR hB hP z0 z1 z2 z3 z4 z5 q0 q1 q2 q3 q4 q5 p0 p1 p2 p3 p4 p5
            generalize putTok W1 R T = WX at *
            have v0 : WX.cell? ⟨R, 0, none⟩ = some (.int .i64 T.kind) := g1.cell 0
            have v1 : WX.cell? ⟨R, 1, none⟩ = some (.int .i64 T.pos) := g1.cell 1
            have v2 : WX.cell? ⟨R, 2, none⟩ = some (.int .i64 T.next) := g1.cell 2
            have v3 : WX.cell? ⟨R, 3, none⟩ = some (.int .i64 T.num) := g1.cell 3
            have v4 : WX.cell? ⟨R, 4, none⟩ = some (.float .f64 T.flt) := g1.cell 4
            have v5 : WX.cell? ⟨R, 5, none⟩ = some (.string ⟨T.str.toArray⟩) := g1.cell 5
            refine bodyPost_ret (v := .tuple #[.agg (tokCells T), .int .i64 3]) (by simp [results, Tryz.results17, go_sem, tokCells_mk T, v0, v1, v2, v3, v4, v5]) rfl ?_
            exact ⟨T, by rw [HR.out], (fun h => by rw [HR.out] at h; cases h), by rw [HGH.out]; exact g3⟩
          · rw [if_neg (by omega)] at hr
            have HR := Lib.hid hr; clear hr HR0
            have t3 : decide ((9223372036854775808 : Int) ≤ (n : Int)) = false := by simp; omega
            have y3 : W1.cell? ⟨P, 3, none⟩ = some (.int .i64 0) := hP.cell 3
            have f3 := hP.free 3
            have hn63 : (n : Int) < 9223372036854775808 := by omega
            go_upto_region 25 with (fail)
            clear y1 y3 f3
            replace hP := hP.set (k' := ⟨2, a, k, n, 0, []⟩) 3 (.int .i64 (n : Nat)) rfl
            replace hR := hR.other ⟨P, 3, none⟩ (.int .i64 (n : Nat)) hRP
            replace hB := hB.setCell (p := ⟨P, 3, none⟩) (Nat.le_refl _) (.int .i64 (n : Nat))
            generalize W1.setCell ⟨P, 3, none⟩ (.int .i64 (n : Nat)) = W2 at *
            obtain ⟨T, hT⟩ : ∃ T : Tk, T = ⟨2, a, k, n, 0, []⟩ := ⟨_, rfl⟩
            rw [← hT] at hP
            have HT := Lib.hid hT; clear hT
            have z0 : W2.cell? ⟨P, 0, none⟩ = some (.int .i64 T.kind) := hP.cell 0
            have q0 : W2.cell? ⟨R, 0, none⟩ = some (.int .i64 0) := hR.cell 0
            have p0 := hR.free 0
            have z1 : W2.cell? ⟨P, 1, none⟩ = some (.int .i64 T.pos) := hP.cell 1
            have q1 : W2.cell? ⟨R, 1, none⟩ = some (.int .i64 0) := hR.cell 1
            have p1 := hR.free 1
            have z2 : W2.cell? ⟨P, 2, none⟩ = some (.int .i64 T.next) := hP.cell 2
            have q2 : W2.cell? ⟨R, 2, none⟩ = some (.int .i64 0) := hR.cell 2
            have p2 := hR.free 2
            have z3 : W2.cell? ⟨P, 3, none⟩ = some (.int .i64 T.num) := hP.cell 3
            have q3 : W2.cell? ⟨R, 3, none⟩ = some (.int .i64 0) := hR.cell 3
            have p3 := hR.free 3
            have z4 : W2.cell? ⟨P, 4, none⟩ = some (.float .f64 T.flt) := hP.cell 4
            have q4 : W2.cell? ⟨R, 4, none⟩ = some (.float .f64 0) := hR.cell 4
            have p4 := hR.free 4
            have z5 : W2.cell? ⟨P, 5, none⟩ = some (.string ⟨T.str.toArray⟩) := hP.cell 5
            have q5 : W2.cell? ⟨R, 5, none⟩ = some (.string ⟨#[]⟩) := hR.cell 5
            have p5 := hR.free 5
            go_wp2_with fail
            change bodyPost _ _ _ _ _ (putTok W2 R T)
            have g1 := hR.putTok T
            have g3 : Below P w (putTok W2 R T) := putTok_below hB hPle _
            clear hR hB hP z0 z1 z2 z3 z4 z5 q0 q1 q2 q3 q4 q5 p0 p1 p2 p3 p4 p5
            generalize putTok W2 R T = WX at *
            have v0 : WX.cell? ⟨R, 0, none⟩ = some (.int .i64 T.kind) := g1.cell 0
            have v1 : WX.cell? ⟨R, 1, none⟩ = some (.int .i64 T.pos) := g1.cell 1
            have v2 : WX.cell? ⟨R, 2, none⟩ = some (.int .i64 T.next) := g1.cell 2
            have v3 : WX.cell? ⟨R, 3, none⟩ = some (.int .i64 T.num) := g1.cell 3
            have v4 : WX.cell? ⟨R, 4, none⟩ = some (.float .f64 T.flt) := g1.cell 4
            have v5 : WX.cell? ⟨R, 5, none⟩ = some (.string ⟨T.str.toArray⟩) := g1.cell 5
            refine bodyPost_ret (v := .tuple #[.agg (tokCells T), .int .i64 0]) (by simp [results, Tryz.results17, go_sem, tokCells_mk T, v0, v1, v2, v3, v4, v5]) rfl ?_
            exact ⟨T, by rw [HR.out], (fun _ => by rw [HR.out]; exact HT.out), by rw [HGH.out]; exact g3⟩

theorem rnumber_any (s : ByteArray) (hs : s.size ≤ 1000000) (a : Nat) (ha : a ≤ s.size) (w : World) :
    Calls Tryz.prog 17 #[.string s, .agg (tokCells ⟨1, a, a, 0, 0, []⟩)] w (RefTok (numS s.data.toList a) w) := by
  by_cases hp : s.data.toList[a + far isDig s.data.toList a]? = some 112
  · by_cases hm : s.data.toList[a + far isDig s.data.toList a + 1]? = some 45
    · exact rnumber_p1 s hs a ha w hp hm
    · exact rnumber_p0 s hs a ha w hp hm
  · exact rnumber_i s hs a ha w hp
end Go.Proofs.YtkcbkfflabkcgaaGreatDoor
