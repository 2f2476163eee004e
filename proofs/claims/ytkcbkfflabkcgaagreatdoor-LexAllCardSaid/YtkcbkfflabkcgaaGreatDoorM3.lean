/-
  The walk of the references' number.
-/
import Derived.Test.YtkcbkfflabkcgaaGreatDoorM2
namespace Go.Proofs.YtkcbkfflabkcgaaGreatDoor
open Go.RowKit

theorem part_take {l : List UInt8} {a k e : Nat} (h : k ≤ e) : part l a k = (part l a e).take (k - a) := by
  unfold part
  rw [List.take_take, Nat.min_eq_left (by omega)]
theorem part_digs {l : List UInt8} {a k : Nat} (hk : k ≤ a + far isDig l a) : (part l a k).all isDig = true := by
  rw [part_take hk]
  have h := part_all isDig l a
  rw [List.all_eq_true] at h ⊢
  exact fun x hx => h x (List.mem_of_mem_take hx)
theorem far_dig {l : List UInt8} {a k : Nat} (hak : a ≤ k) (hk : k < a + far isDig l a) (ha : a ≤ l.length) : isDig (l.getD k 0) = true := by
  have hle := far_le isDig l ha
  have h := part_digs (l := l) (a := a) (k := k + 1) (by omega)
  rw [part_snoc hak (by omega), List.all_append, Bool.and_eq_true] at h
  simpa using h.2
theorem num_bound {l : List UInt8} {a k : Nat} (hk : k ≤ a + far isDig l a) (ha : a ≤ l.length) (h : k - a ≤ 18) : decVal (part l a k) ≤ 999999999999999999 := by
  have hle := far_le isDig l ha
  have h1 := decVal_lt _ (part_digs hk)
  rw [part_length (by omega)] at h1
  have h2 : 10 ^ (k - a) ≤ 10 ^ 18 := Nat.pow_le_pow_right (by decide) h
  have h3 : (10 : Nat) ^ 18 = 1000000000000000000 := by decide
  omega

set_option maxRecDepth 100000 in
set_option maxHeartbeats 600000 in
theorem rnumber_p1 (s : ByteArray) (hs : s.size ≤ 1000000) (a : Nat) (ha : a ≤ s.size) (w : World) (hp : s.data.toList[a + far isDig s.data.toList a]? = some 112) (hm : s.data.toList[a + far isDig s.data.toList a + 1]? = some 45) :
    Calls Tryz.prog 17 #[.string s, .agg (tokCells ⟨1, a, a, 0, 0, []⟩)] w (RefTok (numS s.data.toList a) w) := by
  have hl : s.data.toList.length = s.size := by simp
  have HL := Lib.hid hl
  have hr := numS.eq_def s.data.toList a
  simp only at hr
  rw [if_pos hp] at hr
  have HR0 := Lib.hid hr; clear hr
  obtain ⟨hi, h112⟩ := (at_byte s _ 112).1 hp
  have HRun := Lib.hid (rrun_any s hs)
  have HRA := Lib.hid (rrun_any s hs a ha)
  generalize hai : a + far isDig s.data.toList a = i at *
  have hak : a ≤ i := by omega
  clear hai
  have h112' : (((s[i]'hi).toNat : Int) == 112) = true := h112
  have hi2 : decide ((i : Int) < (s.size : Int)) = true := by simp; omega
  clear hp h112
  have hst := store_float
  have hP : TokAt w.heap.size ⟨1, a, a, 0, 0, []⟩ ((w.alloc (.cells #[.int .i64 1, .int .i64 a, .int .i64 a, .int .i64 0, .float .f64 0, .string ⟨#[]⟩] 25)).alloc (.cells #[.int .i64 0, .int .i64 0, .int .i64 0, .int .i64 0, .float .f64 0, .string ⟨#[]⟩] 25)) := TokAt.kept (w := w.alloc (.cells #[.int .i64 1, .int .i64 a, .int .i64 a, .int .i64 0, .float .f64 0, .string ⟨#[]⟩] 25)) (heap_alloc_new w _) ((Fr.refl [] _).alloc _) (by simp)
  have hR : TokAt (w.heap.size + 1) noTk ((w.alloc (.cells #[.int .i64 1, .int .i64 a, .int .i64 a, .int .i64 0, .float .f64 0, .string ⟨#[]⟩] 25)).alloc (.cells #[.int .i64 0, .int .i64 0, .int .i64 0, .int .i64 0, .float .f64 0, .string ⟨#[]⟩] 25)) := by
    have := heap_alloc_new (w.alloc (.cells #[.int .i64 1, .int .i64 a, .int .i64 a, .int .i64 0, .float .f64 0, .string ⟨#[]⟩] 25)) (.cells #[.int .i64 0, .int .i64 0, .int .i64 0, .int .i64 0, .float .f64 0, .string ⟨#[]⟩] 25)
    simpa [TokAt, tokCells, noTk] using this
  have hB : Below w.heap.size w ((w.alloc (.cells #[.int .i64 1, .int .i64 a, .int .i64 a, .int .i64 0, .float .f64 0, .string ⟨#[]⟩] 25)).alloc (.cells #[.int .i64 0, .int .i64 0, .int .i64 0, .int .i64 0, .float .f64 0, .string ⟨#[]⟩] 25)) := ((Below.refl _ _).alloc (Nat.le_refl _) _).alloc (by simp) _
  have hPR : w.heap.size ≠ w.heap.size + 1 := by omega
  have hRP : w.heap.size + 1 ≠ w.heap.size := by omega
  have hPle : w.heap.size ≤ w.heap.size + 1 := by omega
  rw [tokCells_mk]
  go_enter Tryz.func17, Tryz.ntmps17
  go_wp2_with fail
  generalize ((w.alloc (.cells #[.int .i64 1, .int .i64 a, .int .i64 a, .int .i64 0, .float .f64 0, .string ⟨#[]⟩] 25)).alloc (.cells #[.int .i64 0, .int .i64 0, .int .i64 0, .int .i64 0, .float .f64 0, .string ⟨#[]⟩] 25)) = W0 at *
  generalize hgr : w.heap.size + 1 = R at *
  clear hgr
  generalize hgh : w.heap.size = P at *
  have HGH := Lib.hid hgh; clear hgh
  have z1 : W0.cell? ⟨P, 1, none⟩ = some (.int .i64 (a : Int)) := hP.cell 1
  go_wp2_with fail
  refine (HRA.out _).mono ?_; rintro e w' ⟨rfl, rfl⟩
  rw [if_pos hm] at HR0
  obtain ⟨hm1, hm2⟩ := (at_byte s _ 45).1 hm
  have hi3 : decide (((i + 1 : Nat) : Int) < (s.size : Int)) = true := by simp; omega
  have hms : i + 1 + 1 ≤ s.size := by omega
  clear hm
  go_upto_region 4 with (fail)
  rw [show ((i : Int) + 1) = ((i + 1 : Nat) : Int) by omega]
  have hi21 : i + 2 = i + 1 + 1 := by omega
  rw [hi21] at HR0
  clear hi21
  have ham : a ≤ i + 1 := by omega
  generalize hm0 : i + 1 = m at *
  have hm2' : (((s[m]'hm1).toNat : Int) == 45) = true := hm2
  clear hm0 hm2
  go_wp2_with fail
  rw [show ((m : Int) + 1) = ((m + 1 : Nat) : Int) by omega]
  have haj : a ≤ m + 1 := by omega
  generalize hj : m + 1 = j at *
  have hjs : j ≤ s.size := hms
  clear hj
  have hfw := far_le isDig s.data.toList (a := j) (by rw [HL.out]; omega)
  rw [HL.out] at hfw
  have HV := Lib.hid (HRun.out j (by omega))
  have hlen := part_length (l := s.data.toList) (a := a) (e := j + far isDig s.data.toList j) (by rw [HL.out]; exact hfw)
  have hfj := Lib.hid (Eq.refl (far isDig s.data.toList j))
  generalize hF : far isDig s.data.toList j = fj at *
  clear hfj hF
  generalize hc : j + fj = c at *
  have hjc : j ≤ c := by omega
  have hjc2 : c - j = fj := by omega
  clear hc
  refine (HV.out _).mono ?_; rintro e w' ⟨rfl, rfl⟩
  have z2 : W0.cell? ⟨P, 2, none⟩ = some (.int .i64 (a : Int)) := hP.cell 2
  have f2 := hP.free 2
  go_upto_region 7 with (fail)
  replace hP := hP.set (k' := ⟨1, a, c, 0, 0, []⟩) 2 (.int .i64 (c : Nat)) rfl
  replace hR := hR.other ⟨P, 2, none⟩ (.int .i64 (c : Nat)) hRP
  replace hB := hB.setCell (p := ⟨P, 2, none⟩) (Nat.le_refl _) (.int .i64 (c : Nat))
  generalize W0.setCell ⟨P, 2, none⟩ (.int .i64 (c : Nat)) = W1 at *
  have z0 : W1.cell? ⟨P, 0, none⟩ = some (.int .i64 1) := hP.cell 0
  have y1 : W1.cell? ⟨P, 1, none⟩ = some (.int .i64 (a : Int)) := hP.cell 1
  have z2 : W1.cell? ⟨P, 2, none⟩ = some (.int .i64 (c : Int)) := hP.cell 2
  have f0 := hP.free 0
  have hr := HR0.out
  by_cases hz : fj = 0
  · rw [if_pos hz] at hr
    have HR := Lib.hid hr; clear hr HR0
    have t7 : ((c : Int) == (j : Int)) = true := by rw [beq_iff_eq]; omega
    have ht7 : c = j := by omega
    have T7 := Lib.hid ht7; clear ht7 hz
    go_upto_region 8 with (fail)
    clear z0 y1 z2 f0 t7
    obtain ⟨T, hT⟩ : ∃ T : Tk, T = ⟨1, a, c, 0, 0, []⟩ := ⟨_, rfl⟩
    rw [← hT] at hP
    have HT := Lib.hid hT; clear hT
    have z0 : W1.cell? ⟨P, 0, none⟩ = some (.int .i64 T.kind) := hP.cell 0
    have q0 : W1.cell? ⟨R, 0, none⟩ = some (.int .i64 0) := hR.cell 0
    have p0 := hR.free 0
    have z1 : W1.cell? ⟨P, 1, none⟩ = some (.int .i64 T.pos) := hP.cell 1
    have q1 : W1.cell? ⟨R, 1, none⟩ = some (.int .i64 0) := hR.cell 1
    have p1 := hR.free 1
    have z2 : W1.cell? ⟨P, 2, none⟩ = some (.int .i64 T.next) := hP.cell 2
    have q2 : W1.cell? ⟨R, 2, none⟩ = some (.int .i64 0) := hR.cell 2
    have p2 := hR.free 2
    have z3 : W1.cell? ⟨P, 3, none⟩ = some (.int .i64 T.num) := hP.cell 3
    have q3 : W1.cell? ⟨R, 3, none⟩ = some (.int .i64 0) := hR.cell 3
    have p3 := hR.free 3
    have z4 : W1.cell? ⟨P, 4, none⟩ = some (.float .f64 T.flt) := hP.cell 4
    have q4 : W1.cell? ⟨R, 4, none⟩ = some (.float .f64 0) := hR.cell 4
    have p4 := hR.free 4
    have z5 : W1.cell? ⟨P, 5, none⟩ = some (.string ⟨T.str.toArray⟩) := hP.cell 5
    have q5 : W1.cell? ⟨R, 5, none⟩ = some (.string ⟨#[]⟩) := hR.cell 5
    have p5 := hR.free 5
    go_wp2_with fail
    change bodyPost _ _ _ _ _ (putTok W1 R T)
    have g1 := hR.putTok T
    have g3 : Below P w (putTok W1 R T) := putTok_below hB hPle _
    clear hR hB hP z0 z1 z2 z3 z4 z5 q0 q1 q2 q3 q4 q5 p0 p1 p2 p3 p4 p5
    generalize putTok W1 R T = WX at *
    have v0 : WX.cell? ⟨R, 0, none⟩ = some (.int .i64 T.kind) := g1.cell 0
    have v1 : WX.cell? ⟨R, 1, none⟩ = some (.int .i64 T.pos) := g1.cell 1
    have v2 : WX.cell? ⟨R, 2, none⟩ = some (.int .i64 T.next) := g1.cell 2
    have v3 : WX.cell? ⟨R, 3, none⟩ = some (.int .i64 T.num) := g1.cell 3
    have v4 : WX.cell? ⟨R, 4, none⟩ = some (.float .f64 T.flt) := g1.cell 4
    have v5 : WX.cell? ⟨R, 5, none⟩ = some (.string ⟨T.str.toArray⟩) := g1.cell 5
    refine bodyPost_ret (v := .tuple #[.agg (tokCells T), .int .i64 5]) (by simp [results, Tryz.results17, go_sem, tokCells_mk T, v0, v1, v2, v3, v4, v5]) rfl ?_
    exact ⟨T, by rw [HR.out], (fun h => by rw [HR.out] at h; cases h), by rw [HGH.out]; exact g3⟩
  · rw [if_neg hz] at hr
    have HR := Lib.hid hr; clear hr HR0
    have t7 : ((c : Int) == (j : Int)) = false := by rw [beq_eq_false_iff_ne]; omega
    have hx := part_bytes s a c
    have HPr := Lib.hid (rparse_any (part s.data.toList a c) (by omega))
    generalize part s.data.toList a c = q at *
    have HX := Lib.hid hx; clear hx
    have w3' : (c : Int) ≤ (s.size : Int) := by omega
    have w5' : (a : Int) ≤ (c : Int) := by omega
    clear hz
    have hx := HX.out
    go_wp2_with fail
    clear hx
    refine (HPr.out _).mono ?_; rintro e w3 ⟨rfl, hb3⟩
    have hB3 : Below P w w3 := hB.trans (hb3.mono (by have := hB.size; rw [HGH.out] at this; exact this))
    clear hB
    have hB := hB3
    clear hB3
    replace hP := hP.belowP hb3
    replace hR := hR.belowP hb3
    clear z0 z2 f0 y1
    have z0 : w3.cell? ⟨P, 0, none⟩ = some (.int .i64 1) := hP.cell 0
    have f0 := hP.free 0
    have z4 : w3.cell? ⟨P, 4, none⟩ = some (.float .f64 0) := hP.cell 4
    have f4 := hP.free 4
    generalize (parseB q).1 = x at *
    generalize (parseB q).2 = y at *
    go_upto_region 12 with (fail)
    replace hP := (hP.set (k' := ⟨3, a, c, 0, 0, []⟩) 0 (.int .i64 3) rfl).set (k' := ⟨3, a, c, 0, x, []⟩) 4 (.float .f64 x) rfl
    replace hR := (hR.other ⟨P, 0, none⟩ (.int .i64 3) hRP).other ⟨P, 4, none⟩ (.float .f64 x) hRP
    replace hB := (hB.setCell (p := ⟨P, 0, none⟩) (Nat.le_refl _) (.int .i64 3)).setCell (p := ⟨P, 4, none⟩) (Nat.le_refl _) (.float .f64 x)
    generalize (w3.setCell ⟨P, 0, none⟩ (.int .i64 3)).setCell ⟨P, 4, none⟩ (.float .f64 x) = W4 at *
    clear z0 z4 f0 f4
    obtain ⟨T, hT⟩ : ∃ T : Tk, T = ⟨3, a, c, 0, x, []⟩ := ⟨_, rfl⟩
    rw [← hT] at hP
    have HT := Lib.hid hT; clear hT
    have z0 : W4.cell? ⟨P, 0, none⟩ = some (.int .i64 T.kind) := hP.cell 0
    have q0 : W4.cell? ⟨R, 0, none⟩ = some (.int .i64 0) := hR.cell 0
    have p0 := hR.free 0
    have z1 : W4.cell? ⟨P, 1, none⟩ = some (.int .i64 T.pos) := hP.cell 1
    have q1 : W4.cell? ⟨R, 1, none⟩ = some (.int .i64 0) := hR.cell 1
    have p1 := hR.free 1
    have z2 : W4.cell? ⟨P, 2, none⟩ = some (.int .i64 T.next) := hP.cell 2
    have q2 : W4.cell? ⟨R, 2, none⟩ = some (.int .i64 0) := hR.cell 2
    have p2 := hR.free 2
    have z3 : W4.cell? ⟨P, 3, none⟩ = some (.int .i64 T.num) := hP.cell 3
    have q3 : W4.cell? ⟨R, 3, none⟩ = some (.int .i64 0) := hR.cell 3
    have p3 := hR.free 3
    have z4 : W4.cell? ⟨P, 4, none⟩ = some (.float .f64 T.flt) := hP.cell 4
    have q4 : W4.cell? ⟨R, 4, none⟩ = some (.float .f64 0) := hR.cell 4
    have p4 := hR.free 4
    have z5 : W4.cell? ⟨P, 5, none⟩ = some (.string ⟨T.str.toArray⟩) := hP.cell 5
    have q5 : W4.cell? ⟨R, 5, none⟩ = some (.string ⟨#[]⟩) := hR.cell 5
    have p5 := hR.free 5
    go_wp2_with fail
    change bodyPost _ _ _ _ _ (putTok W4 R T)
    have g1 := hR.putTok T
    have g3 : Below P w (putTok W4 R T) := putTok_below hB hPle _
    clear hR hB hP z0 z1 z2 z3 z4 z5 q0 q1 q2 q3 q4 q5 p0 p1 p2 p3 p4 p5
    generalize putTok W4 R T = WX at *
    have v0 : WX.cell? ⟨R, 0, none⟩ = some (.int .i64 T.kind) := g1.cell 0
    have v1 : WX.cell? ⟨R, 1, none⟩ = some (.int .i64 T.pos) := g1.cell 1
    have v2 : WX.cell? ⟨R, 2, none⟩ = some (.int .i64 T.next) := g1.cell 2
    have v3 : WX.cell? ⟨R, 3, none⟩ = some (.int .i64 T.num) := g1.cell 3
    have v4 : WX.cell? ⟨R, 4, none⟩ = some (.float .f64 T.flt) := g1.cell 4
    have v5 : WX.cell? ⟨R, 5, none⟩ = some (.string ⟨T.str.toArray⟩) := g1.cell 5
    refine bodyPost_ret (v := .tuple #[.agg (tokCells T), .int .i64 y]) (by simp [results, Tryz.results17, go_sem, tokCells_mk T, v0, v1, v2, v3, v4, v5]) rfl ?_
    exact ⟨T, by rw [HR.out], (fun _ => by rw [HR.out]; exact HT.out), by rw [HGH.out]; exact g3⟩

set_option maxRecDepth 100000 in
set_option maxHeartbeats 600000 in
theorem rnumber_p0 (s : ByteArray) (hs : s.size ≤ 1000000) (a : Nat) (ha : a ≤ s.size) (w : World) (hp : s.data.toList[a + far isDig s.data.toList a]? = some 112) (hm : ¬ s.data.toList[a + far isDig s.data.toList a + 1]? = some 45) :
    Calls Tryz.prog 17 #[.string s, .agg (tokCells ⟨1, a, a, 0, 0, []⟩)] w (RefTok (numS s.data.toList a) w) := by
  have hl : s.data.toList.length = s.size := by simp
  have HL := Lib.hid hl
  have hr := numS.eq_def s.data.toList a
  simp only at hr
  rw [if_pos hp] at hr
  have HR0 := Lib.hid hr; clear hr
  obtain ⟨hi, h112⟩ := (at_byte s _ 112).1 hp
  have HRun := Lib.hid (rrun_any s hs)
  have HRA := Lib.hid (rrun_any s hs a ha)
  generalize hai : a + far isDig s.data.toList a = i at *
  have hak : a ≤ i := by omega
  clear hai
  have h112' : (((s[i]'hi).toNat : Int) == 112) = true := h112
  have hi2 : decide ((i : Int) < (s.size : Int)) = true := by simp; omega
  clear hp h112
  have hst := store_float
  have hP : TokAt w.heap.size ⟨1, a, a, 0, 0, []⟩ ((w.alloc (.cells #[.int .i64 1, .int .i64 a, .int .i64 a, .int .i64 0, .float .f64 0, .string ⟨#[]⟩] 25)).alloc (.cells #[.int .i64 0, .int .i64 0, .int .i64 0, .int .i64 0, .float .f64 0, .string ⟨#[]⟩] 25)) := TokAt.kept (w := w.alloc (.cells #[.int .i64 1, .int .i64 a, .int .i64 a, .int .i64 0, .float .f64 0, .string ⟨#[]⟩] 25)) (heap_alloc_new w _) ((Fr.refl [] _).alloc _) (by simp)
  have hR : TokAt (w.heap.size + 1) noTk ((w.alloc (.cells #[.int .i64 1, .int .i64 a, .int .i64 a, .int .i64 0, .float .f64 0, .string ⟨#[]⟩] 25)).alloc (.cells #[.int .i64 0, .int .i64 0, .int .i64 0, .int .i64 0, .float .f64 0, .string ⟨#[]⟩] 25)) := by
    have := heap_alloc_new (w.alloc (.cells #[.int .i64 1, .int .i64 a, .int .i64 a, .int .i64 0, .float .f64 0, .string ⟨#[]⟩] 25)) (.cells #[.int .i64 0, .int .i64 0, .int .i64 0, .int .i64 0, .float .f64 0, .string ⟨#[]⟩] 25)
    simpa [TokAt, tokCells, noTk] using this
  have hB : Below w.heap.size w ((w.alloc (.cells #[.int .i64 1, .int .i64 a, .int .i64 a, .int .i64 0, .float .f64 0, .string ⟨#[]⟩] 25)).alloc (.cells #[.int .i64 0, .int .i64 0, .int .i64 0, .int .i64 0, .float .f64 0, .string ⟨#[]⟩] 25)) := ((Below.refl _ _).alloc (Nat.le_refl _) _).alloc (by simp) _
  have hPR : w.heap.size ≠ w.heap.size + 1 := by omega
  have hRP : w.heap.size + 1 ≠ w.heap.size := by omega
  have hPle : w.heap.size ≤ w.heap.size + 1 := by omega
  rw [tokCells_mk]
  go_enter Tryz.func17, Tryz.ntmps17
  go_wp2_with fail
  generalize ((w.alloc (.cells #[.int .i64 1, .int .i64 a, .int .i64 a, .int .i64 0, .float .f64 0, .string ⟨#[]⟩] 25)).alloc (.cells #[.int .i64 0, .int .i64 0, .int .i64 0, .int .i64 0, .float .f64 0, .string ⟨#[]⟩] 25)) = W0 at *
  generalize hgr : w.heap.size + 1 = R at *
  clear hgr
  generalize hgh : w.heap.size = P at *
  have HGH := Lib.hid hgh; clear hgh
  have z1 : W0.cell? ⟨P, 1, none⟩ = some (.int .i64 (a : Int)) := hP.cell 1
  go_wp2_with fail
  refine (HRA.out _).mono ?_; rintro e w' ⟨rfl, rfl⟩
  rw [if_neg hm] at HR0
  have hno := noByte hm
  clear hm
  go_upto_region 4 with (fail)
  rw [show ((i : Int) + 1) = ((i + 1 : Nat) : Int) by omega]
  have haj : a ≤ i + 1 := by omega
  have hjs : i + 1 ≤ s.size := by omega
  generalize hj : i + 1 = j at *
  clear hj
  rcases hno with ⟨hn1, hn2⟩ | ⟨hn1, hn2⟩
  · go_wp2_with fail
    have hfw := far_le isDig s.data.toList (a := j) (by rw [HL.out]; omega)
    rw [HL.out] at hfw
    have HV := Lib.hid (HRun.out j (by omega))
    have hlen := part_length (l := s.data.toList) (a := a) (e := j + far isDig s.data.toList j) (by rw [HL.out]; exact hfw)
    have hfj := Lib.hid (Eq.refl (far isDig s.data.toList j))
    generalize hF : far isDig s.data.toList j = fj at *
    clear hfj hF
    generalize hc : j + fj = c at *
    have hjc : j ≤ c := by omega
    have hjc2 : c - j = fj := by omega
    clear hc
    refine (HV.out _).mono ?_; rintro e w' ⟨rfl, rfl⟩
    have z2 : W0.cell? ⟨P, 2, none⟩ = some (.int .i64 (a : Int)) := hP.cell 2
    have f2 := hP.free 2
    go_upto_region 7 with (fail)
    replace hP := hP.set (k' := ⟨1, a, c, 0, 0, []⟩) 2 (.int .i64 (c : Nat)) rfl
    replace hR := hR.other ⟨P, 2, none⟩ (.int .i64 (c : Nat)) hRP
    replace hB := hB.setCell (p := ⟨P, 2, none⟩) (Nat.le_refl _) (.int .i64 (c : Nat))
    generalize W0.setCell ⟨P, 2, none⟩ (.int .i64 (c : Nat)) = W1 at *
    have z0 : W1.cell? ⟨P, 0, none⟩ = some (.int .i64 1) := hP.cell 0
    have y1 : W1.cell? ⟨P, 1, none⟩ = some (.int .i64 (a : Int)) := hP.cell 1
    have z2 : W1.cell? ⟨P, 2, none⟩ = some (.int .i64 (c : Int)) := hP.cell 2
    have f0 := hP.free 0
    have hr := HR0.out
    by_cases hz : fj = 0
    · rw [if_pos hz] at hr
      have HR := Lib.hid hr; clear hr HR0
      have t7 : ((c : Int) == (j : Int)) = true := by rw [beq_iff_eq]; omega
      have ht7 : c = j := by omega
      have T7 := Lib.hid ht7; clear ht7 hz
      go_upto_region 8 with (fail)
      clear z0 y1 z2 f0 t7
      obtain ⟨T, hT⟩ : ∃ T : Tk, T = ⟨1, a, c, 0, 0, []⟩ := ⟨_, rfl⟩
      rw [← hT] at hP
      have HT := Lib.hid hT; clear hT
      have z0 : W1.cell? ⟨P, 0, none⟩ = some (.int .i64 T.kind) := hP.cell 0
      have q0 : W1.cell? ⟨R, 0, none⟩ = some (.int .i64 0) := hR.cell 0
      have p0 := hR.free 0
      have z1 : W1.cell? ⟨P, 1, none⟩ = some (.int .i64 T.pos) := hP.cell 1
      have q1 : W1.cell? ⟨R, 1, none⟩ = some (.int .i64 0) := hR.cell 1
      have p1 := hR.free 1
      have z2 : W1.cell? ⟨P, 2, none⟩ = some (.int .i64 T.next) := hP.cell 2
      have q2 : W1.cell? ⟨R, 2, none⟩ = some (.int .i64 0) := hR.cell 2
      have p2 := hR.free 2
      have z3 : W1.cell? ⟨P, 3, none⟩ = some (.int .i64 T.num) := hP.cell 3
      have q3 : W1.cell? ⟨R, 3, none⟩ = some (.int .i64 0) := hR.cell 3
      have p3 := hR.free 3
      have z4 : W1.cell? ⟨P, 4, none⟩ = some (.float .f64 T.flt) := hP.cell 4
      have q4 : W1.cell? ⟨R, 4, none⟩ = some (.float .f64 0) := hR.cell 4
      have p4 := hR.free 4
      have z5 : W1.cell? ⟨P, 5, none⟩ = some (.string ⟨T.str.toArray⟩) := hP.cell 5
      have q5 : W1.cell? ⟨R, 5, none⟩ = some (.string ⟨#[]⟩) := hR.cell 5
      have p5 := hR.free 5
      go_wp2_with fail
      change bodyPost _ _ _ _ _ (putTok W1 R T)
      have g1 := hR.putTok T
      have g3 : Below P w (putTok W1 R T) := putTok_below hB hPle _
      clear hR hB hP z0 z1 z2 z3 z4 z5 q0 q1 q2 q3 q4 q5 p0 p1 p2 p3 p4 p5
      generalize putTok W1 R T = WX at *
      have v0 : WX.cell? ⟨R, 0, none⟩ = some (.int .i64 T.kind) := g1.cell 0
      have v1 : WX.cell? ⟨R, 1, none⟩ = some (.int .i64 T.pos) := g1.cell 1
      have v2 : WX.cell? ⟨R, 2, none⟩ = some (.int .i64 T.next) := g1.cell 2
      have v3 : WX.cell? ⟨R, 3, none⟩ = some (.int .i64 T.num) := g1.cell 3
      have v4 : WX.cell? ⟨R, 4, none⟩ = some (.float .f64 T.flt) := g1.cell 4
      have v5 : WX.cell? ⟨R, 5, none⟩ = some (.string ⟨T.str.toArray⟩) := g1.cell 5
      refine bodyPost_ret (v := .tuple #[.agg (tokCells T), .int .i64 5]) (by simp [results, Tryz.results17, go_sem, tokCells_mk T, v0, v1, v2, v3, v4, v5]) rfl ?_
      exact ⟨T, by rw [HR.out], (fun h => by rw [HR.out] at h; cases h), by rw [HGH.out]; exact g3⟩
    · rw [if_neg hz] at hr
      have HR := Lib.hid hr; clear hr HR0
      have t7 : ((c : Int) == (j : Int)) = false := by rw [beq_eq_false_iff_ne]; omega
      have hx := part_bytes s a c
      have HPr := Lib.hid (rparse_any (part s.data.toList a c) (by omega))
      generalize part s.data.toList a c = q at *
      have HX := Lib.hid hx; clear hx
      have w3' : (c : Int) ≤ (s.size : Int) := by omega
      have w5' : (a : Int) ≤ (c : Int) := by omega
      clear hz
      have hx := HX.out
      go_wp2_with fail
      clear hx
      refine (HPr.out _).mono ?_; rintro e w3 ⟨rfl, hb3⟩
      have hB3 : Below P w w3 := hB.trans (hb3.mono (by have := hB.size; rw [HGH.out] at this; exact this))
      clear hB
      have hB := hB3
      clear hB3
      replace hP := hP.belowP hb3
      replace hR := hR.belowP hb3
      clear z0 z2 f0 y1
      have z0 : w3.cell? ⟨P, 0, none⟩ = some (.int .i64 1) := hP.cell 0
      have f0 := hP.free 0
      have z4 : w3.cell? ⟨P, 4, none⟩ = some (.float .f64 0) := hP.cell 4
      have f4 := hP.free 4
      generalize (parseB q).1 = x at *
      generalize (parseB q).2 = y at *
      go_upto_region 12 with (fail)
      replace hP := (hP.set (k' := ⟨3, a, c, 0, 0, []⟩) 0 (.int .i64 3) rfl).set (k' := ⟨3, a, c, 0, x, []⟩) 4 (.float .f64 x) rfl
      replace hR := (hR.other ⟨P, 0, none⟩ (.int .i64 3) hRP).other ⟨P, 4, none⟩ (.float .f64 x) hRP
      replace hB := (hB.setCell (p := ⟨P, 0, none⟩) (Nat.le_refl _) (.int .i64 3)).setCell (p := ⟨P, 4, none⟩) (Nat.le_refl _) (.float .f64 x)
      generalize (w3.setCell ⟨P, 0, none⟩ (.int .i64 3)).setCell ⟨P, 4, none⟩ (.float .f64 x) = W4 at *
      clear z0 z4 f0 f4
      obtain ⟨T, hT⟩ : ∃ T : Tk, T = ⟨3, a, c, 0, x, []⟩ := ⟨_, rfl⟩
      rw [← hT] at hP
      have HT := Lib.hid hT; clear hT
      have z0 : W4.cell? ⟨P, 0, none⟩ = some (.int .i64 T.kind) := hP.cell 0
      have q0 : W4.cell? ⟨R, 0, none⟩ = some (.int .i64 0) := hR.cell 0
      have p0 := hR.free 0
      have z1 : W4.cell? ⟨P, 1, none⟩ = some (.int .i64 T.pos) := hP.cell 1
      have q1 : W4.cell? ⟨R, 1, none⟩ = some (.int .i64 0) := hR.cell 1
      have p1 := hR.free 1
      have z2 : W4.cell? ⟨P, 2, none⟩ = some (.int .i64 T.next) := hP.cell 2
      have q2 : W4.cell? ⟨R, 2, none⟩ = some (.int .i64 0) := hR.cell 2
      have p2 := hR.free 2
      have z3 : W4.cell? ⟨P, 3, none⟩ = some (.int .i64 T.num) := hP.cell 3
      have q3 : W4.cell? ⟨R, 3, none⟩ = some (.int .i64 0) := hR.cell 3
      have p3 := hR.free 3
      have z4 : W4.cell? ⟨P, 4, none⟩ = some (.float .f64 T.flt) := hP.cell 4
      have q4 : W4.cell? ⟨R, 4, none⟩ = some (.float .f64 0) := hR.cell 4
      have p4 := hR.free 4
      have z5 : W4.cell? ⟨P, 5, none⟩ = some (.string ⟨T.str.toArray⟩) := hP.cell 5
      have q5 : W4.cell? ⟨R, 5, none⟩ = some (.string ⟨#[]⟩) := hR.cell 5
      have p5 := hR.free 5
      go_wp2_with fail
      change bodyPost _ _ _ _ _ (putTok W4 R T)
      have g1 := hR.putTok T
      have g3 : Below P w (putTok W4 R T) := putTok_below hB hPle _
      clear hR hB hP z0 z1 z2 z3 z4 z5 q0 q1 q2 q3 q4 q5 p0 p1 p2 p3 p4 p5
      generalize putTok W4 R T = WX at *
      have v0 : WX.cell? ⟨R, 0, none⟩ = some (.int .i64 T.kind) := g1.cell 0
      have v1 : WX.cell? ⟨R, 1, none⟩ = some (.int .i64 T.pos) := g1.cell 1
      have v2 : WX.cell? ⟨R, 2, none⟩ = some (.int .i64 T.next) := g1.cell 2
      have v3 : WX.cell? ⟨R, 3, none⟩ = some (.int .i64 T.num) := g1.cell 3
      have v4 : WX.cell? ⟨R, 4, none⟩ = some (.float .f64 T.flt) := g1.cell 4
      have v5 : WX.cell? ⟨R, 5, none⟩ = some (.string ⟨T.str.toArray⟩) := g1.cell 5
      refine bodyPost_ret (v := .tuple #[.agg (tokCells T), .int .i64 y]) (by simp [results, Tryz.results17, go_sem, tokCells_mk T, v0, v1, v2, v3, v4, v5]) rfl ?_
      exact ⟨T, by rw [HR.out], (fun _ => by rw [HR.out]; exact HT.out), by rw [HGH.out]; exact g3⟩
  · have hn3 : decide ((j : Int) < (s.size : Int)) = true := by simp; omega
    have hn2' : (((s[j]'hn1).toNat : Int) == 45) = false := hn2
    clear hn2
    go_wp2_with fail
    have hfw := far_le isDig s.data.toList (a := j) (by rw [HL.out]; omega)
    rw [HL.out] at hfw
    have HV := Lib.hid (HRun.out j (by omega))
    have hlen := part_length (l := s.data.toList) (a := a) (e := j + far isDig s.data.toList j) (by rw [HL.out]; exact hfw)
    have hfj := Lib.hid (Eq.refl (far isDig s.data.toList j))
    generalize hF : far isDig s.data.toList j = fj at *
    clear hfj hF
    generalize hc : j + fj = c at *
    have hjc : j ≤ c := by omega
    have hjc2 : c - j = fj := by omega
    clear hc
    refine (HV.out _).mono ?_; rintro e w' ⟨rfl, rfl⟩
    have z2 : W0.cell? ⟨P, 2, none⟩ = some (.int .i64 (a : Int)) := hP.cell 2
    have f2 := hP.free 2
    go_upto_region 7 with (fail)
    replace hP := hP.set (k' := ⟨1, a, c, 0, 0, []⟩) 2 (.int .i64 (c : Nat)) rfl
    replace hR := hR.other ⟨P, 2, none⟩ (.int .i64 (c : Nat)) hRP
    replace hB := hB.setCell (p := ⟨P, 2, none⟩) (Nat.le_refl _) (.int .i64 (c : Nat))
    generalize W0.setCell ⟨P, 2, none⟩ (.int .i64 (c : Nat)) = W1 at *
    have z0 : W1.cell? ⟨P, 0, none⟩ = some (.int .i64 1) := hP.cell 0
    have y1 : W1.cell? ⟨P, 1, none⟩ = some (.int .i64 (a : Int)) := hP.cell 1
    have z2 : W1.cell? ⟨P, 2, none⟩ = some (.int .i64 (c : Int)) := hP.cell 2
    have f0 := hP.free 0
    have hr := HR0.out
    by_cases hz : fj = 0
    · rw [if_pos hz] at hr
      have HR := Lib.hid hr; clear hr HR0
      have t7 : ((c : Int) == (j : Int)) = true := by rw [beq_iff_eq]; omega
      have ht7 : c = j := by omega
      have T7 := Lib.hid ht7; clear ht7 hz
      go_upto_region 8 with (fail)
      clear z0 y1 z2 f0 t7
      obtain ⟨T, hT⟩ : ∃ T : Tk, T = ⟨1, a, c, 0, 0, []⟩ := ⟨_, rfl⟩
      rw [← hT] at hP
      have HT := Lib.hid hT; clear hT
      have z0 : W1.cell? ⟨P, 0, none⟩ = some (.int .i64 T.kind) := hP.cell 0
      have q0 : W1.cell? ⟨R, 0, none⟩ = some (.int .i64 0) := hR.cell 0
      have p0 := hR.free 0
      have z1 : W1.cell? ⟨P, 1, none⟩ = some (.int .i64 T.pos) := hP.cell 1
      have q1 : W1.cell? ⟨R, 1, none⟩ = some (.int .i64 0) := hR.cell 1
      have p1 := hR.free 1
      have z2 : W1.cell? ⟨P, 2, none⟩ = some (.int .i64 T.next) := hP.cell 2
      have q2 : W1.cell? ⟨R, 2, none⟩ = some (.int .i64 0) := hR.cell 2
      have p2 := hR.free 2
      have z3 : W1.cell? ⟨P, 3, none⟩ = some (.int .i64 T.num) := hP.cell 3
      have q3 : W1.cell? ⟨R, 3, none⟩ = some (.int .i64 0) := hR.cell 3
      have p3 := hR.free 3
      have z4 : W1.cell? ⟨P, 4, none⟩ = some (.float .f64 T.flt) := hP.cell 4
      have q4 : W1.cell? ⟨R, 4, none⟩ = some (.float .f64 0) := hR.cell 4
      have p4 := hR.free 4
      have z5 : W1.cell? ⟨P, 5, none⟩ = some (.string ⟨T.str.toArray⟩) := hP.cell 5
      have q5 : W1.cell? ⟨R, 5, none⟩ = some (.string ⟨#[]⟩) := hR.cell 5
      have p5 := hR.free 5
      go_wp2_with fail
      change bodyPost _ _ _ _ _ (putTok W1 R T)
      have g1 := hR.putTok T
      have g3 : Below P w (putTok W1 R T) := putTok_below hB hPle _
      clear hR hB hP z0 z1 z2 z3 z4 z5 q0 q1 q2 q3 q4 q5 p0 p1 p2 p3 p4 p5
      generalize putTok W1 R T = WX at *
      have v0 : WX.cell? ⟨R, 0, none⟩ = some (.int .i64 T.kind) := g1.cell 0
      have v1 : WX.cell? ⟨R, 1, none⟩ = some (.int .i64 T.pos) := g1.cell 1
      have v2 : WX.cell? ⟨R, 2, none⟩ = some (.int .i64 T.next) := g1.cell 2
      have v3 : WX.cell? ⟨R, 3, none⟩ = some (.int .i64 T.num) := g1.cell 3
      have v4 : WX.cell? ⟨R, 4, none⟩ = some (.float .f64 T.flt) := g1.cell 4
      have v5 : WX.cell? ⟨R, 5, none⟩ = some (.string ⟨T.str.toArray⟩) := g1.cell 5
      refine bodyPost_ret (v := .tuple #[.agg (tokCells T), .int .i64 5]) (by simp [results, Tryz.results17, go_sem, tokCells_mk T, v0, v1, v2, v3, v4, v5]) rfl ?_
      exact ⟨T, by rw [HR.out], (fun h => by rw [HR.out] at h; cases h), by rw [HGH.out]; exact g3⟩
    · rw [if_neg hz] at hr
      have HR := Lib.hid hr; clear hr HR0
      have t7 : ((c : Int) == (j : Int)) = false := by rw [beq_eq_false_iff_ne]; omega
      have hx := part_bytes s a c
      have HPr := Lib.hid (rparse_any (part s.data.toList a c) (by omega))
      generalize part s.data.toList a c = q at *
      have HX := Lib.hid hx; clear hx
      have w3' : (c : Int) ≤ (s.size : Int) := by omega
      have w5' : (a : Int) ≤ (c : Int) := by omega
      clear hz
      have hx := HX.out
      go_wp2_with fail
      clear hx
      refine (HPr.out _).mono ?_; rintro e w3 ⟨rfl, hb3⟩
      have hB3 : Below P w w3 := hB.trans (hb3.mono (by have := hB.size; rw [HGH.out] at this; exact this))
      clear hB
      have hB := hB3
      clear hB3
      replace hP := hP.belowP hb3
      replace hR := hR.belowP hb3
      clear z0 z2 f0 y1
      have z0 : w3.cell? ⟨P, 0, none⟩ = some (.int .i64 1) := hP.cell 0
      have f0 := hP.free 0
      have z4 : w3.cell? ⟨P, 4, none⟩ = some (.float .f64 0) := hP.cell 4
      have f4 := hP.free 4
      generalize (parseB q).1 = x at *
      generalize (parseB q).2 = y at *
      go_upto_region 12 with (fail)
      replace hP := (hP.set (k' := ⟨3, a, c, 0, 0, []⟩) 0 (.int .i64 3) rfl).set (k' := ⟨3, a, c, 0, x, []⟩) 4 (.float .f64 x) rfl
      replace hR := (hR.other ⟨P, 0, none⟩ (.int .i64 3) hRP).other ⟨P, 4, none⟩ (.float .f64 x) hRP
      replace hB := (hB.setCell (p := ⟨P, 0, none⟩) (Nat.le_refl _) (.int .i64 3)).setCell (p := ⟨P, 4, none⟩) (Nat.le_refl _) (.float .f64 x)
      generalize (w3.setCell ⟨P, 0, none⟩ (.int .i64 3)).setCell ⟨P, 4, none⟩ (.float .f64 x) = W4 at *
      clear z0 z4 f0 f4
      obtain ⟨T, hT⟩ : ∃ T : Tk, T = ⟨3, a, c, 0, x, []⟩ := ⟨_, rfl⟩
      rw [← hT] at hP
      have HT := Lib.hid hT; clear hT
      have z0 : W4.cell? ⟨P, 0, none⟩ = some (.int .i64 T.kind) := hP.cell 0
      have q0 : W4.cell? ⟨R, 0, none⟩ = some (.int .i64 0) := hR.cell 0
      have p0 := hR.free 0
      have z1 : W4.cell? ⟨P, 1, none⟩ = some (.int .i64 T.pos) := hP.cell 1
      have q1 : W4.cell? ⟨R, 1, none⟩ = some (.int .i64 0) := hR.cell 1
      have p1 := hR.free 1
      have z2 : W4.cell? ⟨P, 2, none⟩ = some (.int .i64 T.next) := hP.cell 2
      have q2 : W4.cell? ⟨R, 2, none⟩ = some (.int .i64 0) := hR.cell 2
      have p2 := hR.free 2
      have z3 : W4.cell? ⟨P, 3, none⟩ = some (.int .i64 T.num) := hP.cell 3
      have q3 : W4.cell? ⟨R, 3, none⟩ = some (.int .i64 0) := hR.cell 3
      have p3 := hR.free 3
      have z4 : W4.cell? ⟨P, 4, none⟩ = some (.float .f64 T.flt) := hP.cell 4
      have q4 : W4.cell? ⟨R, 4, none⟩ = some (.float .f64 0) := hR.cell 4
      have p4 := hR.free 4
      have z5 : W4.cell? ⟨P, 5, none⟩ = some (.string ⟨T.str.toArray⟩) := hP.cell 5
      have q5 : W4.cell? ⟨R, 5, none⟩ = some (.string ⟨#[]⟩) := hR.cell 5
      have p5 := hR.free 5
      go_wp2_with fail
      change bodyPost _ _ _ _ _ (putTok W4 R T)
      have g1 := hR.putTok T
      have g3 : Below P w (putTok W4 R T) := putTok_below hB hPle _
      clear hR hB hP z0 z1 z2 z3 z4 z5 q0 q1 q2 q3 q4 q5 p0 p1 p2 p3 p4 p5
      generalize putTok W4 R T = WX at *
      have v0 : WX.cell? ⟨R, 0, none⟩ = some (.int .i64 T.kind) := g1.cell 0
      have v1 : WX.cell? ⟨R, 1, none⟩ = some (.int .i64 T.pos) := g1.cell 1
      have v2 : WX.cell? ⟨R, 2, none⟩ = some (.int .i64 T.next) := g1.cell 2
      have v3 : WX.cell? ⟨R, 3, none⟩ = some (.int .i64 T.num) := g1.cell 3
      have v4 : WX.cell? ⟨R, 4, none⟩ = some (.float .f64 T.flt) := g1.cell 4
      have v5 : WX.cell? ⟨R, 5, none⟩ = some (.string ⟨T.str.toArray⟩) := g1.cell 5
      refine bodyPost_ret (v := .tuple #[.agg (tokCells T), .int .i64 y]) (by simp [results, Tryz.results17, go_sem, tokCells_mk T, v0, v1, v2, v3, v4, v5]) rfl ?_
      exact ⟨T, by rw [HR.out], (fun _ => by rw [HR.out]; exact HT.out), by rw [HGH.out]; exact g3⟩

end Go.Proofs.YtkcbkfflabkcgaaGreatDoor
