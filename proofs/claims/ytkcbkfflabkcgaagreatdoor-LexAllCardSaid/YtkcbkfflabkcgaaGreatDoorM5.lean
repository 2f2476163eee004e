/-
  The walk of the references' str.
-/
import Derived.Test.YtkcbkfflabkcgaaGreatDoorM4
namespace Go.Proofs.YtkcbkfflabkcgaaGreatDoor
open Go.RowKit

/-- bytes in memory of the call's own -/
def Byts (B : Nat) (v : Value) (o : List UInt8) (w : World) : Prop := w.ownsRow B 5 1 v o.length (Lib.byteCells o) ∧ ∃ g cap, v = .slice (some ⟨g, 0, none⟩) o.length cap
theorem Byts.apart {B t : Nat} {v : Value} {o : List UInt8} {k : Tk} {w : World} (h : Byts B v o w) (hx : TokAt t k w) : v.ownBlock ≠ some t := by
  exact Lib.ownBlock_neF (World.ownsRowF_of h.1) hx (by decide)
theorem Byts.put {B t : Nat} {v : Value} {o : List UInt8} {k : Tk} {w : World} (h : Byts B v o w) (hx : TokAt t k w) (i : Nat) (x : Value) : Byts B v o (w.setCell ⟨t, i, none⟩ x) :=
  ⟨h.1.kept (row := some t) ⟨rfl, rfl, rfl, by simp [World.setCell], fun k _ hk => Below.heap_setCell _ _ _ _ (fun e => hk (by simp [e]))⟩ (.inr (h.apart hx)), h.2⟩
theorem Byts.conv {B : Nat} {v : Value} {o : List UInt8} {w : World} (h : Byts B v o w) : (convert 55 9 v).run Tryz.prog w = .ok (.string ⟨o.toArray⟩) w := by
  obtain ⟨h1, g, cap, rfl⟩ := h
  refine run_convert_bytes_back w 55 9 5 ⟨g, 0, none⟩ cap o Tryz.underlying55 Tryz.underlying5 Tryz.underlying9 ?_
  intro j hj
  refine h1.cells (g := g) rfl j _ ?_
  simp [Lib.byteCells, hj]
theorem Byts.grow {B : Nat} {v' : Value} {o : List UInt8} {c : UInt8} {w : World} (h : w.ownsRow B 5 1 v' (o.length + 1) (Lib.byteCells o ++ [.int .u8 c.toNat])) : Byts B v' (o ++ [c]) w := by
  refine ⟨?_, ?_⟩
  · rw [Lib.byteCells_append, List.length_append]; exact h
  · rw [List.length_append]
    rcases h.2 with ⟨_, h0⟩ | ⟨g, cap, cur, hv, _⟩
    · simp at h0
    · exact ⟨g, cap, hv⟩

set_option maxRecDepth 100000 in
set_option maxHeartbeats 4000000 in
theorem rstr_any (s : ByteArray) (hs : s.size ≤ 1000000) (a : Nat) (ha : a < s.size) (w : World) :
    Calls Tryz.prog 20 #[.string s, .agg (tokCells ⟨1, a, a, 0, 0, []⟩)] w (RefTok (strS s.data.toList a) w) := by
  have hl : s.data.toList.length = s.size := by simp
  have HL := Lib.hid hl; clear hl
  have HI : (Tryz.prog.info? 5).map (fun i => (i.zero, i.size, i.bytes)) = some (some (.int .u8 0), 1, 1) := by kernel_rfl
  obtain ⟨i0, hi, hz0, hz1, hz2⟩ := Go.info_parts HI
  have HII := Lib.hid hi
  have HZ0 := Lib.hid hz0
  have HZ1 := Lib.hid hz1
  have HZ2 := Lib.hid hz2
  clear hi hz0 hz1 hz2 HI
  have hst := store_float
  have hP : TokAt w.heap.size ⟨1, a, a, 0, 0, []⟩ ((w.alloc (.cells #[.int .i64 1, .int .i64 a, .int .i64 a, .int .i64 0, .float .f64 0, .string ⟨#[]⟩] 25)).alloc (.cells #[.int .i64 0, .int .i64 0, .int .i64 0, .int .i64 0, .float .f64 0, .string ⟨#[]⟩] 25)) := TokAt.kept (w := w.alloc (.cells #[.int .i64 1, .int .i64 a, .int .i64 a, .int .i64 0, .float .f64 0, .string ⟨#[]⟩] 25)) (heap_alloc_new w _) ((Fr.refl [] _).alloc _) (by simp)
  have hR : TokAt (w.heap.size + 1) noTk ((w.alloc (.cells #[.int .i64 1, .int .i64 a, .int .i64 a, .int .i64 0, .float .f64 0, .string ⟨#[]⟩] 25)).alloc (.cells #[.int .i64 0, .int .i64 0, .int .i64 0, .int .i64 0, .float .f64 0, .string ⟨#[]⟩] 25)) := by
    have := heap_alloc_new (w.alloc (.cells #[.int .i64 1, .int .i64 a, .int .i64 a, .int .i64 0, .float .f64 0, .string ⟨#[]⟩] 25)) (.cells #[.int .i64 0, .int .i64 0, .int .i64 0, .int .i64 0, .float .f64 0, .string ⟨#[]⟩] 25)
    simpa [TokAt, tokCells, noTk] using this
  have hB : Below w.heap.size w ((w.alloc (.cells #[.int .i64 1, .int .i64 a, .int .i64 a, .int .i64 0, .float .f64 0, .string ⟨#[]⟩] 25)).alloc (.cells #[.int .i64 0, .int .i64 0, .int .i64 0, .int .i64 0, .float .f64 0, .string ⟨#[]⟩] 25)) := ((Below.refl _ _).alloc (Nat.le_refl _) _).alloc (by simp) _
  have hV : Byts w.heap.size (.slice (some ⟨w.heap.size + 2, 0, none⟩) 0 0) [] (((w.alloc (.cells #[.int .i64 1, .int .i64 a, .int .i64 a, .int .i64 0, .float .f64 0, .string ⟨#[]⟩] 25)).alloc (.cells #[.int .i64 0, .int .i64 0, .int .i64 0, .int .i64 0, .float .f64 0, .string ⟨#[]⟩] 25)).alloc (.cells #[] 5)) := by
    have h1 := World.ownsRow_made (base := w.heap.size) (e := 5) (size := 1) ((w.alloc (.cells #[.int .i64 1, .int .i64 a, .int .i64 a, .int .i64 0, .float .f64 0, .string ⟨#[]⟩] 25)).alloc (.cells #[.int .i64 0, .int .i64 0, .int .i64 0, .int .i64 0, .float .f64 0, .string ⟨#[]⟩] 25)) #[] 0 (by simp; omega) (by unfold maxLen; omega) rfl
    have h2 : ((w.alloc (.cells #[.int .i64 1, .int .i64 a, .int .i64 a, .int .i64 0, .float .f64 0, .string ⟨#[]⟩] 25)).alloc (.cells #[.int .i64 0, .int .i64 0, .int .i64 0, .int .i64 0, .float .f64 0, .string ⟨#[]⟩] 25)).heap.size = w.heap.size + 2 := by simp
    rw [h2] at h1
    exact ⟨h1, _, _, rfl⟩
  replace hP := hP.kept ((Fr.refl [] _).alloc (.cells #[] 5)) (by simp)
  replace hR := hR.kept ((Fr.refl [] _).alloc (.cells #[] 5)) (by simp)
  replace hB := hB.alloc (by simp; omega) (.cells #[] 5)
  have hPR : w.heap.size ≠ w.heap.size + 1 := by omega
  have hRP : w.heap.size + 1 ≠ w.heap.size := by omega
  have hPle : w.heap.size ≤ w.heap.size + 1 := by omega
  rw [tokCells_mk]
  go_enter Tryz.func20, Tryz.ntmps20
  go_wp2_with fail
  generalize hg2 : w.heap.size + 2 = G at *
  generalize ((w.alloc (.cells #[.int .i64 1, .int .i64 a, .int .i64 a, .int .i64 0, .float .f64 0, .string ⟨#[]⟩] 25)).alloc (.cells #[.int .i64 0, .int .i64 0, .int .i64 0, .int .i64 0, .float .f64 0, .string ⟨#[]⟩] 25)).alloc (.cells #[] 5) = W0 at *
  generalize hgr : w.heap.size + 1 = R at *
  clear hgr
  generalize hgh : w.heap.size = P at *
  have HGH := Lib.hid hgh; clear hgh
  have z1 : W0.cell? ⟨P, 1, none⟩ = some (.int .i64 (a : Int)) := hP.cell 1
  go_wp2_with fail
  clear z1
  have HM := Marked.start s.data.toList a
  go_loopw [6, 7] (fun v iv wr => ∃ (k : Nat) (o : List UInt8) (V : Value), v = V ∧ k ≤ s.size ∧ TokAt P ⟨1, a, a, 0, 0, []⟩ wr ∧ TokAt R noTk wr ∧ Below P w wr ∧ Byts P V o wr ∧ Marked s.data.toList a k o ∧ iv = .int .i64 k) (fun _ iv _ => s.size - (intOf iv).toNat)
  case atStart => exact ⟨a + 1, [], _, rfl, by omega, hP, hR, hB, hV, HM, by go_num⟩
  case round =>
    clear hP hR hB hV HM
    obtain ⟨k, o, V, rfl, hk, hP, hR, hB, hV, hmk, rfl⟩ := hrel
    by_cases hlt : k < s.size
    · have hc := byte_at s k hlt
      have t0 : decide ((s.size : Int) ≤ (k : Int)) = false := by simp; omega
      have t0' : ¬ s.size ≤ k := by omega
      by_cases h34 : s[k]'hlt = 34
      · have t1 : (((s[k]'hlt).toNat : Int) == 34) = true := by rw [h34]; rfl
        rw [h34] at hc
        have HQ := hmk.shut hc
        clear hmk hc h34
        have HCv := Lib.hid hV
        obtain ⟨g, cap, hvv⟩ := hV.2
        subst hvv
        generalize hol : o.length = ol at *
        have HOL := Lib.hid hol; clear hol
        by_cases h200 : 200 < ol
        · rw [if_pos h200] at HQ
          have HR := Lib.hid HQ; clear HQ
          have t2 : decide ((200 : Int) < (ol : Int)) = true := by simp; omega
          go_upto_region 15 with (fail)
          obtain ⟨T, hT⟩ : ∃ T : Tk, T = ⟨1, a, a, 0, 0, []⟩ := ⟨_, rfl⟩
          rw [← hT] at hP
          have HT := Lib.hid hT; clear hT
          have z0 : wr.cell? ⟨P, 0, none⟩ = some (.int .i64 T.kind) := hP.cell 0
          have q0 : wr.cell? ⟨R, 0, none⟩ = some (.int .i64 0) := hR.cell 0
          have p0 := hR.free 0
          have z1 : wr.cell? ⟨P, 1, none⟩ = some (.int .i64 T.pos) := hP.cell 1
          have q1 : wr.cell? ⟨R, 1, none⟩ = some (.int .i64 0) := hR.cell 1
          have p1 := hR.free 1
          have z2 : wr.cell? ⟨P, 2, none⟩ = some (.int .i64 T.next) := hP.cell 2
          have q2 : wr.cell? ⟨R, 2, none⟩ = some (.int .i64 0) := hR.cell 2
          have p2 := hR.free 2
          have z3 : wr.cell? ⟨P, 3, none⟩ = some (.int .i64 T.num) := hP.cell 3
          have q3 : wr.cell? ⟨R, 3, none⟩ = some (.int .i64 0) := hR.cell 3
          have p3 := hR.free 3
          have z4 : wr.cell? ⟨P, 4, none⟩ = some (.float .f64 T.flt) := hP.cell 4
          have q4 : wr.cell? ⟨R, 4, none⟩ = some (.float .f64 0) := hR.cell 4
          have p4 := hR.free 4
          have z5 : wr.cell? ⟨P, 5, none⟩ = some (.string ⟨T.str.toArray⟩) := hP.cell 5
          have q5 : wr.cell? ⟨R, 5, none⟩ = some (.string ⟨#[]⟩) := hR.cell 5
          have p5 := hR.free 5
          go_wp2_with fail
          change bodyPost _ _ _ _ _ (putTok wr R T)
          have g1 := hR.putTok T
          have g3 : Below P w (putTok wr R T) := putTok_below hB hPle _
          clear hR hB hP z0 z1 z2 z3 z4 z5 q0 q1 q2 q3 q4 q5 p0 p1 p2 p3 p4 p5
          generalize putTok wr R T = WX at *
          have v0 : WX.cell? ⟨R, 0, none⟩ = some (.int .i64 T.kind) := g1.cell 0
          have v1 : WX.cell? ⟨R, 1, none⟩ = some (.int .i64 T.pos) := g1.cell 1
          have v2 : WX.cell? ⟨R, 2, none⟩ = some (.int .i64 T.next) := g1.cell 2
          have v3 : WX.cell? ⟨R, 3, none⟩ = some (.int .i64 T.num) := g1.cell 3
          have v4 : WX.cell? ⟨R, 4, none⟩ = some (.float .f64 T.flt) := g1.cell 4
          have v5 : WX.cell? ⟨R, 5, none⟩ = some (.string ⟨T.str.toArray⟩) := g1.cell 5
          refine bodyPost_ret (v := .tuple #[.agg (tokCells T), .int .i64 3]) (by simp [results, Tryz.results20, go_sem, tokCells_mk T, v0, v1, v2, v3, v4, v5]) rfl ?_
          exact ⟨T, by rw [HR.out], (fun h => by rw [HR.out] at h; cases h), by rw [HGH.out]; exact g3⟩
        · rw [if_neg h200] at HQ
          have HR := Lib.hid HQ; clear HQ
          have t2 : decide ((200 : Int) < (ol : Int)) = false := by simp; omega
          have z0 : wr.cell? ⟨P, 0, none⟩ = some (.int .i64 1) := hP.cell 0
          have z5 : wr.cell? ⟨P, 5, none⟩ = some (.string ⟨#[]⟩) := hP.cell 5
          have z2 : wr.cell? ⟨P, 2, none⟩ = some (.int .i64 (a : Int)) := hP.cell 2
          have f0 := hP.free 0
          have f5 := hP.free 5
          have f2 := hP.free 2
          have hcv := (HCv.out.put hP 0 (.int .i64 4)).conv
          go_upto_region 19 with (fail)
          clear z0 z5 z2 f0 f5 f2 hcv
          replace hP := ((hP.set (k' := ⟨4, a, a, 0, 0, []⟩) 0 (.int .i64 4) rfl).set (k' := ⟨4, a, a, 0, 0, o⟩) 5 (.string ⟨o.toArray⟩) rfl).set (k' := ⟨4, a, k + 1, 0, 0, o⟩) 2 (.int .i64 ((k : Int) + 1)) (by show _ = tokCells _; simp [tokCells])
          replace hR := ((hR.other ⟨P, 0, none⟩ (.int .i64 4) hRP).other ⟨P, 5, none⟩ (.string ⟨o.toArray⟩) hRP).other ⟨P, 2, none⟩ (.int .i64 ((k : Int) + 1)) hRP
          replace hB := ((hB.setCell (p := ⟨P, 0, none⟩) (Nat.le_refl _) (.int .i64 4)).setCell (p := ⟨P, 5, none⟩) (Nat.le_refl _) (.string ⟨o.toArray⟩)).setCell (p := ⟨P, 2, none⟩) (Nat.le_refl _) (.int .i64 ((k : Int) + 1))
          generalize ((wr.setCell ⟨P, 0, none⟩ (.int .i64 4)).setCell ⟨P, 5, none⟩ (.string ⟨o.toArray⟩)).setCell ⟨P, 2, none⟩ (.int .i64 ((k : Int) + 1)) = W4 at *
          obtain ⟨T, hT⟩ : ∃ T : Tk, T = ⟨4, a, k + 1, 0, 0, o⟩ := ⟨_, rfl⟩
          rw [← hT] at hP
          have HT := Lib.hid hT; clear hT
          have z0 : W4.cell? ⟨P, 0, none⟩ = some (.int .i64 T.kind) := hP.cell 0
          have q0 : W4.cell? ⟨R, 0, none⟩ = some (.int .i64 0) := hR.cell 0
          have p0 := hR.free 0
          have z1 : W4.cell? ⟨P, 1, none⟩ = some (.int .i64 T.pos) := hP.cell 1
          have q1 : W4.cell? ⟨R, 1, none⟩ = some (.int .i64 0) := hR.cell 1
          have p1 := hR.free 1
          have z2 : W4.cell? ⟨P, 2, none⟩ = some (.int .i64 T.next) := hP.cell 2
          have q2 : W4.cell? ⟨R, 2, none⟩ = some (.int .i64 0) := hR.cell 2
          have p2 := hR.free 2
          have z3 : W4.cell? ⟨P, 3, none⟩ = some (.int .i64 T.num) := hP.cell 3
          have q3 : W4.cell? ⟨R, 3, none⟩ = some (.int .i64 0) := hR.cell 3
          have p3 := hR.free 3
          have z4 : W4.cell? ⟨P, 4, none⟩ = some (.float .f64 T.flt) := hP.cell 4
          have q4 : W4.cell? ⟨R, 4, none⟩ = some (.float .f64 0) := hR.cell 4
          have p4 := hR.free 4
          have z5 : W4.cell? ⟨P, 5, none⟩ = some (.string ⟨T.str.toArray⟩) := hP.cell 5
          have q5 : W4.cell? ⟨R, 5, none⟩ = some (.string ⟨#[]⟩) := hR.cell 5
          have p5 := hR.free 5
          go_wp2_with fail
          change bodyPost _ _ _ _ _ (putTok W4 R T)
          have g1 := hR.putTok T
          have g3 : Below P w (putTok W4 R T) := putTok_below hB hPle _
          clear hR hB hP z0 z1 z2 z3 z4 z5 q0 q1 q2 q3 q4 q5 p0 p1 p2 p3 p4 p5
          generalize putTok W4 R T = WX at *
          have v0 : WX.cell? ⟨R, 0, none⟩ = some (.int .i64 T.kind) := g1.cell 0
          have v1 : WX.cell? ⟨R, 1, none⟩ = some (.int .i64 T.pos) := g1.cell 1
          have v2 : WX.cell? ⟨R, 2, none⟩ = some (.int .i64 T.next) := g1.cell 2
          have v3 : WX.cell? ⟨R, 3, none⟩ = some (.int .i64 T.num) := g1.cell 3
          have v4 : WX.cell? ⟨R, 4, none⟩ = some (.float .f64 T.flt) := g1.cell 4
          have v5 : WX.cell? ⟨R, 5, none⟩ = some (.string ⟨T.str.toArray⟩) := g1.cell 5
          refine bodyPost_ret (v := .tuple #[.agg (tokCells T), .int .i64 0]) (by simp [results, Tryz.results20, go_sem, tokCells_mk T, v0, v1, v2, v3, v4, v5]) rfl ?_
          exact ⟨T, by rw [HR.out], (fun _ => by rw [HR.out]; exact HT.out), by rw [HGH.out]; exact g3⟩
      · by_cases h92 : s[k]'hlt = 92
        · have t1 : (((s[k]'hlt).toNat : Int) == 34) = false := by rw [beq_eq_false_iff_ne]; intro e; exact h34 (UInt8.toNat_inj.1 (by show _ = 34; omega))
          have t2 : (((s[k]'hlt).toNat : Int) == 92) = true := by rw [h92]; rfl
          rw [h92] at hc
          by_cases hj : k + 1 < s.size
          · have hd := byte_at s (k + 1) hj
            by_cases hd34 : s[k + 1]'hj = 34
            · have HM2 := hmk.esc hc hd (.inl hd34)
              rw [show k + 2 = k + 1 + 1 by omega] at HM2
              have u34 : (((s[k + 1]'hj).toNat : Int) == 34) = true := by rw [hd34]; rfl
              have v34' : (((s[k + 1]'hj).toNat : Int) != 34) = false := by rw [bne, u34]; rfl
              have hd92 : ¬ s[k + 1]'hj = 92 := by rw [hd34]; decide
              have u92 : (((s[k + 1]'hj).toNat : Int) == 92) = false := by rw [beq_eq_false_iff_ne]; intro e; exact hd92 (UInt8.toNat_inj.1 (by show _ = 92; omega))
              have v92' : (((s[k + 1]'hj).toNat : Int) != 92) = true := by rw [bne, u92]; rfl
              clear hd92
              clear hmk hc h34 h92 hd hd34
              have t3 : decide ((s.size : Int) ≤ ((k + 1 : Nat) : Int)) = false := by simp; omega
              have t3' : ¬ s.size ≤ k + 1 := by omega
              go_upto_region 8 with (fail)
              rw [show ((k : Int) + 1) = ((k + 1 : Nat) : Int) by omega]
              have hkj : k < k + 1 := by omega
              generalize k + 1 = j at *
              have hlo := HM2.2.2
              simp only [List.length_append, List.length_cons, List.length_nil] at hlo
              have HM3 := Lib.hid HM2
              clear HM2
              have hsz : P ≤ wr.heap.size := Nat.le_of_lt (lt_of_block hP)
              have hap1 := hV.apart hP
              have hap2 := hV.apart hR
              have HOw := Lib.hid hV.1
              have HN : Hid (∀ jj u, [Value.int .u8 ((s[j]'hj).toNat : Int)][jj]? = some u → (wr.alloc (.cells #[.int .u8 ((s[j]'hj).toNat : Int)] 5)).cell? ((⟨wr.heap.size, 0, none⟩ : Addr).add jj) = some u) := by
                intro jj u hjj
                match jj, hjj with
                | 0, hjj => simp at hjj; subst hjj; simp [Addr.add]
              have hT1 := hP.kept ((Fr.refl [] wr).alloc (.cells #[.int .u8 ((s[j]'hj).toNat : Int)] 5)) (by simp)
              have hT2 := hR.kept ((Fr.refl [] wr).alloc (.cells #[.int .u8 ((s[j]'hj).toNat : Int)] 5)) (by simp)
              have hB1 := hB.alloc hsz (.cells #[.int .u8 ((s[j]'hj).toNat : Int)] 5)
              have hO1 := hV.1.alloc (.cells #[.int .u8 ((s[j]'hj).toNat : Int)] 5)
              have hsz1 : P ≤ (wr.alloc (.cells #[.int .u8 ((s[j]'hj).toNat : Int)] 5)).heap.size := by simp; omega
              obtain ⟨g, cap, hvv⟩ := hV.2
              have HVV := Lib.hid hvv; clear hvv
              go_wp2_with (at_builtin; refine wpList_append_own _ rfl _ _ 55 rfl P 5 i0 (.int .u8 0) 1 1 Tryz.underlying55 HII.out HZ0.out HZ1.out HZ2.out rfl (by decide) _ o.length (Lib.byteCells o) rfl hO1 ⟨wr.heap.size, 0, none⟩ 1 1 [.int .u8 ((s[j]'hj).toNat : Int)] rfl rfl HN.out (by intro u hu; simp at hu; subst hu; rfl) ?c3 ?c4 ?c5 ?_)
              case c3 => unfold maxLen; omega
              case c4 => omega
              case c5 => exact hsz1
              intro v' w3 hown' hgrow _
              have hP4 : TokAt P ⟨1, a, a, 0, 0, []⟩ w3 := (hgrow.block P (lt_of_block hT1) (fun e => hap1 e.symm)).trans hT1
              have hR4 : TokAt R noTk w3 := (hgrow.block R (lt_of_block hT2) (fun e => hap2 e.symm)).trans hT2
              have hB4 := hB1.grown hgrow hsz1 (fun g hg => (World.ownsRow.lt hO1 g hg).1)
              have hV4 := Byts.grow hown'
              go_wp2_with fail
              go_roundw
              case rel => exact ⟨j + 1, _, _, rfl, by omega, hP4, hR4, hB4, hV4, HM3.out, by first | rfl | go_num⟩
              case measure => simp [intOf]; omega
            · by_cases hd92 : s[k + 1]'hj = 92
              · have HM2 := hmk.esc hc hd (.inr hd92)
                rw [show k + 2 = k + 1 + 1 by omega] at HM2
                have u34 : (((s[k + 1]'hj).toNat : Int) == 34) = false := by rw [beq_eq_false_iff_ne]; intro e; exact hd34 (UInt8.toNat_inj.1 (by show _ = 34; omega))
                have v34' : (((s[k + 1]'hj).toNat : Int) != 34) = true := by rw [bne, u34]; rfl
                have u92 : (((s[k + 1]'hj).toNat : Int) == 92) = true := by rw [hd92]; rfl
                have v92' : (((s[k + 1]'hj).toNat : Int) != 92) = false := by rw [bne, u92]; rfl
                clear hmk hc h34 h92 hd hd34 hd92
                have t3 : decide ((s.size : Int) ≤ ((k + 1 : Nat) : Int)) = false := by simp; omega
                have t3' : ¬ s.size ≤ k + 1 := by omega
                go_upto_region 8 with (fail)
                rw [show ((k : Int) + 1) = ((k + 1 : Nat) : Int) by omega]
                have hkj : k < k + 1 := by omega
                generalize k + 1 = j at *
                have hlo := HM2.2.2
                simp only [List.length_append, List.length_cons, List.length_nil] at hlo
                have HM3 := Lib.hid HM2
                clear HM2
                have hsz : P ≤ wr.heap.size := Nat.le_of_lt (lt_of_block hP)
                have hap1 := hV.apart hP
                have hap2 := hV.apart hR
                have HOw := Lib.hid hV.1
                have HN : Hid (∀ jj u, [Value.int .u8 ((s[j]'hj).toNat : Int)][jj]? = some u → (wr.alloc (.cells #[.int .u8 ((s[j]'hj).toNat : Int)] 5)).cell? ((⟨wr.heap.size, 0, none⟩ : Addr).add jj) = some u) := by
                  intro jj u hjj
                  match jj, hjj with
                  | 0, hjj => simp at hjj; subst hjj; simp [Addr.add]
                have hT1 := hP.kept ((Fr.refl [] wr).alloc (.cells #[.int .u8 ((s[j]'hj).toNat : Int)] 5)) (by simp)
                have hT2 := hR.kept ((Fr.refl [] wr).alloc (.cells #[.int .u8 ((s[j]'hj).toNat : Int)] 5)) (by simp)
                have hB1 := hB.alloc hsz (.cells #[.int .u8 ((s[j]'hj).toNat : Int)] 5)
                have hO1 := hV.1.alloc (.cells #[.int .u8 ((s[j]'hj).toNat : Int)] 5)
                have hsz1 : P ≤ (wr.alloc (.cells #[.int .u8 ((s[j]'hj).toNat : Int)] 5)).heap.size := by simp; omega
                obtain ⟨g, cap, hvv⟩ := hV.2
                have HVV := Lib.hid hvv; clear hvv
                go_wp2_with (at_builtin; refine wpList_append_own _ rfl _ _ 55 rfl P 5 i0 (.int .u8 0) 1 1 Tryz.underlying55 HII.out HZ0.out HZ1.out HZ2.out rfl (by decide) _ o.length (Lib.byteCells o) rfl hO1 ⟨wr.heap.size, 0, none⟩ 1 1 [.int .u8 ((s[j]'hj).toNat : Int)] rfl rfl HN.out (by intro u hu; simp at hu; subst hu; rfl) ?c3 ?c4 ?c5 ?_)
                case c3 => unfold maxLen; omega
                case c4 => omega
                case c5 => exact hsz1
                intro v' w3 hown' hgrow _
                have hP4 : TokAt P ⟨1, a, a, 0, 0, []⟩ w3 := (hgrow.block P (lt_of_block hT1) (fun e => hap1 e.symm)).trans hT1
                have hR4 : TokAt R noTk w3 := (hgrow.block R (lt_of_block hT2) (fun e => hap2 e.symm)).trans hT2
                have hB4 := hB1.grown hgrow hsz1 (fun g hg => (World.ownsRow.lt hO1 g hg).1)
                have hV4 := Byts.grow hown'
                go_wp2_with fail
                go_roundw
                case rel => exact ⟨j + 1, _, _, rfl, by omega, hP4, hR4, hB4, hV4, HM3.out, by first | rfl | go_num⟩
                case measure => simp [intOf]; omega
              · have HR := Lib.hid (hmk.form hc hd hd34 hd92)
                have u34 : (((s[k + 1]'hj).toNat : Int) == 34) = false := by rw [beq_eq_false_iff_ne]; intro e; exact hd34 (UInt8.toNat_inj.1 (by show _ = 34; omega))
                have v34' : (((s[k + 1]'hj).toNat : Int) != 34) = true := by rw [bne, u34]; rfl
                have u92 : (((s[k + 1]'hj).toNat : Int) == 92) = false := by rw [beq_eq_false_iff_ne]; intro e; exact hd92 (UInt8.toNat_inj.1 (by show _ = 92; omega))
                have v92' : (((s[k + 1]'hj).toNat : Int) != 92) = true := by rw [bne, u92]; rfl
                clear hmk hc h34 h92 hd hd34 hd92
                have t3 : decide ((s.size : Int) ≤ ((k + 1 : Nat) : Int)) = false := by simp; omega
                have t3' : ¬ s.size ≤ k + 1 := by omega
                go_upto_region 8 with (fail)
                rw [show ((k : Int) + 1) = ((k + 1 : Nat) : Int) by omega]
                have hkj : k < k + 1 := by omega
                generalize k + 1 = j at *
                go_upto_region 11 with (fail)
                obtain ⟨T, hT⟩ : ∃ T : Tk, T = ⟨1, a, a, 0, 0, []⟩ := ⟨_, rfl⟩
                rw [← hT] at hP
                have HT := Lib.hid hT; clear hT
                have z0 : wr.cell? ⟨P, 0, none⟩ = some (.int .i64 T.kind) := hP.cell 0
                have q0 : wr.cell? ⟨R, 0, none⟩ = some (.int .i64 0) := hR.cell 0
                have p0 := hR.free 0
                have z1 : wr.cell? ⟨P, 1, none⟩ = some (.int .i64 T.pos) := hP.cell 1
                have q1 : wr.cell? ⟨R, 1, none⟩ = some (.int .i64 0) := hR.cell 1
                have p1 := hR.free 1
                have z2 : wr.cell? ⟨P, 2, none⟩ = some (.int .i64 T.next) := hP.cell 2
                have q2 : wr.cell? ⟨R, 2, none⟩ = some (.int .i64 0) := hR.cell 2
                have p2 := hR.free 2
                have z3 : wr.cell? ⟨P, 3, none⟩ = some (.int .i64 T.num) := hP.cell 3
                have q3 : wr.cell? ⟨R, 3, none⟩ = some (.int .i64 0) := hR.cell 3
                have p3 := hR.free 3
                have z4 : wr.cell? ⟨P, 4, none⟩ = some (.float .f64 T.flt) := hP.cell 4
                have q4 : wr.cell? ⟨R, 4, none⟩ = some (.float .f64 0) := hR.cell 4
                have p4 := hR.free 4
                have z5 : wr.cell? ⟨P, 5, none⟩ = some (.string ⟨T.str.toArray⟩) := hP.cell 5
                have q5 : wr.cell? ⟨R, 5, none⟩ = some (.string ⟨#[]⟩) := hR.cell 5
                have p5 := hR.free 5
                go_wp2_with fail
                change bodyPost _ _ _ _ _ (putTok wr R T)
                have g1 := hR.putTok T
                have g3 : Below P w (putTok wr R T) := putTok_below hB hPle _
                clear hR hB hP z0 z1 z2 z3 z4 z5 q0 q1 q2 q3 q4 q5 p0 p1 p2 p3 p4 p5
                generalize putTok wr R T = WX at *
                have v0 : WX.cell? ⟨R, 0, none⟩ = some (.int .i64 T.kind) := g1.cell 0
                have v1 : WX.cell? ⟨R, 1, none⟩ = some (.int .i64 T.pos) := g1.cell 1
                have v2 : WX.cell? ⟨R, 2, none⟩ = some (.int .i64 T.next) := g1.cell 2
                have v3 : WX.cell? ⟨R, 3, none⟩ = some (.int .i64 T.num) := g1.cell 3
                have v4 : WX.cell? ⟨R, 4, none⟩ = some (.float .f64 T.flt) := g1.cell 4
                have v5 : WX.cell? ⟨R, 5, none⟩ = some (.string ⟨T.str.toArray⟩) := g1.cell 5
                refine bodyPost_ret (v := .tuple #[.agg (tokCells T), .int .i64 5]) (by simp [results, Tryz.results20, go_sem, tokCells_mk T, v0, v1, v2, v3, v4, v5]) rfl ?_
                exact ⟨T, by rw [HR.out], (fun h => by rw [HR.out] at h; cases h), by rw [HGH.out]; exact g3⟩
          · have HR := Lib.hid (hmk.torn1 hc (by rw [HL.out]; omega))
            have t3 : decide ((s.size : Int) ≤ ((k : Int) + 1)) = true := by simp; omega
            clear hmk hc h34 h92
            go_upto_region 9 with (fail)
            obtain ⟨T, hT⟩ : ∃ T : Tk, T = ⟨1, a, a, 0, 0, []⟩ := ⟨_, rfl⟩
            rw [← hT] at hP
            have HT := Lib.hid hT; clear hT
            have z0 : wr.cell? ⟨P, 0, none⟩ = some (.int .i64 T.kind) := hP.cell 0
            have q0 : wr.cell? ⟨R, 0, none⟩ = some (.int .i64 0) := hR.cell 0
            have p0 := hR.free 0
            have z1 : wr.cell? ⟨P, 1, none⟩ = some (.int .i64 T.pos) := hP.cell 1
            have q1 : wr.cell? ⟨R, 1, none⟩ = some (.int .i64 0) := hR.cell 1
            have p1 := hR.free 1
            have z2 : wr.cell? ⟨P, 2, none⟩ = some (.int .i64 T.next) := hP.cell 2
            have q2 : wr.cell? ⟨R, 2, none⟩ = some (.int .i64 0) := hR.cell 2
            have p2 := hR.free 2
            have z3 : wr.cell? ⟨P, 3, none⟩ = some (.int .i64 T.num) := hP.cell 3
            have q3 : wr.cell? ⟨R, 3, none⟩ = some (.int .i64 0) := hR.cell 3
            have p3 := hR.free 3
            have z4 : wr.cell? ⟨P, 4, none⟩ = some (.float .f64 T.flt) := hP.cell 4
            have q4 : wr.cell? ⟨R, 4, none⟩ = some (.float .f64 0) := hR.cell 4
            have p4 := hR.free 4
            have z5 : wr.cell? ⟨P, 5, none⟩ = some (.string ⟨T.str.toArray⟩) := hP.cell 5
            have q5 : wr.cell? ⟨R, 5, none⟩ = some (.string ⟨#[]⟩) := hR.cell 5
            have p5 := hR.free 5
            go_wp2_with fail
            change bodyPost _ _ _ _ _ (putTok wr R T)
            have g1 := hR.putTok T
            have g3 : Below P w (putTok wr R T) := putTok_below hB hPle _
            clear hR hB hP z0 z1 z2 z3 z4 z5 q0 q1 q2 q3 q4 q5 p0 p1 p2 p3 p4 p5
            generalize putTok wr R T = WX at *
            have v0 : WX.cell? ⟨R, 0, none⟩ = some (.int .i64 T.kind) := g1.cell 0
            have v1 : WX.cell? ⟨R, 1, none⟩ = some (.int .i64 T.pos) := g1.cell 1
            have v2 : WX.cell? ⟨R, 2, none⟩ = some (.int .i64 T.next) := g1.cell 2
            have v3 : WX.cell? ⟨R, 3, none⟩ = some (.int .i64 T.num) := g1.cell 3
            have v4 : WX.cell? ⟨R, 4, none⟩ = some (.float .f64 T.flt) := g1.cell 4
            have v5 : WX.cell? ⟨R, 5, none⟩ = some (.string ⟨T.str.toArray⟩) := g1.cell 5
            refine bodyPost_ret (v := .tuple #[.agg (tokCells T), .int .i64 14]) (by simp [results, Tryz.results20, go_sem, tokCells_mk T, v0, v1, v2, v3, v4, v5]) rfl ?_
            exact ⟨T, by rw [HR.out], (fun h => by rw [HR.out] at h; cases h), by rw [HGH.out]; exact g3⟩
        · have HM2 := hmk.plain hc h34 h92
          have t1 : (((s[k]'hlt).toNat : Int) == 34) = false := by rw [beq_eq_false_iff_ne]; intro e; exact h34 (UInt8.toNat_inj.1 (by show _ = 34; omega))
          have t2 : (((s[k]'hlt).toNat : Int) == 92) = false := by rw [beq_eq_false_iff_ne]; intro e; exact h92 (UInt8.toNat_inj.1 (by show _ = 92; omega))
          clear hmk hc h34 h92
          have hlo := HM2.2.2
          simp only [List.length_append, List.length_cons, List.length_nil] at hlo
          have HM3 := Lib.hid HM2
          clear HM2
          have hsz : P ≤ wr.heap.size := Nat.le_of_lt (lt_of_block hP)
          have hap1 := hV.apart hP
          have hap2 := hV.apart hR
          have HOw := Lib.hid hV.1
          have HN : Hid (∀ jj u, [Value.int .u8 ((s[k]'hlt).toNat : Int)][jj]? = some u → (wr.alloc (.cells #[.int .u8 ((s[k]'hlt).toNat : Int)] 5)).cell? ((⟨wr.heap.size, 0, none⟩ : Addr).add jj) = some u) := by
            intro jj u hjj
            match jj, hjj with
            | 0, hjj => simp at hjj; subst hjj; simp [Addr.add]
          have hT1 := hP.kept ((Fr.refl [] wr).alloc (.cells #[.int .u8 ((s[k]'hlt).toNat : Int)] 5)) (by simp)
          have hT2 := hR.kept ((Fr.refl [] wr).alloc (.cells #[.int .u8 ((s[k]'hlt).toNat : Int)] 5)) (by simp)
          have hB1 := hB.alloc hsz (.cells #[.int .u8 ((s[k]'hlt).toNat : Int)] 5)
          have hO1 := hV.1.alloc (.cells #[.int .u8 ((s[k]'hlt).toNat : Int)] 5)
          have hsz1 : P ≤ (wr.alloc (.cells #[.int .u8 ((s[k]'hlt).toNat : Int)] 5)).heap.size := by simp; omega
          obtain ⟨g, cap, hvv⟩ := hV.2
          have HVV := Lib.hid hvv; clear hvv
          go_wp2_with (at_builtin; refine wpList_append_own _ rfl _ _ 55 rfl P 5 i0 (.int .u8 0) 1 1 Tryz.underlying55 HII.out HZ0.out HZ1.out HZ2.out rfl (by decide) _ o.length (Lib.byteCells o) rfl hO1 ⟨wr.heap.size, 0, none⟩ 1 1 [.int .u8 ((s[k]'hlt).toNat : Int)] rfl rfl HN.out (by intro u hu; simp at hu; subst hu; rfl) ?c3 ?c4 ?c5 ?_)
          case c3 => unfold maxLen; omega
          case c4 => omega
          case c5 => exact hsz1
          intro v' w3 hown' hgrow _
          have hP4 : TokAt P ⟨1, a, a, 0, 0, []⟩ w3 := (hgrow.block P (lt_of_block hT1) (fun e => hap1 e.symm)).trans hT1
          have hR4 : TokAt R noTk w3 := (hgrow.block R (lt_of_block hT2) (fun e => hap2 e.symm)).trans hT2
          have hB4 := hB1.grown hgrow hsz1 (fun g hg => (World.ownsRow.lt hO1 g hg).1)
          have hV4 := Byts.grow hown'
          go_wp2_with fail
          go_roundw
          case rel => exact ⟨k + 1, _, _, rfl, by omega, hP4, hR4, hB4, hV4, HM3.out, by first | rfl | go_num⟩
          case measure => simp [intOf]; omega
    · have t0 : decide ((s.size : Int) ≤ (k : Int)) = true := by simp; omega
      have t0' : s.size ≤ k := by omega
      have HR := Lib.hid (hmk.torn (by rw [HL.out]; omega))
      clear hmk
      go_upto_region 4 with (fail)
      obtain ⟨T, hT⟩ : ∃ T : Tk, T = ⟨1, a, a, 0, 0, []⟩ := ⟨_, rfl⟩
      rw [← hT] at hP
      have HT := Lib.hid hT; clear hT
      have z0 : wr.cell? ⟨P, 0, none⟩ = some (.int .i64 T.kind) := hP.cell 0
      have q0 : wr.cell? ⟨R, 0, none⟩ = some (.int .i64 0) := hR.cell 0
      have p0 := hR.free 0
      have z1 : wr.cell? ⟨P, 1, none⟩ = some (.int .i64 T.pos) := hP.cell 1
      have q1 : wr.cell? ⟨R, 1, none⟩ = some (.int .i64 0) := hR.cell 1
      have p1 := hR.free 1
      have z2 : wr.cell? ⟨P, 2, none⟩ = some (.int .i64 T.next) := hP.cell 2
      have q2 : wr.cell? ⟨R, 2, none⟩ = some (.int .i64 0) := hR.cell 2
      have p2 := hR.free 2
      have z3 : wr.cell? ⟨P, 3, none⟩ = some (.int .i64 T.num) := hP.cell 3
      have q3 : wr.cell? ⟨R, 3, none⟩ = some (.int .i64 0) := hR.cell 3
      have p3 := hR.free 3
      have z4 : wr.cell? ⟨P, 4, none⟩ = some (.float .f64 T.flt) := hP.cell 4
      have q4 : wr.cell? ⟨R, 4, none⟩ = some (.float .f64 0) := hR.cell 4
      have p4 := hR.free 4
      have z5 : wr.cell? ⟨P, 5, none⟩ = some (.string ⟨T.str.toArray⟩) := hP.cell 5
      have q5 : wr.cell? ⟨R, 5, none⟩ = some (.string ⟨#[]⟩) := hR.cell 5
      have p5 := hR.free 5
      go_wp2_with fail
      change bodyPost _ _ _ _ _ (putTok wr R T)
      have g1 := hR.putTok T
      have g3 : Below P w (putTok wr R T) := putTok_below hB hPle _
      clear hR hB hP z0 z1 z2 z3 z4 z5 q0 q1 q2 q3 q4 q5 p0 p1 p2 p3 p4 p5
      generalize putTok wr R T = WX at *
      have v0 : WX.cell? ⟨R, 0, none⟩ = some (.int .i64 T.kind) := g1.cell 0
      have v1 : WX.cell? ⟨R, 1, none⟩ = some (.int .i64 T.pos) := g1.cell 1
      have v2 : WX.cell? ⟨R, 2, none⟩ = some (.int .i64 T.next) := g1.cell 2
      have v3 : WX.cell? ⟨R, 3, none⟩ = some (.int .i64 T.num) := g1.cell 3
      have v4 : WX.cell? ⟨R, 4, none⟩ = some (.float .f64 T.flt) := g1.cell 4
      have v5 : WX.cell? ⟨R, 5, none⟩ = some (.string ⟨T.str.toArray⟩) := g1.cell 5
      refine bodyPost_ret (v := .tuple #[.agg (tokCells T), .int .i64 14]) (by simp [results, Tryz.results20, go_sem, tokCells_mk T, v0, v1, v2, v3, v4, v5]) rfl ?_
      exact ⟨T, by rw [HR.out], (fun h => by rw [HR.out] at h; cases h), by rw [HGH.out]; exact g3⟩
end Go.Proofs.YtkcbkfflabkcgaaGreatDoor
