/-
  The walk of the lexer's token.
-/
import Derived.Test.YtkcbkfflabkcgaaDoorKa
import Derived.Laws.ResultCell
namespace Go.Proofs.YtkcbkfflabkcgaaDoor
open Go.RowKit

theorem Reads.out {b t : Nat} {s : ByteArray} {a : Nat} {r : Tk × Int} {w : World} {e : Ending} {w' : World} (h : Reads b t s a r w e w') :
    ∃ k c, e = .returned (.int .i64 r.2) ∧ Fr [b, t] w w' ∧ TokAt t k w' ∧ LexAt b s c w' ∧ c ≤ s.size ∧ k.pos = a ∧ (r.2 = 0 → { k with next := c } = r.1) := by
  obtain ⟨h1, h2, ⟨k, c, h3, h4, h5, h6⟩, h7⟩ := h
  by_cases h0 : r.2 = 0
  · obtain ⟨g1, g2, g3, g4⟩ := h7 h0
    exact ⟨_, _, h1, h2, g1, g2, g3, g4, fun _ => rfl⟩
  · exact ⟨k, c, h1, h2, h4, h5, h6, h3, fun h => absurd h h0⟩
/-- what a reading of a token leaves -/
def TokRes (b : Nat) (s : ByteArray) (r : Tk × Int) (a : Nat) (w : World) (e : Ending) (w' : World) : Prop :=
  ∃ (k : Tk) (c : Nat), e = .returned (.tuple #[.agg (tokCells k), .int .i64 r.2]) ∧ k.pos = a ∧ LexAt b s c w' ∧ c ≤ s.size ∧ Fr [b] w w' ∧ (r.2 = 0 → k = r.1 ∧ c = r.1.next)
theorem Fr.less {b t : Nat} {a w w' : World} (h : Fr [b] a w) (k : Fr [b, t] w w') (ht : a.heap.size ≤ t) : Fr [b] a w' :=
  ⟨k.os.trans h.os, k.tape.trans h.tape, k.output.trans h.output, Nat.le_trans h.size k.size, fun i hi hn => (k.block i (Nat.lt_of_lt_of_le hi h.size) (by simp at hn ⊢; omega)).trans (h.block i hi hn)⟩
theorem Fr.putNew {b : Nat} {a w : World} (h : Fr [b] a w) (p : Addr) (hp : a.heap.size ≤ p.block) (v : Value) : Fr [b] a (w.setCell p v) :=
  h.less (t := p.block) ((Fr.refl [b, p.block] w).setCell p (by simp) v) hp
/-- a token laid into a block, cell by cell -/
def putTok (W : World) (H : Nat) (k : Tk) : World :=
  (((((W.setCell ⟨H, 0, none⟩ (.int .i64 k.kind)).setCell ⟨H, 1, none⟩ (.int .i64 k.pos)).setCell ⟨H, 2, none⟩ (.int .i64 k.next)).setCell ⟨H, 3, none⟩ (.int .i64 k.num)).setCell ⟨H, 4, none⟩ (.float .f64 k.flt)).setCell ⟨H, 5, none⟩ (.string ⟨k.str.toArray⟩)
theorem LexAt.putTok {b : Nat} {s : ByteArray} {a : Nat} {w : World} (h : LexAt b s a w) {H : Nat} (hne : b ≠ H) (k : Tk) : LexAt b s a (putTok w H k) :=
  (((((h.other ⟨H, 0, none⟩ _ hne).other ⟨H, 1, none⟩ _ hne).other ⟨H, 2, none⟩ _ hne).other ⟨H, 3, none⟩ _ hne).other ⟨H, 4, none⟩ _ hne).other ⟨H, 5, none⟩ _ hne
theorem Fr.putTok {b : Nat} {a w : World} (h : Fr [b] a w) {H : Nat} (hH : a.heap.size ≤ H) (k : Tk) : Fr [b] a (putTok w H k) :=
  (((((h.putNew ⟨H, 0, none⟩ hH _).putNew ⟨H, 1, none⟩ hH _).putNew ⟨H, 2, none⟩ hH _).putNew ⟨H, 3, none⟩ hH _).putNew ⟨H, 4, none⟩ hH _).putNew ⟨H, 5, none⟩ hH _
theorem TokAt.putTok {H : Nat} {k0 : Tk} {w : World} (h : TokAt H k0 w) (k : Tk) : TokAt H k (putTok w H k) :=
  (((((h.set (k' := { k0 with kind := k.kind }) 0 _ rfl).set (k' := { k0 with kind := k.kind, pos := k.pos }) 1 _ rfl).set (k' := { k0 with kind := k.kind, pos := k.pos, next := k.next }) 2 _ rfl).set (k' := { k0 with kind := k.kind, pos := k.pos, next := k.next, num := k.num }) 3 _ rfl).set (k' := { k0 with kind := k.kind, pos := k.pos, next := k.next, num := k.num, flt := k.flt }) 4 _ rfl).set (k' := k) 5 _ rfl

set_option maxRecDepth 100000 in
set_option maxHeartbeats 8000000 in
theorem token_any (s : ByteArray) (hs : s.size ≤ 1000000) (a0 b B : Nat) (ha0 : a0 ≤ s.size) (hBb : B ≤ b) (w : World) (hb : LexAt b s a0 w) (hE : EnvB B w) :
    Calls Tryd.prog 15 #[.pointer (some ⟨b, 0, none⟩)] w (TokRes b s (tokS s.data.toList a0) (a0 + far isBl s.data.toList a0) w) := by
  have hl : s.data.toList.length = s.size := by simp
  have HL := Lib.hid hl
  have hfl := far_le isBl s.data.toList (a := a0) (by rw [hl]; exact ha0)
  rw [hl] at hfl
  have hblt := lt_of_block hb
  have hr := tokS.eq_def s.data.toList a0
  simp only at hr
  have HR0 := Lib.hid hr; clear hr
  have hX := hb.kept ((Fr.refl [] w).alloc (.cells (tokCells ⟨0, 0, 0, 0, 0, []⟩) 30)) (by simp)
  have hE1 := hE.below ((Below.refl B w).alloc hE.1 (.cells (tokCells ⟨0, 0, 0, 0, 0, []⟩) 30))
  have hR : TokAt w.heap.size ⟨0, 0, 0, 0, 0, []⟩ (w.alloc (.cells (tokCells ⟨0, 0, 0, 0, 0, []⟩) 30)) := heap_alloc_new w _
  have hF1 := (Fr.refl [b] w).alloc (.cells (tokCells ⟨0, 0, 0, 0, 0, []⟩) 30)
  have HW := Lib.hid (while_any 22 enters_blank isBl (isBlank_any) s hs a0 b ha0)
  have hz1 : (w.alloc (.cells (tokCells ⟨0, 0, 0, 0, 0, []⟩) 30)).heap.size = w.heap.size + 1 := by simp
  have HZ := Lib.hid hz1; clear hz1 hl
  go_enter Tryd.func15, Tryd.ntmps15
  go_wp2_with fail
  refine (HW.out _ hX).mono ?_; rintro e w1 ⟨rfl, hlx, hfr⟩
  replace hR := hR.kept hfr (by simp; omega)
  replace hF1 := hF1.trans hfr
  replace hE1 := hE1.below (hfr.below hE1.1 (by simp; omega))
  have hg1 : w.heap.size + 1 ≤ w1.heap.size := by have := hfr.size; have := HZ.out; omega
  clear hX hfr HZ
  generalize a0 + far isBl s.data.toList a0 = a at *
  generalize hgh : w.heap.size = H at *
  have l0 := hlx.c0; have l1 := hlx.c1
  have hst := store_float
  go_wp2_with fail
  have htk : TokAt w1.heap.size ⟨1, a, 0, 0, 0, []⟩ (w1.alloc (.cells #[.int .i64 1, .int .i64 a, .int .i64 0, .int .i64 0, .float .f64 0, .string ⟨#[]⟩] 30)) := heap_alloc_new w1 _
  replace hlx := hlx.kept ((Fr.refl [] w1).alloc (.cells #[.int .i64 1, .int .i64 a, .int .i64 0, .int .i64 0, .float .f64 0, .string ⟨#[]⟩] 30)) (by simp)
  replace hR := hR.kept ((Fr.refl [] w1).alloc (.cells #[.int .i64 1, .int .i64 a, .int .i64 0, .int .i64 0, .float .f64 0, .string ⟨#[]⟩] 30)) (by simp)
  replace hF1 := hF1.alloc (.cells #[.int .i64 1, .int .i64 a, .int .i64 0, .int .i64 0, .float .f64 0, .string ⟨#[]⟩] 30)
  replace hE1 := hE1.below ((Below.refl B w1).alloc hE1.1 (.cells #[.int .i64 1, .int .i64 a, .int .i64 0, .int .i64 0, .float .f64 0, .string ⟨#[]⟩] 30))
  have hBT : B ≤ w1.heap.size := by have := hE.1; omega
  generalize w1.alloc (.cells #[.int .i64 1, .int .i64 a, .int .i64 0, .int .i64 0, .float .f64 0, .string ⟨#[]⟩] 30) = W2 at *
  generalize hgt : w1.heap.size = T at *
  have hbT : b ≠ T := by omega
  have hbH : b ≠ H := by omega
  have hHT : H ≠ T := by omega
  have hFr : Fr [b] w W2 := by exact hF1
  clear hF1 hgt l0 l1 HW
  have l0 := hlx.c0; have l1 := hlx.c1
  have HR := Lib.hid HR0.out; clear HR0
  have he : a = s.data.toList.length ↔ a = s.size := by rw [HL.out]
  by_cases h1 : a = s.size
  · have t1 : ((a : Int) == (s.size : Int)) = true := by rw [h1]; exact beq_self_eq_true _
    have hr := HR.out
    rw [if_pos (he.2 h1)] at hr
    have HR2 := Lib.hid hr
    clear hr HR he
    obtain ⟨k, hk⟩ : ∃ k : Tk, k = ⟨1, a, 0, 0, 0, []⟩ := ⟨_, rfl⟩
    rw [← hk] at htk
    have HK := Lib.hid hk; clear hk h1
    go_wp2_with fail
    go_quiet (fail)
    replace hlx := hlx.drewN nq; replace htk := htk.drewN nq; replace hFr := hFr.drewN nq; replace hR := hR.drewN nq; replace hE1 := hE1.drewN nq
    clear l0 l1
    generalize W2.drewN nq = W3 at *
    have l0 := hlx.c0; have l1 := hlx.c1
    have htk2 := htk.set (k' := { k with next := a }) 2 (.int .i64 (a : Nat)) rfl
    have hlx2 := hlx.other ⟨T, 2, none⟩ (.int .i64 (a : Nat)) hbT
    have hR2 := hR.other ⟨T, 2, none⟩ (.int .i64 (a : Nat)) hHT
    have hF2 := hFr.putNew ⟨T, 2, none⟩ (by show w.heap.size ≤ T; omega) (.int .i64 (a : Nat))
    have y2 := htk.free 2
    have hTH : T ≠ H := Ne.symm hHT
    have z0 : (W3.setCell ⟨T, 2, none⟩ (.int .i64 (a : Nat))).cell? ⟨T, 0, none⟩ = some (.int .i64 k.kind) := htk2.cell 0
    have q0 : (W3.setCell ⟨T, 2, none⟩ (.int .i64 (a : Nat))).cell? ⟨H, 0, none⟩ = some (.int .i64 0) := hR2.cell 0
    have p0 := hR2.free 0
    have x0 : W3.cell? ⟨T, 0, none⟩ = some (.int .i64 k.kind) := htk.cell 0
    have r0 : W3.cell? ⟨H, 0, none⟩ = some (.int .i64 0) := hR.cell 0
    have o0 := hR.free 0
    have z1 : (W3.setCell ⟨T, 2, none⟩ (.int .i64 (a : Nat))).cell? ⟨T, 1, none⟩ = some (.int .i64 k.pos) := htk2.cell 1
    have q1 : (W3.setCell ⟨T, 2, none⟩ (.int .i64 (a : Nat))).cell? ⟨H, 1, none⟩ = some (.int .i64 0) := hR2.cell 1
    have p1 := hR2.free 1
    have x1 : W3.cell? ⟨T, 1, none⟩ = some (.int .i64 k.pos) := htk.cell 1
    have r1 : W3.cell? ⟨H, 1, none⟩ = some (.int .i64 0) := hR.cell 1
    have o1 := hR.free 1
    have z2 : (W3.setCell ⟨T, 2, none⟩ (.int .i64 (a : Nat))).cell? ⟨T, 2, none⟩ = some (.int .i64 (a : Nat)) := htk2.cell 2
    have q2 : (W3.setCell ⟨T, 2, none⟩ (.int .i64 (a : Nat))).cell? ⟨H, 2, none⟩ = some (.int .i64 0) := hR2.cell 2
    have p2 := hR2.free 2
    have x2 : W3.cell? ⟨T, 2, none⟩ = some (.int .i64 k.next) := htk.cell 2
    have r2 : W3.cell? ⟨H, 2, none⟩ = some (.int .i64 0) := hR.cell 2
    have o2 := hR.free 2
    have z3 : (W3.setCell ⟨T, 2, none⟩ (.int .i64 (a : Nat))).cell? ⟨T, 3, none⟩ = some (.int .i64 k.num) := htk2.cell 3
    have q3 : (W3.setCell ⟨T, 2, none⟩ (.int .i64 (a : Nat))).cell? ⟨H, 3, none⟩ = some (.int .i64 0) := hR2.cell 3
    have p3 := hR2.free 3
    have x3 : W3.cell? ⟨T, 3, none⟩ = some (.int .i64 k.num) := htk.cell 3
    have r3 : W3.cell? ⟨H, 3, none⟩ = some (.int .i64 0) := hR.cell 3
    have o3 := hR.free 3
    have z4 : (W3.setCell ⟨T, 2, none⟩ (.int .i64 (a : Nat))).cell? ⟨T, 4, none⟩ = some (.float .f64 k.flt) := htk2.cell 4
    have q4 : (W3.setCell ⟨T, 2, none⟩ (.int .i64 (a : Nat))).cell? ⟨H, 4, none⟩ = some (.float .f64 0) := hR2.cell 4
    have p4 := hR2.free 4
    have x4 : W3.cell? ⟨T, 4, none⟩ = some (.float .f64 k.flt) := htk.cell 4
    have r4 : W3.cell? ⟨H, 4, none⟩ = some (.float .f64 0) := hR.cell 4
    have o4 := hR.free 4
    have z5 : (W3.setCell ⟨T, 2, none⟩ (.int .i64 (a : Nat))).cell? ⟨T, 5, none⟩ = some (.string ⟨k.str.toArray⟩) := htk2.cell 5
    have q5 : (W3.setCell ⟨T, 2, none⟩ (.int .i64 (a : Nat))).cell? ⟨H, 5, none⟩ = some (.string ⟨#[]⟩) := hR2.cell 5
    have p5 := hR2.free 5
    have x5 : W3.cell? ⟨T, 5, none⟩ = some (.string ⟨k.str.toArray⟩) := htk.cell 5
    have r5 : W3.cell? ⟨H, 5, none⟩ = some (.string ⟨#[]⟩) := hR.cell 5
    have o5 := hR.free 5
    have hR2' := hR2
    clear htk2 hR hR2 htk
    go_wp2_with fail
    change bodyPost _ _ _ _ _ (putTok (W3.setCell ⟨T, 2, none⟩ (.int .i64 (a : Nat))) H { k with next := a })
    have g1 := hR2'.putTok { k with next := a }
    have g2 := hlx2.putTok hbH { k with next := a }
    have g3 := hF2.putTok (H := H) (by omega) { k with next := a }
    clear hlx2 hF2 z0 z1 z2 z3 z4 z5 q0 q1 q2 q3 q4 q5 p0 p1 p2 p3 p4 p5 x0 x1 x2 x3 x4 x5 r0 r1 r2 r3 r4 r5 o0 o1 o2 o3 o4 o5 y2
    generalize putTok (W3.setCell ⟨T, 2, none⟩ (.int .i64 (a : Nat))) H { k with next := a } = WX at *
    have v0 : WX.cell? ⟨H, 0, none⟩ = some (.int .i64 k.kind) := g1.cell 0
    have v1 : WX.cell? ⟨H, 1, none⟩ = some (.int .i64 k.pos) := g1.cell 1
    have v2 : WX.cell? ⟨H, 2, none⟩ = some (.int .i64 (a : Nat)) := g1.cell 2
    have v3 : WX.cell? ⟨H, 3, none⟩ = some (.int .i64 k.num) := g1.cell 3
    have v4 : WX.cell? ⟨H, 4, none⟩ = some (.float .f64 k.flt) := g1.cell 4
    have v5 : WX.cell? ⟨H, 5, none⟩ = some (.string ⟨k.str.toArray⟩) := g1.cell 5
    refine bodyPost_ret (v := .tuple #[.agg (tokCells { k with next := a }), .int .i64 0]) (by simp [results, Tryd.results15, go_sem, tokCells, v0, v1, v2, v3, v4, v5]) rfl ?_
    exact ⟨{ k with next := a }, a, by rw [HR2.out], by rw [HK.out], g2, hfl, g3, fun _ => by rw [HR2.out, HK.out]; exact ⟨rfl, rfl⟩⟩
  · have ha : a < s.size := by omega
    have t1 : ((a : Int) == (s.size : Int)) = false := by rw [beq_eq_false_iff_ne]; omega
    have hr := HR.out
    rw [if_neg (fun e => h1 (he.1 e))] at hr
    have hg : s.data.toList.getD a 0 = s[a]'ha := by
      have h2 := byte_at s a ha
      rw [List.getD_eq_getElem?_getD, h2]; rfl
    have hgd : ∀ p : UInt8 → Bool, p (s[a]'ha) = true → 1 ≤ far p s.data.toList a := fun p hp => by rw [far_go p (by rw [HL.out]; exact ha) (by rw [hg]; exact hp)]; omega
    have HGD := Lib.hid hgd
    rw [hg] at hr
    clear HR he h1 hg hgd
    have HD := isDigit_any (s[a]'ha)
    cases hd : isDig (s[a]'ha)
    · rw [hd] at HD hr
      have HD := Lib.hid HD
      have HM := isName_any (s[a]'ha)
      simp only [Bool.false_eq_true, if_false] at hr
      cases hl : isLet (s[a]'ha)
      · rw [hl] at hr
        simp only [Bool.false_eq_true, if_false] at hr
        have hnm : isNm (s[a]'ha) = (s[a]'ha == 95) := by unfold isNm; rw [hl, hd]; rfl
        by_cases h95 : s[a]'ha = 95
        · have t2 : (((s[a]'ha).toNat : Int) != 95) = false := by rw [h95]; rfl
          have t3 : (((s[a]'ha).toNat : Int) == 34) = false := by rw [h95]; rfl
          rw [hnm, h95] at HM
          simp only [beq_self_eq_true] at HM
          rw [h95] at hr
          rw [← h95] at HM
          have HM := Lib.hid HM
          clear hnm h95 hd hl HGD
          rw [if_neg (by decide)] at hr
          have HN := Lib.hid (fun w (h1 : LexAt b s a w) (h2 : TokAt T ⟨1, a, 0, 0, 0, []⟩ w) (h3 : EnvB B w) => sign_any s hs a b T ha hbT w h1 h2)
          generalize signS s.data.toList a = r at *
          have HR2 := Lib.hid hr
          clear hr
          go_wp2_with fail
          go_quiet (fail)
          replace hlx := hlx.drewN nq; replace htk := htk.drewN nq; replace hFr := hFr.drewN nq; replace hR := hR.drewN nq; replace hE1 := hE1.drewN nq
          clear l0 l1
          generalize W2.drewN nq = W3 at *
          have l0 := hlx.c0; have l1 := hlx.c1
          go_wp2_with fail
          go_quiet (refine Calls.quiet_of_same ((HD.out _).mono fun _ _ h => ⟨h.1, h.2.symm⟩))
          replace hlx := hlx.drewN nq; replace htk := htk.drewN nq; replace hFr := hFr.drewN nq; replace hR := hR.drewN nq; replace hE1 := hE1.drewN nq
          clear l0 l1
          generalize W3.drewN nq = W4 at *
          have l0 := hlx.c0; have l1 := hlx.c1
          go_wp2_with fail
          go_quiet (refine Calls.quiet_of_same ((HM.out _).mono fun _ _ h => ⟨h.1, h.2.symm⟩))
          replace hlx := hlx.drewN nq; replace htk := htk.drewN nq; replace hFr := hFr.drewN nq; replace hR := hR.drewN nq; replace hE1 := hE1.drewN nq
          clear l0 l1
          generalize W4.drewN nq = W5 at *
          have l0 := hlx.c0; have l1 := hlx.c1
          go_wp2_with fail
          go_quiet (fail)
          replace hlx := hlx.drewN nq; replace htk := htk.drewN nq; replace hFr := hFr.drewN nq; replace hR := hR.drewN nq; replace hE1 := hE1.drewN nq
          clear l0 l1
          generalize W5.drewN nq = W6 at *
          have l0 := hlx.c0; have l1 := hlx.c1
          go_wp2_with fail
          refine (HN.out _ hlx htk hE1).mono ?_; intro e w5 hrd
          obtain ⟨k, c, rfl, hf5, htk5, hlx5, hc, hp, hk⟩ := hrd.out
          have HK := Lib.hid hk
          have HPo := Lib.hid hp
          clear hk hp hrd l0 l1 htk hlx
          have htk := htk5; have hlx := hlx5
          clear htk5 hlx5
          replace hR := hR.kept hf5 (by simp; omega)
          replace hFr := hFr.less hf5 (by omega)
          have l0 := hlx.c0; have l1 := hlx.c1
          have htk2 := htk.set (k' := { k with next := c }) 2 (.int .i64 (c : Nat)) rfl
          have hlx2 := hlx.other ⟨T, 2, none⟩ (.int .i64 (c : Nat)) hbT
          have hR2 := hR.other ⟨T, 2, none⟩ (.int .i64 (c : Nat)) hHT
          have hF2 := hFr.putNew ⟨T, 2, none⟩ (by show w.heap.size ≤ T; omega) (.int .i64 (c : Nat))
          have y2 := htk.free 2
          have hTH : T ≠ H := Ne.symm hHT
          have z0 : (w5.setCell ⟨T, 2, none⟩ (.int .i64 (c : Nat))).cell? ⟨T, 0, none⟩ = some (.int .i64 k.kind) := htk2.cell 0
          have q0 : (w5.setCell ⟨T, 2, none⟩ (.int .i64 (c : Nat))).cell? ⟨H, 0, none⟩ = some (.int .i64 0) := hR2.cell 0
          have p0 := hR2.free 0
          have x0 : w5.cell? ⟨T, 0, none⟩ = some (.int .i64 k.kind) := htk.cell 0
          have r0 : w5.cell? ⟨H, 0, none⟩ = some (.int .i64 0) := hR.cell 0
          have o0 := hR.free 0
          have z1 : (w5.setCell ⟨T, 2, none⟩ (.int .i64 (c : Nat))).cell? ⟨T, 1, none⟩ = some (.int .i64 k.pos) := htk2.cell 1
          have q1 : (w5.setCell ⟨T, 2, none⟩ (.int .i64 (c : Nat))).cell? ⟨H, 1, none⟩ = some (.int .i64 0) := hR2.cell 1
          have p1 := hR2.free 1
          have x1 : w5.cell? ⟨T, 1, none⟩ = some (.int .i64 k.pos) := htk.cell 1
          have r1 : w5.cell? ⟨H, 1, none⟩ = some (.int .i64 0) := hR.cell 1
          have o1 := hR.free 1
          have z2 : (w5.setCell ⟨T, 2, none⟩ (.int .i64 (c : Nat))).cell? ⟨T, 2, none⟩ = some (.int .i64 (c : Nat)) := htk2.cell 2
          have q2 : (w5.setCell ⟨T, 2, none⟩ (.int .i64 (c : Nat))).cell? ⟨H, 2, none⟩ = some (.int .i64 0) := hR2.cell 2
          have p2 := hR2.free 2
          have x2 : w5.cell? ⟨T, 2, none⟩ = some (.int .i64 k.next) := htk.cell 2
          have r2 : w5.cell? ⟨H, 2, none⟩ = some (.int .i64 0) := hR.cell 2
          have o2 := hR.free 2
          have z3 : (w5.setCell ⟨T, 2, none⟩ (.int .i64 (c : Nat))).cell? ⟨T, 3, none⟩ = some (.int .i64 k.num) := htk2.cell 3
          have q3 : (w5.setCell ⟨T, 2, none⟩ (.int .i64 (c : Nat))).cell? ⟨H, 3, none⟩ = some (.int .i64 0) := hR2.cell 3
          have p3 := hR2.free 3
          have x3 : w5.cell? ⟨T, 3, none⟩ = some (.int .i64 k.num) := htk.cell 3
          have r3 : w5.cell? ⟨H, 3, none⟩ = some (.int .i64 0) := hR.cell 3
          have o3 := hR.free 3
          have z4 : (w5.setCell ⟨T, 2, none⟩ (.int .i64 (c : Nat))).cell? ⟨T, 4, none⟩ = some (.float .f64 k.flt) := htk2.cell 4
          have q4 : (w5.setCell ⟨T, 2, none⟩ (.int .i64 (c : Nat))).cell? ⟨H, 4, none⟩ = some (.float .f64 0) := hR2.cell 4
          have p4 := hR2.free 4
          have x4 : w5.cell? ⟨T, 4, none⟩ = some (.float .f64 k.flt) := htk.cell 4
          have r4 : w5.cell? ⟨H, 4, none⟩ = some (.float .f64 0) := hR.cell 4
          have o4 := hR.free 4
          have z5 : (w5.setCell ⟨T, 2, none⟩ (.int .i64 (c : Nat))).cell? ⟨T, 5, none⟩ = some (.string ⟨k.str.toArray⟩) := htk2.cell 5
          have q5 : (w5.setCell ⟨T, 2, none⟩ (.int .i64 (c : Nat))).cell? ⟨H, 5, none⟩ = some (.string ⟨#[]⟩) := hR2.cell 5
          have p5 := hR2.free 5
          have x5 : w5.cell? ⟨T, 5, none⟩ = some (.string ⟨k.str.toArray⟩) := htk.cell 5
          have r5 : w5.cell? ⟨H, 5, none⟩ = some (.string ⟨#[]⟩) := hR.cell 5
          have o5 := hR.free 5
          have hR2' := hR2
          clear htk2 hR hR2 htk
          go_wp2_with fail
          change bodyPost _ _ _ _ _ (putTok (w5.setCell ⟨T, 2, none⟩ (.int .i64 (c : Nat))) H { k with next := c })
          have g1 := hR2'.putTok { k with next := c }
          have g2 := hlx2.putTok hbH { k with next := c }
          have g3 := hF2.putTok (H := H) (by omega) { k with next := c }
          clear hlx2 hF2 z0 z1 z2 z3 z4 z5 q0 q1 q2 q3 q4 q5 p0 p1 p2 p3 p4 p5 x0 x1 x2 x3 x4 x5 r0 r1 r2 r3 r4 r5 o0 o1 o2 o3 o4 o5 y2
          generalize putTok (w5.setCell ⟨T, 2, none⟩ (.int .i64 (c : Nat))) H { k with next := c } = WX at *
          have v0 : WX.cell? ⟨H, 0, none⟩ = some (.int .i64 k.kind) := g1.cell 0
          have v1 : WX.cell? ⟨H, 1, none⟩ = some (.int .i64 k.pos) := g1.cell 1
          have v2 : WX.cell? ⟨H, 2, none⟩ = some (.int .i64 (c : Nat)) := g1.cell 2
          have v3 : WX.cell? ⟨H, 3, none⟩ = some (.int .i64 k.num) := g1.cell 3
          have v4 : WX.cell? ⟨H, 4, none⟩ = some (.float .f64 k.flt) := g1.cell 4
          have v5 : WX.cell? ⟨H, 5, none⟩ = some (.string ⟨k.str.toArray⟩) := g1.cell 5
          refine bodyPost_ret (v := .tuple #[.agg (tokCells { k with next := c }), .int .i64 r.2]) (by simp [results, Tryd.results15, go_sem, tokCells, v0, v1, v2, v3, v4, v5]) rfl ?_
          exact ⟨{ k with next := c }, c, by rw [HR2.out], HPo.out, g2, hc, g3, fun h => by rw [HR2.out] at h ⊢; have h3 := HK.out h; rw [← h3]; exact ⟨rfl, rfl⟩⟩
        · have hnm0 : isNm (s[a]'ha) = false := by rw [hnm]; exact beq_eq_false_iff_ne.2 h95
          rw [hnm0] at HM
          have HM := Lib.hid HM
          clear hnm hnm0 h95 hd hl HGD
          by_cases h34 : s[a]'ha = 34
          · have t3 : (((s[a]'ha).toNat : Int) == 34) = true := by rw [h34]; rfl
            rw [if_pos h34] at hr
            have HN := Lib.hid (fun w (h1 : LexAt b s a w) (h2 : TokAt T ⟨1, a, 0, 0, 0, []⟩ w) (h3 : EnvB B w) => str_any s hs a b T ha hbT w h1 h2)
            generalize strS s.data.toList a = r at *
            have HR2 := Lib.hid hr
            clear hr
            clear h34
            go_wp2_with fail
            go_quiet (fail)
            replace hlx := hlx.drewN nq; replace htk := htk.drewN nq; replace hFr := hFr.drewN nq; replace hR := hR.drewN nq; replace hE1 := hE1.drewN nq
            clear l0 l1
            generalize W2.drewN nq = W3 at *
            have l0 := hlx.c0; have l1 := hlx.c1
            go_wp2_with fail
            go_quiet (refine Calls.quiet_of_same ((HD.out _).mono fun _ _ h => ⟨h.1, h.2.symm⟩))
            replace hlx := hlx.drewN nq; replace htk := htk.drewN nq; replace hFr := hFr.drewN nq; replace hR := hR.drewN nq; replace hE1 := hE1.drewN nq
            clear l0 l1
            generalize W3.drewN nq = W4 at *
            have l0 := hlx.c0; have l1 := hlx.c1
            go_wp2_with fail
            go_quiet (refine Calls.quiet_of_same ((HM.out _).mono fun _ _ h => ⟨h.1, h.2.symm⟩))
            replace hlx := hlx.drewN nq; replace htk := htk.drewN nq; replace hFr := hFr.drewN nq; replace hR := hR.drewN nq; replace hE1 := hE1.drewN nq
            clear l0 l1
            generalize W4.drewN nq = W5 at *
            have l0 := hlx.c0; have l1 := hlx.c1
            go_wp2_with fail
            go_quiet (fail)
            replace hlx := hlx.drewN nq; replace htk := htk.drewN nq; replace hFr := hFr.drewN nq; replace hR := hR.drewN nq; replace hE1 := hE1.drewN nq
            clear l0 l1
            generalize W5.drewN nq = W6 at *
            have l0 := hlx.c0; have l1 := hlx.c1
            go_wp2_with fail
            refine (HN.out _ hlx htk hE1).mono ?_; intro e w5 hrd
            obtain ⟨k, c, rfl, hf5, htk5, hlx5, hc, hp, hk⟩ := hrd.out
            have HK := Lib.hid hk
            have HPo := Lib.hid hp
            clear hk hp hrd l0 l1 htk hlx
            have htk := htk5; have hlx := hlx5
            clear htk5 hlx5
            replace hR := hR.kept hf5 (by simp; omega)
            replace hFr := hFr.less hf5 (by omega)
            have l0 := hlx.c0; have l1 := hlx.c1
            have htk2 := htk.set (k' := { k with next := c }) 2 (.int .i64 (c : Nat)) rfl
            have hlx2 := hlx.other ⟨T, 2, none⟩ (.int .i64 (c : Nat)) hbT
            have hR2 := hR.other ⟨T, 2, none⟩ (.int .i64 (c : Nat)) hHT
            have hF2 := hFr.putNew ⟨T, 2, none⟩ (by show w.heap.size ≤ T; omega) (.int .i64 (c : Nat))
            have y2 := htk.free 2
            have hTH : T ≠ H := Ne.symm hHT
            have z0 : (w5.setCell ⟨T, 2, none⟩ (.int .i64 (c : Nat))).cell? ⟨T, 0, none⟩ = some (.int .i64 k.kind) := htk2.cell 0
            have q0 : (w5.setCell ⟨T, 2, none⟩ (.int .i64 (c : Nat))).cell? ⟨H, 0, none⟩ = some (.int .i64 0) := hR2.cell 0
            have p0 := hR2.free 0
            have x0 : w5.cell? ⟨T, 0, none⟩ = some (.int .i64 k.kind) := htk.cell 0
            have r0 : w5.cell? ⟨H, 0, none⟩ = some (.int .i64 0) := hR.cell 0
            have o0 := hR.free 0
            have z1 : (w5.setCell ⟨T, 2, none⟩ (.int .i64 (c : Nat))).cell? ⟨T, 1, none⟩ = some (.int .i64 k.pos) := htk2.cell 1
            have q1 : (w5.setCell ⟨T, 2, none⟩ (.int .i64 (c : Nat))).cell? ⟨H, 1, none⟩ = some (.int .i64 0) := hR2.cell 1
            have p1 := hR2.free 1
            have x1 : w5.cell? ⟨T, 1, none⟩ = some (.int .i64 k.pos) := htk.cell 1
            have r1 : w5.cell? ⟨H, 1, none⟩ = some (.int .i64 0) := hR.cell 1
            have o1 := hR.free 1
            have z2 : (w5.setCell ⟨T, 2, none⟩ (.int .i64 (c : Nat))).cell? ⟨T, 2, none⟩ = some (.int .i64 (c : Nat)) := htk2.cell 2
            have q2 : (w5.setCell ⟨T, 2, none⟩ (.int .i64 (c : Nat))).cell? ⟨H, 2, none⟩ = some (.int .i64 0) := hR2.cell 2
            have p2 := hR2.free 2
            have x2 : w5.cell? ⟨T, 2, none⟩ = some (.int .i64 k.next) := htk.cell 2
            have r2 : w5.cell? ⟨H, 2, none⟩ = some (.int .i64 0) := hR.cell 2
            have o2 := hR.free 2
            have z3 : (w5.setCell ⟨T, 2, none⟩ (.int .i64 (c : Nat))).cell? ⟨T, 3, none⟩ = some (.int .i64 k.num) := htk2.cell 3
            have q3 : (w5.setCell ⟨T, 2, none⟩ (.int .i64 (c : Nat))).cell? ⟨H, 3, none⟩ = some (.int .i64 0) := hR2.cell 3
            have p3 := hR2.free 3
            have x3 : w5.cell? ⟨T, 3, none⟩ = some (.int .i64 k.num) := htk.cell 3
            have r3 : w5.cell? ⟨H, 3, none⟩ = some (.int .i64 0) := hR.cell 3
            have o3 := hR.free 3
            have z4 : (w5.setCell ⟨T, 2, none⟩ (.int .i64 (c : Nat))).cell? ⟨T, 4, none⟩ = some (.float .f64 k.flt) := htk2.cell 4
            have q4 : (w5.setCell ⟨T, 2, none⟩ (.int .i64 (c : Nat))).cell? ⟨H, 4, none⟩ = some (.float .f64 0) := hR2.cell 4
            have p4 := hR2.free 4
            have x4 : w5.cell? ⟨T, 4, none⟩ = some (.float .f64 k.flt) := htk.cell 4
            have r4 : w5.cell? ⟨H, 4, none⟩ = some (.float .f64 0) := hR.cell 4
            have o4 := hR.free 4
            have z5 : (w5.setCell ⟨T, 2, none⟩ (.int .i64 (c : Nat))).cell? ⟨T, 5, none⟩ = some (.string ⟨k.str.toArray⟩) := htk2.cell 5
            have q5 : (w5.setCell ⟨T, 2, none⟩ (.int .i64 (c : Nat))).cell? ⟨H, 5, none⟩ = some (.string ⟨#[]⟩) := hR2.cell 5
            have p5 := hR2.free 5
            have x5 : w5.cell? ⟨T, 5, none⟩ = some (.string ⟨k.str.toArray⟩) := htk.cell 5
            have r5 : w5.cell? ⟨H, 5, none⟩ = some (.string ⟨#[]⟩) := hR.cell 5
            have o5 := hR.free 5
            have hR2' := hR2
            clear htk2 hR hR2 htk
            go_wp2_with fail
            change bodyPost _ _ _ _ _ (putTok (w5.setCell ⟨T, 2, none⟩ (.int .i64 (c : Nat))) H { k with next := c })
            have g1 := hR2'.putTok { k with next := c }
            have g2 := hlx2.putTok hbH { k with next := c }
            have g3 := hF2.putTok (H := H) (by omega) { k with next := c }
            clear hlx2 hF2 z0 z1 z2 z3 z4 z5 q0 q1 q2 q3 q4 q5 p0 p1 p2 p3 p4 p5 x0 x1 x2 x3 x4 x5 r0 r1 r2 r3 r4 r5 o0 o1 o2 o3 o4 o5 y2
            generalize putTok (w5.setCell ⟨T, 2, none⟩ (.int .i64 (c : Nat))) H { k with next := c } = WX at *
            have v0 : WX.cell? ⟨H, 0, none⟩ = some (.int .i64 k.kind) := g1.cell 0
            have v1 : WX.cell? ⟨H, 1, none⟩ = some (.int .i64 k.pos) := g1.cell 1
            have v2 : WX.cell? ⟨H, 2, none⟩ = some (.int .i64 (c : Nat)) := g1.cell 2
            have v3 : WX.cell? ⟨H, 3, none⟩ = some (.int .i64 k.num) := g1.cell 3
            have v4 : WX.cell? ⟨H, 4, none⟩ = some (.float .f64 k.flt) := g1.cell 4
            have v5 : WX.cell? ⟨H, 5, none⟩ = some (.string ⟨k.str.toArray⟩) := g1.cell 5
            refine bodyPost_ret (v := .tuple #[.agg (tokCells { k with next := c }), .int .i64 r.2]) (by simp [results, Tryd.results15, go_sem, tokCells, v0, v1, v2, v3, v4, v5]) rfl ?_
            exact ⟨{ k with next := c }, c, by rw [HR2.out], HPo.out, g2, hc, g3, fun h => by rw [HR2.out] at h ⊢; have h3 := HK.out h; rw [← h3]; exact ⟨rfl, rfl⟩⟩
          · have t3 : (((s[a]'ha).toNat : Int) == 34) = false := by rw [beq_eq_false_iff_ne]; intro e; exact h34 (UInt8.toNat_inj.1 (by show _ = 34; omega))
            rw [if_neg h34] at hr
            have HN := Lib.hid (fun w (h1 : LexAt b s a w) (h2 : TokAt T ⟨1, a, 0, 0, 0, []⟩ w) (h3 : EnvB B w) => sign_any s hs a b T ha hbT w h1 h2)
            generalize signS s.data.toList a = r at *
            have HR2 := Lib.hid hr
            clear hr
            clear h34
            go_wp2_with fail
            go_quiet (fail)
            replace hlx := hlx.drewN nq; replace htk := htk.drewN nq; replace hFr := hFr.drewN nq; replace hR := hR.drewN nq; replace hE1 := hE1.drewN nq
            clear l0 l1
            generalize W2.drewN nq = W3 at *
            have l0 := hlx.c0; have l1 := hlx.c1
            go_wp2_with fail
            go_quiet (refine Calls.quiet_of_same ((HD.out _).mono fun _ _ h => ⟨h.1, h.2.symm⟩))
            replace hlx := hlx.drewN nq; replace htk := htk.drewN nq; replace hFr := hFr.drewN nq; replace hR := hR.drewN nq; replace hE1 := hE1.drewN nq
            clear l0 l1
            generalize W3.drewN nq = W4 at *
            have l0 := hlx.c0; have l1 := hlx.c1
            go_wp2_with fail
            go_quiet (refine Calls.quiet_of_same ((HM.out _).mono fun _ _ h => ⟨h.1, h.2.symm⟩))
            replace hlx := hlx.drewN nq; replace htk := htk.drewN nq; replace hFr := hFr.drewN nq; replace hR := hR.drewN nq; replace hE1 := hE1.drewN nq
            clear l0 l1
            generalize W4.drewN nq = W5 at *
            have l0 := hlx.c0; have l1 := hlx.c1
            go_wp2_with fail
            go_quiet (fail)
            replace hlx := hlx.drewN nq; replace htk := htk.drewN nq; replace hFr := hFr.drewN nq; replace hR := hR.drewN nq; replace hE1 := hE1.drewN nq
            clear l0 l1
            generalize W5.drewN nq = W6 at *
            have l0 := hlx.c0; have l1 := hlx.c1
            go_wp2_with fail
            refine (HN.out _ hlx htk hE1).mono ?_; intro e w5 hrd
            obtain ⟨k, c, rfl, hf5, htk5, hlx5, hc, hp, hk⟩ := hrd.out
            have HK := Lib.hid hk
            have HPo := Lib.hid hp
            clear hk hp hrd l0 l1 htk hlx
            have htk := htk5; have hlx := hlx5
            clear htk5 hlx5
            replace hR := hR.kept hf5 (by simp; omega)
            replace hFr := hFr.less hf5 (by omega)
            have l0 := hlx.c0; have l1 := hlx.c1
            have htk2 := htk.set (k' := { k with next := c }) 2 (.int .i64 (c : Nat)) rfl
            have hlx2 := hlx.other ⟨T, 2, none⟩ (.int .i64 (c : Nat)) hbT
            have hR2 := hR.other ⟨T, 2, none⟩ (.int .i64 (c : Nat)) hHT
            have hF2 := hFr.putNew ⟨T, 2, none⟩ (by show w.heap.size ≤ T; omega) (.int .i64 (c : Nat))
            have y2 := htk.free 2
            have hTH : T ≠ H := Ne.symm hHT
            have z0 : (w5.setCell ⟨T, 2, none⟩ (.int .i64 (c : Nat))).cell? ⟨T, 0, none⟩ = some (.int .i64 k.kind) := htk2.cell 0
            have q0 : (w5.setCell ⟨T, 2, none⟩ (.int .i64 (c : Nat))).cell? ⟨H, 0, none⟩ = some (.int .i64 0) := hR2.cell 0
            have p0 := hR2.free 0
            have x0 : w5.cell? ⟨T, 0, none⟩ = some (.int .i64 k.kind) := htk.cell 0
            have r0 : w5.cell? ⟨H, 0, none⟩ = some (.int .i64 0) := hR.cell 0
            have o0 := hR.free 0
            have z1 : (w5.setCell ⟨T, 2, none⟩ (.int .i64 (c : Nat))).cell? ⟨T, 1, none⟩ = some (.int .i64 k.pos) := htk2.cell 1
            have q1 : (w5.setCell ⟨T, 2, none⟩ (.int .i64 (c : Nat))).cell? ⟨H, 1, none⟩ = some (.int .i64 0) := hR2.cell 1
            have p1 := hR2.free 1
            have x1 : w5.cell? ⟨T, 1, none⟩ = some (.int .i64 k.pos) := htk.cell 1
            have r1 : w5.cell? ⟨H, 1, none⟩ = some (.int .i64 0) := hR.cell 1
            have o1 := hR.free 1
            have z2 : (w5.setCell ⟨T, 2, none⟩ (.int .i64 (c : Nat))).cell? ⟨T, 2, none⟩ = some (.int .i64 (c : Nat)) := htk2.cell 2
            have q2 : (w5.setCell ⟨T, 2, none⟩ (.int .i64 (c : Nat))).cell? ⟨H, 2, none⟩ = some (.int .i64 0) := hR2.cell 2
            have p2 := hR2.free 2
            have x2 : w5.cell? ⟨T, 2, none⟩ = some (.int .i64 k.next) := htk.cell 2
            have r2 : w5.cell? ⟨H, 2, none⟩ = some (.int .i64 0) := hR.cell 2
            have o2 := hR.free 2
            have z3 : (w5.setCell ⟨T, 2, none⟩ (.int .i64 (c : Nat))).cell? ⟨T, 3, none⟩ = some (.int .i64 k.num) := htk2.cell 3
            have q3 : (w5.setCell ⟨T, 2, none⟩ (.int .i64 (c : Nat))).cell? ⟨H, 3, none⟩ = some (.int .i64 0) := hR2.cell 3
            have p3 := hR2.free 3
            have x3 : w5.cell? ⟨T, 3, none⟩ = some (.int .i64 k.num) := htk.cell 3
            have r3 : w5.cell? ⟨H, 3, none⟩ = some (.int .i64 0) := hR.cell 3
            have o3 := hR.free 3
            have z4 : (w5.setCell ⟨T, 2, none⟩ (.int .i64 (c : Nat))).cell? ⟨T, 4, none⟩ = some (.float .f64 k.flt) := htk2.cell 4
            have q4 : (w5.setCell ⟨T, 2, none⟩ (.int .i64 (c : Nat))).cell? ⟨H, 4, none⟩ = some (.float .f64 0) := hR2.cell 4
            have p4 := hR2.free 4
            have x4 : w5.cell? ⟨T, 4, none⟩ = some (.float .f64 k.flt) := htk.cell 4
            have r4 : w5.cell? ⟨H, 4, none⟩ = some (.float .f64 0) := hR.cell 4
            have o4 := hR.free 4
            have z5 : (w5.setCell ⟨T, 2, none⟩ (.int .i64 (c : Nat))).cell? ⟨T, 5, none⟩ = some (.string ⟨k.str.toArray⟩) := htk2.cell 5
            have q5 : (w5.setCell ⟨T, 2, none⟩ (.int .i64 (c : Nat))).cell? ⟨H, 5, none⟩ = some (.string ⟨#[]⟩) := hR2.cell 5
            have p5 := hR2.free 5
            have x5 : w5.cell? ⟨T, 5, none⟩ = some (.string ⟨k.str.toArray⟩) := htk.cell 5
            have r5 : w5.cell? ⟨H, 5, none⟩ = some (.string ⟨#[]⟩) := hR.cell 5
            have o5 := hR.free 5
            have hR2' := hR2
            clear htk2 hR hR2 htk
            go_wp2_with fail
            change bodyPost _ _ _ _ _ (putTok (w5.setCell ⟨T, 2, none⟩ (.int .i64 (c : Nat))) H { k with next := c })
            have g1 := hR2'.putTok { k with next := c }
            have g2 := hlx2.putTok hbH { k with next := c }
            have g3 := hF2.putTok (H := H) (by omega) { k with next := c }
            clear hlx2 hF2 z0 z1 z2 z3 z4 z5 q0 q1 q2 q3 q4 q5 p0 p1 p2 p3 p4 p5 x0 x1 x2 x3 x4 x5 r0 r1 r2 r3 r4 r5 o0 o1 o2 o3 o4 o5 y2
            generalize putTok (w5.setCell ⟨T, 2, none⟩ (.int .i64 (c : Nat))) H { k with next := c } = WX at *
            have v0 : WX.cell? ⟨H, 0, none⟩ = some (.int .i64 k.kind) := g1.cell 0
            have v1 : WX.cell? ⟨H, 1, none⟩ = some (.int .i64 k.pos) := g1.cell 1
            have v2 : WX.cell? ⟨H, 2, none⟩ = some (.int .i64 (c : Nat)) := g1.cell 2
            have v3 : WX.cell? ⟨H, 3, none⟩ = some (.int .i64 k.num) := g1.cell 3
            have v4 : WX.cell? ⟨H, 4, none⟩ = some (.float .f64 k.flt) := g1.cell 4
            have v5 : WX.cell? ⟨H, 5, none⟩ = some (.string ⟨k.str.toArray⟩) := g1.cell 5
            refine bodyPost_ret (v := .tuple #[.agg (tokCells { k with next := c }), .int .i64 r.2]) (by simp [results, Tryd.results15, go_sem, tokCells, v0, v1, v2, v3, v4, v5]) rfl ?_
            exact ⟨{ k with next := c }, c, by rw [HR2.out], HPo.out, g2, hc, g3, fun h => by rw [HR2.out] at h ⊢; have h3 := HK.out h; rw [← h3]; exact ⟨rfl, rfl⟩⟩
      · rw [hl] at hr
        have hnm : isNm (s[a]'ha) = true := by unfold isNm; rw [hl]; rfl
        have h95 : ¬ s[a]'ha = 95 := by intro e; rw [e] at hl; exact absurd hl (by decide)
        have t2' : (((s[a]'ha).toNat : Int) == 95) = false := by rw [beq_eq_false_iff_ne]; intro e; exact h95 (UInt8.toNat_inj.1 (by show _ = 95; omega))
        have t2 : (((s[a]'ha).toNat : Int) != 95) = true := by rw [bne, t2']; rfl
        rw [hnm] at HM
        have HM := Lib.hid HM
        clear hnm t2' h95 hd hl HGD
        rw [if_pos rfl] at hr
        have HN := Lib.hid (fun w (h1 : LexAt b s a w) (h2 : TokAt T ⟨1, a, 0, 0, 0, []⟩ w) (h3 : EnvB B w) => name_any s hs a b T B hfl hbT hBb hBT w h1 h2 h3)
        generalize nameS s.data.toList a = r at *
        have HR2 := Lib.hid hr
        clear hr
        go_wp2_with fail
        go_quiet (fail)
        replace hlx := hlx.drewN nq; replace htk := htk.drewN nq; replace hFr := hFr.drewN nq; replace hR := hR.drewN nq; replace hE1 := hE1.drewN nq
        clear l0 l1
        generalize W2.drewN nq = W3 at *
        have l0 := hlx.c0; have l1 := hlx.c1
        go_wp2_with fail
        go_quiet (refine Calls.quiet_of_same ((HD.out _).mono fun _ _ h => ⟨h.1, h.2.symm⟩))
        replace hlx := hlx.drewN nq; replace htk := htk.drewN nq; replace hFr := hFr.drewN nq; replace hR := hR.drewN nq; replace hE1 := hE1.drewN nq
        clear l0 l1
        generalize W3.drewN nq = W4 at *
        have l0 := hlx.c0; have l1 := hlx.c1
        go_wp2_with fail
        go_quiet (refine Calls.quiet_of_same ((HM.out _).mono fun _ _ h => ⟨h.1, h.2.symm⟩))
        replace hlx := hlx.drewN nq; replace htk := htk.drewN nq; replace hFr := hFr.drewN nq; replace hR := hR.drewN nq; replace hE1 := hE1.drewN nq
        clear l0 l1
        generalize W4.drewN nq = W5 at *
        have l0 := hlx.c0; have l1 := hlx.c1
        go_wp2_with fail
        refine (HN.out _ hlx htk hE1).mono ?_; intro e w5 hrd
        obtain ⟨k, c, rfl, hf5, htk5, hlx5, hc, hp, hk⟩ := hrd.out
        have HK := Lib.hid hk
        have HPo := Lib.hid hp
        clear hk hp hrd l0 l1 htk hlx
        have htk := htk5; have hlx := hlx5
        clear htk5 hlx5
        replace hR := hR.kept hf5 (by simp; omega)
        replace hFr := hFr.less hf5 (by omega)
        have l0 := hlx.c0; have l1 := hlx.c1
        have htk2 := htk.set (k' := { k with next := c }) 2 (.int .i64 (c : Nat)) rfl
        have hlx2 := hlx.other ⟨T, 2, none⟩ (.int .i64 (c : Nat)) hbT
        have hR2 := hR.other ⟨T, 2, none⟩ (.int .i64 (c : Nat)) hHT
        have hF2 := hFr.putNew ⟨T, 2, none⟩ (by show w.heap.size ≤ T; omega) (.int .i64 (c : Nat))
        have y2 := htk.free 2
        have hTH : T ≠ H := Ne.symm hHT
        have z0 : (w5.setCell ⟨T, 2, none⟩ (.int .i64 (c : Nat))).cell? ⟨T, 0, none⟩ = some (.int .i64 k.kind) := htk2.cell 0
        have q0 : (w5.setCell ⟨T, 2, none⟩ (.int .i64 (c : Nat))).cell? ⟨H, 0, none⟩ = some (.int .i64 0) := hR2.cell 0
        have p0 := hR2.free 0
        have x0 : w5.cell? ⟨T, 0, none⟩ = some (.int .i64 k.kind) := htk.cell 0
        have r0 : w5.cell? ⟨H, 0, none⟩ = some (.int .i64 0) := hR.cell 0
        have o0 := hR.free 0
        have z1 : (w5.setCell ⟨T, 2, none⟩ (.int .i64 (c : Nat))).cell? ⟨T, 1, none⟩ = some (.int .i64 k.pos) := htk2.cell 1
        have q1 : (w5.setCell ⟨T, 2, none⟩ (.int .i64 (c : Nat))).cell? ⟨H, 1, none⟩ = some (.int .i64 0) := hR2.cell 1
        have p1 := hR2.free 1
        have x1 : w5.cell? ⟨T, 1, none⟩ = some (.int .i64 k.pos) := htk.cell 1
        have r1 : w5.cell? ⟨H, 1, none⟩ = some (.int .i64 0) := hR.cell 1
        have o1 := hR.free 1
        have z2 : (w5.setCell ⟨T, 2, none⟩ (.int .i64 (c : Nat))).cell? ⟨T, 2, none⟩ = some (.int .i64 (c : Nat)) := htk2.cell 2
        have q2 : (w5.setCell ⟨T, 2, none⟩ (.int .i64 (c : Nat))).cell? ⟨H, 2, none⟩ = some (.int .i64 0) := hR2.cell 2
        have p2 := hR2.free 2
        have x2 : w5.cell? ⟨T, 2, none⟩ = some (.int .i64 k.next) := htk.cell 2
        have r2 : w5.cell? ⟨H, 2, none⟩ = some (.int .i64 0) := hR.cell 2
        have o2 := hR.free 2
        have z3 : (w5.setCell ⟨T, 2, none⟩ (.int .i64 (c : Nat))).cell? ⟨T, 3, none⟩ = some (.int .i64 k.num) := htk2.cell 3
        have q3 : (w5.setCell ⟨T, 2, none⟩ (.int .i64 (c : Nat))).cell? ⟨H, 3, none⟩ = some (.int .i64 0) := hR2.cell 3
        have p3 := hR2.free 3
        have x3 : w5.cell? ⟨T, 3, none⟩ = some (.int .i64 k.num) := htk.cell 3
        have r3 : w5.cell? ⟨H, 3, none⟩ = some (.int .i64 0) := hR.cell 3
        have o3 := hR.free 3
        have z4 : (w5.setCell ⟨T, 2, none⟩ (.int .i64 (c : Nat))).cell? ⟨T, 4, none⟩ = some (.float .f64 k.flt) := htk2.cell 4
        have q4 : (w5.setCell ⟨T, 2, none⟩ (.int .i64 (c : Nat))).cell? ⟨H, 4, none⟩ = some (.float .f64 0) := hR2.cell 4
        have p4 := hR2.free 4
        have x4 : w5.cell? ⟨T, 4, none⟩ = some (.float .f64 k.flt) := htk.cell 4
        have r4 : w5.cell? ⟨H, 4, none⟩ = some (.float .f64 0) := hR.cell 4
        have o4 := hR.free 4
        have z5 : (w5.setCell ⟨T, 2, none⟩ (.int .i64 (c : Nat))).cell? ⟨T, 5, none⟩ = some (.string ⟨k.str.toArray⟩) := htk2.cell 5
        have q5 : (w5.setCell ⟨T, 2, none⟩ (.int .i64 (c : Nat))).cell? ⟨H, 5, none⟩ = some (.string ⟨#[]⟩) := hR2.cell 5
        have p5 := hR2.free 5
        have x5 : w5.cell? ⟨T, 5, none⟩ = some (.string ⟨k.str.toArray⟩) := htk.cell 5
        have r5 : w5.cell? ⟨H, 5, none⟩ = some (.string ⟨#[]⟩) := hR.cell 5
        have o5 := hR.free 5
        have hR2' := hR2
        clear htk2 hR hR2 htk
        go_wp2_with fail
        change bodyPost _ _ _ _ _ (putTok (w5.setCell ⟨T, 2, none⟩ (.int .i64 (c : Nat))) H { k with next := c })
        have g1 := hR2'.putTok { k with next := c }
        have g2 := hlx2.putTok hbH { k with next := c }
        have g3 := hF2.putTok (H := H) (by omega) { k with next := c }
        clear hlx2 hF2 z0 z1 z2 z3 z4 z5 q0 q1 q2 q3 q4 q5 p0 p1 p2 p3 p4 p5 x0 x1 x2 x3 x4 x5 r0 r1 r2 r3 r4 r5 o0 o1 o2 o3 o4 o5 y2
        generalize putTok (w5.setCell ⟨T, 2, none⟩ (.int .i64 (c : Nat))) H { k with next := c } = WX at *
        have v0 : WX.cell? ⟨H, 0, none⟩ = some (.int .i64 k.kind) := g1.cell 0
        have v1 : WX.cell? ⟨H, 1, none⟩ = some (.int .i64 k.pos) := g1.cell 1
        have v2 : WX.cell? ⟨H, 2, none⟩ = some (.int .i64 (c : Nat)) := g1.cell 2
        have v3 : WX.cell? ⟨H, 3, none⟩ = some (.int .i64 k.num) := g1.cell 3
        have v4 : WX.cell? ⟨H, 4, none⟩ = some (.float .f64 k.flt) := g1.cell 4
        have v5 : WX.cell? ⟨H, 5, none⟩ = some (.string ⟨k.str.toArray⟩) := g1.cell 5
        refine bodyPost_ret (v := .tuple #[.agg (tokCells { k with next := c }), .int .i64 r.2]) (by simp [results, Tryd.results15, go_sem, tokCells, v0, v1, v2, v3, v4, v5]) rfl ?_
        exact ⟨{ k with next := c }, c, by rw [HR2.out], HPo.out, g2, hc, g3, fun h => by rw [HR2.out] at h ⊢; have h3 := HK.out h; rw [← h3]; exact ⟨rfl, rfl⟩⟩
    · rw [hd] at HD hr
      have HD := Lib.hid HD
      have hfd := HGD.out isDig hd
      clear hd HGD
      rw [if_pos rfl] at hr
      have HN := Lib.hid (fun w (h1 : LexAt b s a w) (h2 : TokAt T ⟨1, a, 0, 0, 0, []⟩ w) (h3 : EnvB B w) => lnumber_any s hs a b T B hfl hbT hBb hBT w h1 h2 h3 hfd)
      generalize numS s.data.toList a = r at *
      have HR2 := Lib.hid hr
      clear hr
      go_wp2_with fail
      go_quiet (fail)
      replace hlx := hlx.drewN nq; replace htk := htk.drewN nq; replace hFr := hFr.drewN nq; replace hR := hR.drewN nq; replace hE1 := hE1.drewN nq
      clear l0 l1
      generalize W2.drewN nq = W3 at *
      have l0 := hlx.c0; have l1 := hlx.c1
      go_wp2_with fail
      go_quiet (refine Calls.quiet_of_same ((HD.out _).mono fun _ _ h => ⟨h.1, h.2.symm⟩))
      replace hlx := hlx.drewN nq; replace htk := htk.drewN nq; replace hFr := hFr.drewN nq; replace hR := hR.drewN nq; replace hE1 := hE1.drewN nq
      clear l0 l1
      generalize W3.drewN nq = W4 at *
      have l0 := hlx.c0; have l1 := hlx.c1
      go_wp2_with fail
      refine (HN.out _ hlx htk hE1).mono ?_; intro e w5 hrd
      obtain ⟨k, c, rfl, hf5, htk5, hlx5, hc, hp, hk⟩ := hrd.out
      have HK := Lib.hid hk
      have HPo := Lib.hid hp
      clear hk hp hrd l0 l1 htk hlx
      have htk := htk5; have hlx := hlx5
      clear htk5 hlx5
      replace hR := hR.kept hf5 (by simp; omega)
      replace hFr := hFr.less hf5 (by omega)
      have l0 := hlx.c0; have l1 := hlx.c1
      have htk2 := htk.set (k' := { k with next := c }) 2 (.int .i64 (c : Nat)) rfl
      have hlx2 := hlx.other ⟨T, 2, none⟩ (.int .i64 (c : Nat)) hbT
      have hR2 := hR.other ⟨T, 2, none⟩ (.int .i64 (c : Nat)) hHT
      have hF2 := hFr.putNew ⟨T, 2, none⟩ (by show w.heap.size ≤ T; omega) (.int .i64 (c : Nat))
      have y2 := htk.free 2
      have hTH : T ≠ H := Ne.symm hHT
      have z0 : (w5.setCell ⟨T, 2, none⟩ (.int .i64 (c : Nat))).cell? ⟨T, 0, none⟩ = some (.int .i64 k.kind) := htk2.cell 0
      have q0 : (w5.setCell ⟨T, 2, none⟩ (.int .i64 (c : Nat))).cell? ⟨H, 0, none⟩ = some (.int .i64 0) := hR2.cell 0
      have p0 := hR2.free 0
      have x0 : w5.cell? ⟨T, 0, none⟩ = some (.int .i64 k.kind) := htk.cell 0
      have r0 : w5.cell? ⟨H, 0, none⟩ = some (.int .i64 0) := hR.cell 0
      have o0 := hR.free 0
      have z1 : (w5.setCell ⟨T, 2, none⟩ (.int .i64 (c : Nat))).cell? ⟨T, 1, none⟩ = some (.int .i64 k.pos) := htk2.cell 1
      have q1 : (w5.setCell ⟨T, 2, none⟩ (.int .i64 (c : Nat))).cell? ⟨H, 1, none⟩ = some (.int .i64 0) := hR2.cell 1
      have p1 := hR2.free 1
      have x1 : w5.cell? ⟨T, 1, none⟩ = some (.int .i64 k.pos) := htk.cell 1
      have r1 : w5.cell? ⟨H, 1, none⟩ = some (.int .i64 0) := hR.cell 1
      have o1 := hR.free 1
      have z2 : (w5.setCell ⟨T, 2, none⟩ (.int .i64 (c : Nat))).cell? ⟨T, 2, none⟩ = some (.int .i64 (c : Nat)) := htk2.cell 2
      have q2 : (w5.setCell ⟨T, 2, none⟩ (.int .i64 (c : Nat))).cell? ⟨H, 2, none⟩ = some (.int .i64 0) := hR2.cell 2
      have p2 := hR2.free 2
      have x2 : w5.cell? ⟨T, 2, none⟩ = some (.int .i64 k.next) := htk.cell 2
      have r2 : w5.cell? ⟨H, 2, none⟩ = some (.int .i64 0) := hR.cell 2
      have o2 := hR.free 2
      have z3 : (w5.setCell ⟨T, 2, none⟩ (.int .i64 (c : Nat))).cell? ⟨T, 3, none⟩ = some (.int .i64 k.num) := htk2.cell 3
      have q3 : (w5.setCell ⟨T, 2, none⟩ (.int .i64 (c : Nat))).cell? ⟨H, 3, none⟩ = some (.int .i64 0) := hR2.cell 3
      have p3 := hR2.free 3
      have x3 : w5.cell? ⟨T, 3, none⟩ = some (.int .i64 k.num) := htk.cell 3
      have r3 : w5.cell? ⟨H, 3, none⟩ = some (.int .i64 0) := hR.cell 3
      have o3 := hR.free 3
      have z4 : (w5.setCell ⟨T, 2, none⟩ (.int .i64 (c : Nat))).cell? ⟨T, 4, none⟩ = some (.float .f64 k.flt) := htk2.cell 4
      have q4 : (w5.setCell ⟨T, 2, none⟩ (.int .i64 (c : Nat))).cell? ⟨H, 4, none⟩ = some (.float .f64 0) := hR2.cell 4
      have p4 := hR2.free 4
      have x4 : w5.cell? ⟨T, 4, none⟩ = some (.float .f64 k.flt) := htk.cell 4
      have r4 : w5.cell? ⟨H, 4, none⟩ = some (.float .f64 0) := hR.cell 4
      have o4 := hR.free 4
      have z5 : (w5.setCell ⟨T, 2, none⟩ (.int .i64 (c : Nat))).cell? ⟨T, 5, none⟩ = some (.string ⟨k.str.toArray⟩) := htk2.cell 5
      have q5 : (w5.setCell ⟨T, 2, none⟩ (.int .i64 (c : Nat))).cell? ⟨H, 5, none⟩ = some (.string ⟨#[]⟩) := hR2.cell 5
      have p5 := hR2.free 5
      have x5 : w5.cell? ⟨T, 5, none⟩ = some (.string ⟨k.str.toArray⟩) := htk.cell 5
      have r5 : w5.cell? ⟨H, 5, none⟩ = some (.string ⟨#[]⟩) := hR.cell 5
      have o5 := hR.free 5
      have hR2' := hR2
      clear htk2 hR hR2 htk
      go_wp2_with fail
      change bodyPost _ _ _ _ _ (putTok (w5.setCell ⟨T, 2, none⟩ (.int .i64 (c : Nat))) H { k with next := c })
      have g1 := hR2'.putTok { k with next := c }
      have g2 := hlx2.putTok hbH { k with next := c }
      have g3 := hF2.putTok (H := H) (by omega) { k with next := c }
      clear hlx2 hF2 z0 z1 z2 z3 z4 z5 q0 q1 q2 q3 q4 q5 p0 p1 p2 p3 p4 p5 x0 x1 x2 x3 x4 x5 r0 r1 r2 r3 r4 r5 o0 o1 o2 o3 o4 o5 y2
      generalize putTok (w5.setCell ⟨T, 2, none⟩ (.int .i64 (c : Nat))) H { k with next := c } = WX at *
      have v0 : WX.cell? ⟨H, 0, none⟩ = some (.int .i64 k.kind) := g1.cell 0
      have v1 : WX.cell? ⟨H, 1, none⟩ = some (.int .i64 k.pos) := g1.cell 1
      have v2 : WX.cell? ⟨H, 2, none⟩ = some (.int .i64 (c : Nat)) := g1.cell 2
      have v3 : WX.cell? ⟨H, 3, none⟩ = some (.int .i64 k.num) := g1.cell 3
      have v4 : WX.cell? ⟨H, 4, none⟩ = some (.float .f64 k.flt) := g1.cell 4
      have v5 : WX.cell? ⟨H, 5, none⟩ = some (.string ⟨k.str.toArray⟩) := g1.cell 5
      refine bodyPost_ret (v := .tuple #[.agg (tokCells { k with next := c }), .int .i64 r.2]) (by simp [results, Tryd.results15, go_sem, tokCells, v0, v1, v2, v3, v4, v5]) rfl ?_
      exact ⟨{ k with next := c }, c, by rw [HR2.out], HPo.out, g2, hc, g3, fun h => by rw [HR2.out] at h ⊢; have h3 := HK.out h; rw [← h3]; exact ⟨rfl, rfl⟩⟩
end Go.Proofs.YtkcbkfflabkcgaaDoor
