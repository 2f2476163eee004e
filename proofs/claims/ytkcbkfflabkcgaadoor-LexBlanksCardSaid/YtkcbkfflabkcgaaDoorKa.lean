/-
  The walk of the lexer's string.
-/
import Derived.Test.YtkcbkfflabkcgaaDoorK9
import Derived.Test.YtkcbkfflabkcgaaDoorK8
namespace Go.Proofs.YtkcbkfflabkcgaaDoor
open Go.RowKit

/-- a builder of the call's own -/
def Bld (B g : Nat) (o : List UInt8) (w : World) : Prop := Lib.IsBuilderF 65 5 B g (Lib.byteCells o) w
theorem Bld.drewN {B g : Nat} {o : List UInt8} {w : World} (h : Bld B g o w) (n : Nat) : Bld B g o (w.drewN n) := h
theorem Bld.drew {B g : Nat} {o : List UInt8} {w : World} (h : Bld B g o w) : Bld B g o w.drew := h
theorem Bld.put {B g : Nat} {o : List UInt8} {w : World} (h : Bld B g o w) (p : Addr) (x : Value) {cs : Array Value} {T : TypeId} {fz : Nat × Nat} (hp : w.heap[p.block]? = some (.cells cs T fz)) (hT : T ≠ 5) (hne : g ≠ p.block) : Bld B g o (w.setCell p x) := by
  rcases h with h | h <;> obtain ⟨hB, v, hb, hown, hn⟩ := h
  · exact .inl ⟨hB, v, (Below.heap_setCell _ _ _ _ hne).trans hb, hown.kept (row := some p.block) ⟨rfl, rfl, rfl, by simp [World.setCell], fun k _ hk => Below.heap_setCell _ _ _ _ (fun e => hk (by simp [e]))⟩ (Or.inr (Lib.ownBlock_neF hown hp hT)), hn⟩
  · exact .inr ⟨hB, v, (Below.heap_setCell _ _ _ _ hne).trans hb, hown.kept (row := some p.block) ⟨rfl, rfl, rfl, by simp [World.setCell], fun k _ hk => Below.heap_setCell _ _ _ _ (fun e => hk (by simp [e]))⟩ (Or.inr (Lib.ownBlock_neF hown hp hT)), hn⟩
theorem Bld.fresh (w : World) : Bld w.heap.size w.heap.size [] (w.alloc (.cells #[.pointer none, .slice none 0 0] 65)) :=
  .inl ⟨Nat.le_refl _, .slice none 0 0, heap_alloc_new w _, ⟨rfl, .inl ⟨rfl, rfl⟩⟩, by simp [Value.ownBlock]⟩
theorem Bld.write {B g : Nat} {o : List UInt8} {w : World} (h : Bld B g o w) (hlen : o.length ≤ 1000000) (hBw : B ≤ w.heap.size) (c : UInt8) :
    Calls Tryd.prog 34 #[.pointer (some ⟨g, 0, none⟩), .int .u8 c.toNat] w fun e w' => e = .returned .nilIface ∧ Bld B g (o ++ [c]) w' ∧ Below B w w' :=
  (writeByte_any B g (Lib.byteCells o) c.toNat w h (by rw [Lib.byteCells_length]; omega) hBw).mono fun _ _ ⟨he, h1, h2, _⟩ => ⟨he, .inr (by rw [Lib.byteCells_append]; exact h1), h2⟩
theorem Bld.len {B g : Nat} {o : List UInt8} {w : World} (h : Bld B g o w) :
    Calls Tryd.prog 32 #[.pointer (some ⟨g, 0, none⟩)] w fun e w' => e = .returned (.int .i64 o.length) ∧ w = w' :=
  (Tryd.Builder_Len_f B g (Lib.byteCells o) w h).mono fun _ _ ⟨he, h2⟩ => ⟨by rw [he, Lib.byteCells_length], h2.symm⟩
theorem Bld.text {B g : Nat} {o : List UInt8} {w : World} (h : Bld B g o w) (hBw : B ≤ w.heap.size) :
    Calls Tryd.prog 33 #[.pointer (some ⟨g, 0, none⟩)] w fun e w' => e = .returned (.string ⟨o.toArray⟩) ∧ Bld B g o w' ∧ Below B w w' :=
  (Tryd.Builder_String_any_k B g o w h hBw).mono fun _ _ ⟨he, h1, h2, _⟩ => ⟨he, h1, h2⟩
theorem LexAt.below {b B : Nat} {s : ByteArray} {a : Nat} {w w' : World} (h : LexAt b s a w) (hb : Below B w w') (hlt : b < B) : LexAt b s a w' := (hb.block b hlt).trans h
theorem TokAt.below {t B : Nat} {k : Tk} {w w' : World} (h : TokAt t k w) (hb : Below B w w') (hlt : t < B) : TokAt t k w' := (hb.block t hlt).trans h
theorem Fr.lower {l : List Nat} {a w w' : World} (h : Fr l a w) (hb : Below a.heap.size w w') : Fr l a w' := ⟨hb.os.trans h.os, hb.tape.trans h.tape, hb.output.trans h.output, Nat.le_trans h.size hb.size, fun k hk hn => (hb.block k hk).trans (h.block k hk hn)⟩

theorem byte_at (s : ByteArray) (k : Nat) (h : k < s.size) : s.data.toList[k]? = some (s[k]'h) := by
  rw [List.getElem?_eq_getElem (by simpa using h)]; rfl
theorem u8_int {c d : UInt8} : ((c.toNat : Int) == (d.toNat : Int)) = decide (c = d) := by
  rw [← u8_beq]; exact rfl

set_option maxRecDepth 100000 in
set_option maxHeartbeats 8000000 in
theorem str_any (s : ByteArray) (hs : s.size ≤ 1000000) (a b t : Nat) (ha : a < s.size) (hbt : b ≠ t) (w : World) (hb : LexAt b s a w) (ht : TokAt t ⟨1, a, 0, 0, 0, []⟩ w) :
    Calls Tryd.prog 27 #[.pointer (some ⟨b, 0, none⟩), .pointer (some ⟨t, 0, none⟩)] w (Reads b t s a (strS s.data.toList a) w) := by
  have hl : s.data.toList.length = s.size := by simp
  have HL := Lib.hid hl; clear hl
  have d0 := hb.c0; have d1 := hb.c1; have d2 := hb.f1
  have hblt := lt_of_block hb
  have htlt := lt_of_block ht
  have hbne : b ≠ w.heap.size := by omega
  have htne : t ≠ w.heap.size := by omega
  go_enter Tryd.func27, Tryd.ntmps27
  go_wp2_with fail
  have G0 : LexAt b s (a + 1) (w.setCell ⟨b, 1, none⟩ (.int .i64 ((a : Int) + 1))) := hb.put (a + 1)
  have G1 := ht.other ⟨b, 1, none⟩ (.int .i64 ((a : Int) + 1)) (Ne.symm hbt)
  have G2 := (Fr.refl [b, t] w).setCell ⟨b, 1, none⟩ (by simp) (.int .i64 ((a : Int) + 1))
  have G3 := Bld.fresh (w.setCell ⟨b, 1, none⟩ (.int .i64 ((a : Int) + 1)))
  have hsz : (w.setCell ⟨b, 1, none⟩ (.int .i64 ((a : Int) + 1))).heap.size = w.heap.size := by simp [World.setCell]
  rw [hsz] at G3
  generalize w.setCell ⟨b, 1, none⟩ (.int .i64 ((a : Int) + 1)) = W0 at *
  have G4 := (Fr.refl [] W0).alloc (.cells #[.pointer none, .slice none 0 0] 65)
  have H0 := G0.kept G4 (by simp)
  have H1 := G1.kept G4 (by simp)
  have H2 := G2.alloc (.cells #[.pointer none, .slice none 0 0] 65)
  generalize W0.alloc (.cells #[.pointer none, .slice none 0 0] 65) = W1 at *
  have HM := Marked.start s.data.toList a
  clear G0 G1 G2 G4 hsz d0 d1 d2
  generalize hgh : w.heap.size = H at *
  go_loopw [] (fun wr => ∃ (k : Nat) (o : List UInt8), k ≤ s.size ∧ LexAt b s k wr ∧ TokAt t ⟨1, a, 0, 0, 0, []⟩ wr ∧ Fr [b, t] w wr ∧ Bld H H o wr ∧ Marked s.data.toList a k o) (fun wr => match wr.cell? ⟨b, 1, none⟩ with | some v => s.size - (intOf v).toNat | none => 0)
  case atStart => exact ⟨a + 1, [], by omega, H0, H1, H2, G3, HM⟩
  case round =>
    obtain ⟨k, o, hk, hlx, htk, hfr, hbd, hmk⟩ := hrel
    have l0 := hlx.c0; have l1 := hlx.c1; have m1 := hlx.f1
    have L1 := Lib.hid hlx.c1
    have hHw : H ≤ wr.heap.size := by have := hfr.size; omega
    by_cases hlt : k < s.size
    · have hc := byte_at s k hlt
      have hlt' : decide ((k : Int) < (s.size : Int)) = true := by simp; omega
      by_cases h34 : s[k]'hlt = 34
      · have t1 : (((s[k]'hlt).toNat : Int) == 34) = true := by rw [h34]; rfl
        rw [h34] at hc
        have HQ := hmk.shut hc
        clear hmk hc h34
        by_cases h200 : 200 < o.length
        · rw [if_pos h200] at HQ
          have HR := Lib.hid HQ; clear HQ
          have t2 : decide ((200 : Int) < (o.length : Int)) = true := by simp; omega
          have HLn := Lib.hid (fun w (h : Bld H H o w) => h.len)
          generalize o.length = ol at *
          go_wp2_with fail
          go_quiet (fail)
          replace hlx := hlx.drewN nq; replace htk := htk.drewN nq; replace hfr := hfr.drewN nq; replace hbd := hbd.drewN nq
          have hSW2 : (wr.drewN nq).heap.size = wr.heap.size := rfl
          rw [← hSW2] at hHw
          clear hSW2 l0 l1 m1
          generalize wr.drewN nq = W2 at *
          have l0 := hlx.c0; have l1 := hlx.c1; have m1 := hlx.f1
          go_wp2_with fail
          go_quiet (fail)
          replace hlx := hlx.drewN nq; replace htk := htk.drewN nq; replace hfr := hfr.drewN nq; replace hbd := hbd.drewN nq
          have hSW3 : (W2.drewN nq).heap.size = W2.heap.size := rfl
          rw [← hSW3] at hHw
          clear hSW3 l0 l1 m1
          generalize W2.drewN nq = W3 at *
          have l0 := hlx.c0; have l1 := hlx.c1; have m1 := hlx.f1
          go_wp2_with fail
          refine (HLn.out _ hbd).mono ?_; rintro e w2 ⟨rfl, rfl⟩
          go_wp2_with fail
          go_ret
          exact ⟨ret_val (by rw [HR.out]; rfl), hfr, ⟨_, k, rfl, htk, hlx, hk⟩, fun h => by rw [HR.out] at h; cases h⟩
        · rw [if_neg h200] at HQ
          have HR := Lib.hid HQ; clear HQ
          have t2 : decide ((200 : Int) < (o.length : Int)) = false := by simp; omega
          have HLn := Lib.hid (fun w (h : Bld H H o w) => h.len)
          generalize o.length = ol at *
          go_wp2_with fail
          go_quiet (fail)
          replace hlx := hlx.drewN nq; replace htk := htk.drewN nq; replace hfr := hfr.drewN nq; replace hbd := hbd.drewN nq
          have hSW2 : (wr.drewN nq).heap.size = wr.heap.size := rfl
          rw [← hSW2] at hHw
          clear hSW2 l0 l1 m1
          generalize wr.drewN nq = W2 at *
          have l0 := hlx.c0; have l1 := hlx.c1; have m1 := hlx.f1
          go_wp2_with fail
          go_quiet (fail)
          replace hlx := hlx.drewN nq; replace htk := htk.drewN nq; replace hfr := hfr.drewN nq; replace hbd := hbd.drewN nq
          have hSW3 : (W2.drewN nq).heap.size = W2.heap.size := rfl
          rw [← hSW3] at hHw
          clear hSW3 l0 l1 m1
          generalize W2.drewN nq = W3 at *
          have l0 := hlx.c0; have l1 := hlx.c1; have m1 := hlx.f1
          go_wp2_with fail
          refine (HLn.out _ hbd).mono ?_; rintro e w2 ⟨rfl, rfl⟩
          go_wp2_with fail
          have hSW4 : (W3.setCell ⟨b, 1, none⟩ (.int .i64 ((k : Int) + 1))).heap.size = W3.heap.size := by simp [World.setCell]
          replace hbd := hbd.put ⟨b, 1, none⟩ (.int .i64 ((k : Int) + 1)) hlx (by decide) (Ne.symm hbne)
          replace hlx : LexAt b s (k + 1) (W3.setCell ⟨b, 1, none⟩ (.int .i64 ((k : Int) + 1))) := hlx.put (k + 1)
          replace htk := htk.other ⟨b, 1, none⟩ (.int .i64 ((k : Int) + 1)) (Ne.symm hbt)
          replace hfr := hfr.setCell (l := [b, t]) ⟨b, 1, none⟩ (by simp) (.int .i64 ((k : Int) + 1))
          rw [← hSW4] at hHw
          clear hSW4 l0 l1 m1
          generalize W3.setCell ⟨b, 1, none⟩ (.int .i64 ((k : Int) + 1)) = W4 at *
          have HTx := Lib.hid (fun w (h : Bld H H o w) (h2 : H ≤ w.heap.size) => h.text h2)
          refine (HTx.out _ hbd hHw).mono ?_; rintro e w5 ⟨rfl, hbd5, hb5⟩
          have hlx5 : LexAt b s (k + 1) w5 := hlx.below hb5 hblt
          have htk5 := htk.below hb5 htlt
          have hfr5 : Fr [b, t] w w5 := hfr.lower (by rw [hgh]; exact hb5)
          have z0 : w5.cell? ⟨t, 0, none⟩ = some (.int .i64 1) := htk5.cell 0
          have z5 : w5.cell? ⟨t, 5, none⟩ = some (.string ⟨#[]⟩) := htk5.cell 5
          have f0 := htk5.free 0
          have f5 := htk5.free 5
          go_wp2_with fail
          have F1 : TokAt t ⟨4, a, 0, 0, 0, o⟩ ((w5.setCell ⟨t, 0, none⟩ (.int .i64 4)).setCell ⟨t, 5, none⟩ (.string ⟨o.toArray⟩)) := (htk5.set (k' := ⟨4, a, 0, 0, 0, []⟩) 0 _ rfl).set 5 _ rfl
          have F2 := (hlx5.other ⟨t, 0, none⟩ (.int .i64 4) hbt).other ⟨t, 5, none⟩ (.string ⟨o.toArray⟩) hbt
          have F3 := (hfr5.setCell (l := [b, t]) ⟨t, 0, none⟩ (by simp) (.int .i64 4)).setCell (l := [b, t]) ⟨t, 5, none⟩ (by simp) (.string ⟨o.toArray⟩)
          have hk1 : k + 1 ≤ s.size := by omega
          go_ret
          exact ⟨ret_val (by rw [HR.out]; rfl), F3, ⟨_, k + 1, rfl, F1, F2, hk1⟩, fun _ => by rw [HR.out]; exact ⟨F1, F2, hk1, rfl⟩⟩
      · have t1 : (((s[k]'hlt).toNat : Int) == 34) = false := by
          rw [beq_eq_false_iff_ne]; intro e; exact h34 (UInt8.toNat_inj.1 (by show _ = 34; omega))
        by_cases h92 : s[k]'hlt = 92
        · have t2 : (((s[k]'hlt).toNat : Int) == 92) = true := by rw [h92]; rfl
          rw [h92] at hc
          by_cases hj : k + 1 = s.size
          · have HR := Lib.hid (hmk.torn1 hc (by rw [HL.out]; omega))
            have t3 : (((k + 1 : Nat) : Int) == (s.size : Int)) = true := by rw [hj]; exact beq_self_eq_true _
            clear hmk hc h34 h92
            go_wp2_with fail
            go_quiet (fail)
            replace hlx := hlx.drewN nq; replace htk := htk.drewN nq; replace hfr := hfr.drewN nq; replace hbd := hbd.drewN nq
            have hSW2 : (wr.drewN nq).heap.size = wr.heap.size := rfl
            rw [← hSW2] at hHw
            clear hSW2 l0 l1 m1
            generalize wr.drewN nq = W2 at *
            have l0 := hlx.c0; have l1 := hlx.c1; have m1 := hlx.f1
            go_wp2_with fail
            go_quiet (fail)
            replace hlx := hlx.drewN nq; replace htk := htk.drewN nq; replace hfr := hfr.drewN nq; replace hbd := hbd.drewN nq
            have hSW3 : (W2.drewN nq).heap.size = W2.heap.size := rfl
            rw [← hSW3] at hHw
            clear hSW3 l0 l1 m1
            generalize W2.drewN nq = W3 at *
            have l0 := hlx.c0; have l1 := hlx.c1; have m1 := hlx.f1
            go_wp2_with fail
            have hSW4 : (W3.setCell ⟨b, 1, none⟩ (.int .i64 ((k : Int) + 1))).heap.size = W3.heap.size := by simp [World.setCell]
            replace hbd := hbd.put ⟨b, 1, none⟩ (.int .i64 ((k : Int) + 1)) hlx (by decide) (Ne.symm hbne)
            replace hlx : LexAt b s (k + 1) (W3.setCell ⟨b, 1, none⟩ (.int .i64 ((k : Int) + 1))) := hlx.put (k + 1)
            replace htk := htk.other ⟨b, 1, none⟩ (.int .i64 ((k : Int) + 1)) (Ne.symm hbt)
            replace hfr := hfr.setCell (l := [b, t]) ⟨b, 1, none⟩ (by simp) (.int .i64 ((k : Int) + 1))
            rw [← hSW4] at hHw
            clear hSW4 l0 l1 m1
            generalize W3.setCell ⟨b, 1, none⟩ (.int .i64 ((k : Int) + 1)) = W4 at *
            have hjs : k + 1 ≤ s.size := by omega
            rw [show ((k : Int) + 1) = ((k + 1 : Nat) : Int) by omega] at *
            generalize k + 1 = j at *
            have l0 := hlx.c0; have l1 := hlx.c1; have m1 := hlx.f1
            go_wp2_with fail
            go_quiet (fail)
            replace hlx := hlx.drewN nq; replace htk := htk.drewN nq; replace hfr := hfr.drewN nq; replace hbd := hbd.drewN nq
            have hSW5 : (W4.drewN nq).heap.size = W4.heap.size := rfl
            rw [← hSW5] at hHw
            clear hSW5 l0 l1 m1
            generalize W4.drewN nq = W5 at *
            have l0 := hlx.c0; have l1 := hlx.c1; have m1 := hlx.f1
            go_wp2_with fail
            go_ret
            exact ⟨ret_val (by rw [HR.out]; rfl), hfr, ⟨_, j, rfl, htk, hlx, hjs⟩, fun h => by rw [HR.out] at h; cases h⟩
          · have hj1 : k + 1 < s.size := by omega
            have hd := byte_at s (k + 1) hj1
            have t3 : (((k + 1 : Nat) : Int) == (s.size : Int)) = false := by rw [beq_eq_false_iff_ne]; omega
            by_cases hd34 : s[k + 1]'hj1 = 34
            · have HM2 := hmk.esc hc hd (.inl hd34)
              rw [show k + 2 = k + 1 + 1 by omega] at HM2
              have u34 : (((s[k + 1]'hj1).toNat : Int) == 34) = true := by rw [hd34]; rfl
              have v34 : (((s[k + 1]'hj1).toNat : Int) != 34) = false := by rw [bne, u34]; rfl
              have u92 : (((s[k + 1]'hj1).toNat : Int) == 92) = false := by rw [beq_eq_false_iff_ne]; intro e; rw [hd34] at e; exact absurd e (by decide) --(UInt8.toNat_inj.1 (by show _ = 92; omega))
              have v92 : (((s[k + 1]'hj1).toNat : Int) != 92) = true := by rw [bne, u92]; rfl
              clear hmk hc h34 h92 hd hd34
              go_wp2_with fail
              go_quiet (fail)
              replace hlx := hlx.drewN nq; replace htk := htk.drewN nq; replace hfr := hfr.drewN nq; replace hbd := hbd.drewN nq
              have hSW2 : (wr.drewN nq).heap.size = wr.heap.size := rfl
              rw [← hSW2] at hHw
              clear hSW2 l0 l1 m1
              generalize wr.drewN nq = W2 at *
              have l0 := hlx.c0; have l1 := hlx.c1; have m1 := hlx.f1
              go_wp2_with fail
              go_quiet (fail)
              replace hlx := hlx.drewN nq; replace htk := htk.drewN nq; replace hfr := hfr.drewN nq; replace hbd := hbd.drewN nq
              have hSW3 : (W2.drewN nq).heap.size = W2.heap.size := rfl
              rw [← hSW3] at hHw
              clear hSW3 l0 l1 m1
              generalize W2.drewN nq = W3 at *
              have l0 := hlx.c0; have l1 := hlx.c1; have m1 := hlx.f1
              go_wp2_with fail
              have hSW4 : (W3.setCell ⟨b, 1, none⟩ (.int .i64 ((k : Int) + 1))).heap.size = W3.heap.size := by simp [World.setCell]
              replace hbd := hbd.put ⟨b, 1, none⟩ (.int .i64 ((k : Int) + 1)) hlx (by decide) (Ne.symm hbne)
              replace hlx : LexAt b s (k + 1) (W3.setCell ⟨b, 1, none⟩ (.int .i64 ((k : Int) + 1))) := hlx.put (k + 1)
              replace htk := htk.other ⟨b, 1, none⟩ (.int .i64 ((k : Int) + 1)) (Ne.symm hbt)
              replace hfr := hfr.setCell (l := [b, t]) ⟨b, 1, none⟩ (by simp) (.int .i64 ((k : Int) + 1))
              rw [← hSW4] at hHw
              clear hSW4 l0 l1 m1
              generalize W3.setCell ⟨b, 1, none⟩ (.int .i64 ((k : Int) + 1)) = W4 at *
              have hjs : k + 1 ≤ s.size := by omega
              rw [show ((k : Int) + 1) = ((k + 1 : Nat) : Int) by omega] at *
              generalize hkj : k + 1 = j at *
              have l0 := hlx.c0; have l1 := hlx.c1; have m1 := hlx.f1
              go_wp2_with fail
              go_quiet (fail)
              replace hlx := hlx.drewN nq; replace htk := htk.drewN nq; replace hfr := hfr.drewN nq; replace hbd := hbd.drewN nq
              have hSW5 : (W4.drewN nq).heap.size = W4.heap.size := rfl
              rw [← hSW5] at hHw
              clear hSW5 l0 l1 m1
              generalize W4.drewN nq = W5 at *
              have l0 := hlx.c0; have l1 := hlx.c1; have m1 := hlx.f1
              go_wp2_with fail
              go_quiet (fail)
              replace hlx := hlx.drewN nq; replace htk := htk.drewN nq; replace hfr := hfr.drewN nq; replace hbd := hbd.drewN nq
              have hSW6 : (W5.drewN nq).heap.size = W5.heap.size := rfl
              rw [← hSW6] at hHw
              clear hSW6 l0 l1 m1
              generalize W5.drewN nq = W6 at *
              have l0 := hlx.c0; have l1 := hlx.c1; have m1 := hlx.f1
              go_wp2_with fail
              have hlo := HM2.2.2
              simp only [List.length_append, List.length_cons, List.length_nil] at hlo
              have HW := Lib.hid (fun w (h : Bld H H o w) (h2 : H ≤ w.heap.size) => h.write (by omega) h2 (s[j]'hj1))
              have HM3 := Lib.hid HM2
              clear hlo HM2
              go_region_held3 (fun w' => w'.cell? ⟨b, 0, none⟩ = some (.string s) ∧ w'.cell? ⟨b, 1, none⟩ = some (.int .i64 (j : Int))) (first | exact ⟨l0, l1⟩ | exact ⟨hlx5.c0, hlx5.c1⟩)
                ((go_at_call 34; refine (HW.out _ hbd.drew (by exact hHw)).mono ?_; rintro e w5 ⟨rfl, hbd5, hb5⟩; have hlx5 : LexAt b s j w5 := LexAt.below hlx.drew hb5 hblt; have htk5 : TokAt t ⟨1, a, 0, 0, 0, []⟩ w5 := TokAt.below htk.drew hb5 htlt; have hfr5 : Fr [b, t] w w5 := Fr.lower hfr.drew (by rw [hgh]; exact hb5)))
              have l5 := hlx5.c0; have l6 := hlx5.c1; have l7 := hlx5.f1
              have K1 : LexAt b s (j + 1) (w5.setCell ⟨b, 1, none⟩ (.int .i64 ((j : Int) + 1))) := hlx5.put (j + 1)
              have K2 := htk5.other ⟨b, 1, none⟩ (.int .i64 ((j : Int) + 1)) (Ne.symm hbt)
              have K3 := hfr5.setCell (l := [b, t]) ⟨b, 1, none⟩ (by simp) (.int .i64 ((j : Int) + 1))
              have K4 := hbd5.put ⟨b, 1, none⟩ (.int .i64 ((j : Int) + 1)) hlx5 (by decide) (Ne.symm hbne)
              have e1 : (w5.setCell ⟨b, 1, none⟩ (.int .i64 ((j : Int) + 1))).cell? ⟨b, 1, none⟩ = some (.int .i64 (((j + 1 : Nat)) : Int)) := K1.c1
              have E1 := Lib.hid e1; clear e1
              go_wp2_with fail
              go_roundw
              case rel => exact ⟨j + 1, _, by omega, K1, K2, K3, K4, HM3.out⟩
              case measure =>
                rw [E1.out, L1.out]
                show s.size - (((j + 1 : Nat) : Int)).toNat < s.size - (k : Int).toNat
                omega
            · by_cases hd92 : s[k + 1]'hj1 = 92
              · have HM2 := hmk.esc hc hd (.inr hd92)
                rw [show k + 2 = k + 1 + 1 by omega] at HM2
                have u34 : (((s[k + 1]'hj1).toNat : Int) == 34) = false := by rw [beq_eq_false_iff_ne]; intro e; exact hd34 (UInt8.toNat_inj.1 (by show _ = 34; omega))
                have v34 : (((s[k + 1]'hj1).toNat : Int) != 34) = true := by rw [bne, u34]; rfl
                have u92 : (((s[k + 1]'hj1).toNat : Int) == 92) = true := by rw [hd92]; rfl
                have v92 : (((s[k + 1]'hj1).toNat : Int) != 92) = false := by rw [bne, u92]; rfl
                clear hmk hc h34 h92 hd hd34 hd92
                go_wp2_with fail
                go_quiet (fail)
                replace hlx := hlx.drewN nq; replace htk := htk.drewN nq; replace hfr := hfr.drewN nq; replace hbd := hbd.drewN nq
                have hSW2 : (wr.drewN nq).heap.size = wr.heap.size := rfl
                rw [← hSW2] at hHw
                clear hSW2 l0 l1 m1
                generalize wr.drewN nq = W2 at *
                have l0 := hlx.c0; have l1 := hlx.c1; have m1 := hlx.f1
                go_wp2_with fail
                go_quiet (fail)
                replace hlx := hlx.drewN nq; replace htk := htk.drewN nq; replace hfr := hfr.drewN nq; replace hbd := hbd.drewN nq
                have hSW3 : (W2.drewN nq).heap.size = W2.heap.size := rfl
                rw [← hSW3] at hHw
                clear hSW3 l0 l1 m1
                generalize W2.drewN nq = W3 at *
                have l0 := hlx.c0; have l1 := hlx.c1; have m1 := hlx.f1
                go_wp2_with fail
                have hSW4 : (W3.setCell ⟨b, 1, none⟩ (.int .i64 ((k : Int) + 1))).heap.size = W3.heap.size := by simp [World.setCell]
                replace hbd := hbd.put ⟨b, 1, none⟩ (.int .i64 ((k : Int) + 1)) hlx (by decide) (Ne.symm hbne)
                replace hlx : LexAt b s (k + 1) (W3.setCell ⟨b, 1, none⟩ (.int .i64 ((k : Int) + 1))) := hlx.put (k + 1)
                replace htk := htk.other ⟨b, 1, none⟩ (.int .i64 ((k : Int) + 1)) (Ne.symm hbt)
                replace hfr := hfr.setCell (l := [b, t]) ⟨b, 1, none⟩ (by simp) (.int .i64 ((k : Int) + 1))
                rw [← hSW4] at hHw
                clear hSW4 l0 l1 m1
                generalize W3.setCell ⟨b, 1, none⟩ (.int .i64 ((k : Int) + 1)) = W4 at *
                have hjs : k + 1 ≤ s.size := by omega
                rw [show ((k : Int) + 1) = ((k + 1 : Nat) : Int) by omega] at *
                generalize hkj : k + 1 = j at *
                have l0 := hlx.c0; have l1 := hlx.c1; have m1 := hlx.f1
                go_wp2_with fail
                go_quiet (fail)
                replace hlx := hlx.drewN nq; replace htk := htk.drewN nq; replace hfr := hfr.drewN nq; replace hbd := hbd.drewN nq
                have hSW5 : (W4.drewN nq).heap.size = W4.heap.size := rfl
                rw [← hSW5] at hHw
                clear hSW5 l0 l1 m1
                generalize W4.drewN nq = W5 at *
                have l0 := hlx.c0; have l1 := hlx.c1; have m1 := hlx.f1
                go_wp2_with fail
                go_quiet (fail)
                replace hlx := hlx.drewN nq; replace htk := htk.drewN nq; replace hfr := hfr.drewN nq; replace hbd := hbd.drewN nq
                have hSW6 : (W5.drewN nq).heap.size = W5.heap.size := rfl
                rw [← hSW6] at hHw
                clear hSW6 l0 l1 m1
                generalize W5.drewN nq = W6 at *
                have l0 := hlx.c0; have l1 := hlx.c1; have m1 := hlx.f1
                go_wp2_with fail
                have hlo := HM2.2.2
                simp only [List.length_append, List.length_cons, List.length_nil] at hlo
                have HW := Lib.hid (fun w (h : Bld H H o w) (h2 : H ≤ w.heap.size) => h.write (by omega) h2 (s[j]'hj1))
                have HM3 := Lib.hid HM2
                clear hlo HM2
                go_region_held3 (fun w' => w'.cell? ⟨b, 0, none⟩ = some (.string s) ∧ w'.cell? ⟨b, 1, none⟩ = some (.int .i64 (j : Int))) (first | exact ⟨l0, l1⟩ | exact ⟨hlx5.c0, hlx5.c1⟩)
                  ((go_at_call 34; refine (HW.out _ hbd.drew (by exact hHw)).mono ?_; rintro e w5 ⟨rfl, hbd5, hb5⟩; have hlx5 : LexAt b s j w5 := LexAt.below hlx.drew hb5 hblt; have htk5 : TokAt t ⟨1, a, 0, 0, 0, []⟩ w5 := TokAt.below htk.drew hb5 htlt; have hfr5 : Fr [b, t] w w5 := Fr.lower hfr.drew (by rw [hgh]; exact hb5)))
                have l5 := hlx5.c0; have l6 := hlx5.c1; have l7 := hlx5.f1
                have K1 : LexAt b s (j + 1) (w5.setCell ⟨b, 1, none⟩ (.int .i64 ((j : Int) + 1))) := hlx5.put (j + 1)
                have K2 := htk5.other ⟨b, 1, none⟩ (.int .i64 ((j : Int) + 1)) (Ne.symm hbt)
                have K3 := hfr5.setCell (l := [b, t]) ⟨b, 1, none⟩ (by simp) (.int .i64 ((j : Int) + 1))
                have K4 := hbd5.put ⟨b, 1, none⟩ (.int .i64 ((j : Int) + 1)) hlx5 (by decide) (Ne.symm hbne)
                have e1 : (w5.setCell ⟨b, 1, none⟩ (.int .i64 ((j : Int) + 1))).cell? ⟨b, 1, none⟩ = some (.int .i64 (((j + 1 : Nat)) : Int)) := K1.c1
                have E1 := Lib.hid e1; clear e1
                go_wp2_with fail
                go_roundw
                case rel => exact ⟨j + 1, _, by omega, K1, K2, K3, K4, HM3.out⟩
                case measure =>
                  rw [E1.out, L1.out]
                  show s.size - (((j + 1 : Nat) : Int)).toNat < s.size - (k : Int).toNat
                  omega
              · have HR := Lib.hid (hmk.form hc hd hd34 hd92)
                have u34 : (((s[k + 1]'hj1).toNat : Int) == 34) = false := by rw [beq_eq_false_iff_ne]; intro e; exact hd34 (UInt8.toNat_inj.1 (by show _ = 34; omega))
                have v34 : (((s[k + 1]'hj1).toNat : Int) != 34) = true := by rw [bne, u34]; rfl
                have u92 : (((s[k + 1]'hj1).toNat : Int) == 92) = false := by rw [beq_eq_false_iff_ne]; intro e; exact hd92 (UInt8.toNat_inj.1 (by show _ = 92; omega))
                have v92 : (((s[k + 1]'hj1).toNat : Int) != 92) = true := by rw [bne, u92]; rfl
                clear hmk hc h34 h92 hd hd34 hd92
                go_wp2_with fail
                go_quiet (fail)
                replace hlx := hlx.drewN nq; replace htk := htk.drewN nq; replace hfr := hfr.drewN nq; replace hbd := hbd.drewN nq
                have hSW2 : (wr.drewN nq).heap.size = wr.heap.size := rfl
                rw [← hSW2] at hHw
                clear hSW2 l0 l1 m1
                generalize wr.drewN nq = W2 at *
                have l0 := hlx.c0; have l1 := hlx.c1; have m1 := hlx.f1
                go_wp2_with fail
                go_quiet (fail)
                replace hlx := hlx.drewN nq; replace htk := htk.drewN nq; replace hfr := hfr.drewN nq; replace hbd := hbd.drewN nq
                have hSW3 : (W2.drewN nq).heap.size = W2.heap.size := rfl
                rw [← hSW3] at hHw
                clear hSW3 l0 l1 m1
                generalize W2.drewN nq = W3 at *
                have l0 := hlx.c0; have l1 := hlx.c1; have m1 := hlx.f1
                go_wp2_with fail
                have hSW4 : (W3.setCell ⟨b, 1, none⟩ (.int .i64 ((k : Int) + 1))).heap.size = W3.heap.size := by simp [World.setCell]
                replace hbd := hbd.put ⟨b, 1, none⟩ (.int .i64 ((k : Int) + 1)) hlx (by decide) (Ne.symm hbne)
                replace hlx : LexAt b s (k + 1) (W3.setCell ⟨b, 1, none⟩ (.int .i64 ((k : Int) + 1))) := hlx.put (k + 1)
                replace htk := htk.other ⟨b, 1, none⟩ (.int .i64 ((k : Int) + 1)) (Ne.symm hbt)
                replace hfr := hfr.setCell (l := [b, t]) ⟨b, 1, none⟩ (by simp) (.int .i64 ((k : Int) + 1))
                rw [← hSW4] at hHw
                clear hSW4 l0 l1 m1
                generalize W3.setCell ⟨b, 1, none⟩ (.int .i64 ((k : Int) + 1)) = W4 at *
                have hjs : k + 1 ≤ s.size := by omega
                rw [show ((k : Int) + 1) = ((k + 1 : Nat) : Int) by omega] at *
                generalize hkj : k + 1 = j at *
                have l0 := hlx.c0; have l1 := hlx.c1; have m1 := hlx.f1
                go_wp2_with fail
                go_quiet (fail)
                replace hlx := hlx.drewN nq; replace htk := htk.drewN nq; replace hfr := hfr.drewN nq; replace hbd := hbd.drewN nq
                have hSW5 : (W4.drewN nq).heap.size = W4.heap.size := rfl
                rw [← hSW5] at hHw
                clear hSW5 l0 l1 m1
                generalize W4.drewN nq = W5 at *
                have l0 := hlx.c0; have l1 := hlx.c1; have m1 := hlx.f1
                go_wp2_with fail
                go_quiet (fail)
                replace hlx := hlx.drewN nq; replace htk := htk.drewN nq; replace hfr := hfr.drewN nq; replace hbd := hbd.drewN nq
                have hSW6 : (W5.drewN nq).heap.size = W5.heap.size := rfl
                rw [← hSW6] at hHw
                clear hSW6 l0 l1 m1
                generalize W5.drewN nq = W6 at *
                have l0 := hlx.c0; have l1 := hlx.c1; have m1 := hlx.f1
                go_wp2_with fail
                go_ret
                exact ⟨ret_val (by rw [HR.out]; rfl), hfr, ⟨_, j, rfl, htk, hlx, hjs⟩, fun h => by rw [HR.out] at h; cases h⟩
        · have t2 : (((s[k]'hlt).toNat : Int) == 92) = false := by
            rw [beq_eq_false_iff_ne]; intro e; exact h92 (UInt8.toNat_inj.1 (by show _ = 92; omega))
          have HM2 := hmk.plain hc h34 h92
          clear hmk hc h34 h92
          go_wp2_with fail
          go_quiet (fail)
          replace hlx := hlx.drewN nq; replace htk := htk.drewN nq; replace hfr := hfr.drewN nq; replace hbd := hbd.drewN nq
          have hSW2 : (wr.drewN nq).heap.size = wr.heap.size := rfl
          rw [← hSW2] at hHw
          clear hSW2 l0 l1 m1
          generalize wr.drewN nq = W2 at *
          have l0 := hlx.c0; have l1 := hlx.c1; have m1 := hlx.f1
          go_wp2_with fail
          go_quiet (fail)
          replace hlx := hlx.drewN nq; replace htk := htk.drewN nq; replace hfr := hfr.drewN nq; replace hbd := hbd.drewN nq
          have hSW3 : (W2.drewN nq).heap.size = W2.heap.size := rfl
          rw [← hSW3] at hHw
          clear hSW3 l0 l1 m1
          generalize W2.drewN nq = W3 at *
          have l0 := hlx.c0; have l1 := hlx.c1; have m1 := hlx.f1
          go_wp2_with fail
          have hlo := HM2.2.2
          simp only [List.length_append, List.length_cons, List.length_nil] at hlo
          have HW := Lib.hid (fun w (h : Bld H H o w) (h2 : H ≤ w.heap.size) => h.write (by omega) h2 (s[k]'hlt))
          have HM3 := Lib.hid HM2
          clear hlo HM2
          go_region_held3 (fun w' => w'.cell? ⟨b, 0, none⟩ = some (.string s) ∧ w'.cell? ⟨b, 1, none⟩ = some (.int .i64 (k : Int))) (first | exact ⟨l0, l1⟩ | exact ⟨hlx5.c0, hlx5.c1⟩)
            ((go_at_call 34; refine (HW.out _ hbd.drew (by exact hHw)).mono ?_; rintro e w5 ⟨rfl, hbd5, hb5⟩; have hlx5 : LexAt b s k w5 := LexAt.below hlx.drew hb5 hblt; have htk5 : TokAt t ⟨1, a, 0, 0, 0, []⟩ w5 := TokAt.below htk.drew hb5 htlt; have hfr5 : Fr [b, t] w w5 := Fr.lower hfr.drew (by rw [hgh]; exact hb5)))
          have l5 := hlx5.c0; have l6 := hlx5.c1; have l7 := hlx5.f1
          have K1 : LexAt b s (k + 1) (w5.setCell ⟨b, 1, none⟩ (.int .i64 ((k : Int) + 1))) := hlx5.put (k + 1)
          have K2 := htk5.other ⟨b, 1, none⟩ (.int .i64 ((k : Int) + 1)) (Ne.symm hbt)
          have K3 := hfr5.setCell (l := [b, t]) ⟨b, 1, none⟩ (by simp) (.int .i64 ((k : Int) + 1))
          have K4 := hbd5.put ⟨b, 1, none⟩ (.int .i64 ((k : Int) + 1)) hlx5 (by decide) (Ne.symm hbne)
          have e1 : (w5.setCell ⟨b, 1, none⟩ (.int .i64 ((k : Int) + 1))).cell? ⟨b, 1, none⟩ = some (.int .i64 (((k + 1 : Nat)) : Int)) := K1.c1
          have E1 := Lib.hid e1; clear e1
          go_wp2_with fail
          go_roundw
          case rel => exact ⟨k + 1, _, by omega, K1, K2, K3, K4, HM3.out⟩
          case measure =>
            rw [E1.out, L1.out]
            show s.size - (((k + 1 : Nat) : Int)).toNat < s.size - (k : Int).toNat
            omega
    · have ht' : decide ((k : Int) < (s.size : Int)) = false := by simp; omega
      have HR := Lib.hid (hmk.torn (by rw [HL.out]; omega))
      clear hmk
      go_wp2_with fail
      go_quiet (fail)
      go_wp2
      go_ret
      exact ⟨ret_val (by rw [HR.out]; rfl), hfr.drewN _, ⟨_, k, rfl, htk.drewN _, hlx.drewN _, hk⟩, fun h => by rw [HR.out] at h; cases h⟩
end Go.Proofs.YtkcbkfflabkcgaaDoor
