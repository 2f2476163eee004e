/-
  G1, G2, G3 in one text.
-/
import Derived.Below
import Derived.BigQuiet
import Derived.Deep.AppendLies
import Derived.Deep.Cut
import Derived.Deep.CutBlock
import Derived.Deep.DeepCutAuto
import Derived.Deep.QuietTactic
import Derived.Deep.RegionHeld3
import Derived.Deep.RegionLaw
import Derived.Deep.RegionWith
import Derived.Defers
import Derived.Handy
import Derived.IntWalk
import Derived.Laws.Bits64b
import Derived.Laws.FloatBits
import Derived.Lib.AtoiAll
import Derived.Lib.Builder
import Derived.Lib.Bytes
import Derived.Lib.ConvBytes
import Derived.Lib.FrozenHead2
import Derived.Lib.Hide
import Derived.Lib.IndexMore
import Derived.Lib.ItoaNum
import Derived.Lib.MinMax
import Derived.Lib.OthersKept
import Derived.Lib.ParseIntB
import Derived.Lib.UnsafeStr
import Derived.LoopTactic
import Derived.OneCell
import Derived.OwnWalk
import Derived.Recover
import Derived.RegionTactic
import Derived.Shelf.Abstract
import Derived.StillTailTactics
import Derived.Tactics
import Derived.Tactics2
import Derived.Test.YtnaamiecljinnaaGreatChecked
import Derived.WalkKit
import Derived.WalkLawsBesides
import Derived.WalkSpells
import Ieee.Arith
import Derived.Test.YtnaamiecljinnaaGreatS00
import Derived.Test.YtnaamiecljinnaaGreatS02
import Derived.Test.YtnaamiecljinnaaGreatS09
namespace Go.Proofs.YtnaamiecljinnaaGreat
section
open Go.RowKit
/-- a Reader in its block: the bytes still to come, or an error; p parts begun -/
def RdAt (b : Nat) (s : ByteArray) (st : Option (List UInt8)) (p : Nat) (w : World) : Prop :=
  ∃ (k : Nat) (e : Int), w.heap[b]? = some (.cells #[.string s, .int .i64 (k : Int), .int .i64 e, .int .i64 (p : Int)] 98 (0, 0)) ∧ k ≤ s.size ∧ (∀ l, st = some l → e = 0 ∧ l = s.data.toList.drop k) ∧ (st = none → e ≠ 0)
theorem RdAt.kept {b p : Nat} {s : ByteArray} {st : Option (List UInt8)} {w w' : World} {l : List Nat} (h : RdAt b s st p w) (hf : Fr l w w') (hn : b ∉ l) : RdAt b s st p w' := by
  obtain ⟨k, e, h1, h2⟩ := h
  exact ⟨k, e, hf.at h1 hn, h2⟩
theorem RdAt.below {b p : Nat} {s : ByteArray} {st : Option (List UInt8)} {w w' : World} (h : RdAt b s st p w) (hb : Below w.heap.size w w') : RdAt b s st p w' := by
  obtain ⟨k, e, h1, h2⟩ := h
  exact ⟨k, e, (hb.block _ (lt_of_block h1)).trans h1, h2⟩
theorem RdAt.drewN {b p : Nat} {s : ByteArray} {st : Option (List UInt8)} {w : World} (h : RdAt b s st p w) (n : Nat) : RdAt b s st p (w.drewN n) := h
theorem RdAt.lt {b p : Nat} {s : ByteArray} {st : Option (List UInt8)} {w : World} (h : RdAt b s st p w) : b < w.heap.size := by
  obtain ⟨k, e, h1, _⟩ := h
  exact lt_of_block h1
/-- what is read, and the bytes behind it; d: what is answered in place of what is not there -/
def outR {α : Type} (d : α) (r : Option (α × List UInt8)) : α × Option (List UInt8) := match r with
  | none => (d, none)
  | some x => (x.1, some x.2)
/-- a Reader's call: what it answers, what it leaves -/
def RdCall (b : Nat) (s : ByteArray) (p : Nat) (w : World) (x : Value × Option (List UInt8)) (e : Ending) (w' : World) : Prop := e = .returned x.1 ∧ RdAt b s x.2 p w' ∧ Fr [b] w w'
def byteR : List UInt8 → Option (Nat × List UInt8)
  | [] => none
  | c :: l => some (c.toNat, l)
set_option maxRecDepth 100000 in
set_option maxHeartbeats 2000000 in
theorem rfail_any (e0 : Int) (he : e0 ≠ 0) (b p : Nat) (s : ByteArray) (st : Option (List UInt8)) (w : World) (h : RdAt b s st p w) :
    Calls Tryz.prog 85 #[.pointer (some ⟨b, 0, none⟩), .int .i64 e0] w fun e w' => e = .returned (.tuple #[]) ∧ RdAt b s none p w' ∧ Fr [b] w w' := by
  obtain ⟨k, e, hg, hk, h1, h2⟩ := h
  have z2 : w.frozen? ⟨b, 2, none⟩ = false := Lib.frozen_of_heap hg 2
  have c2 : w.cell? ⟨b, 2, none⟩ = some (.int .i64 e) := by rw [Lib.cell_of_heap hg]; rfl
  by_cases h0 : e = 0
  · have t0 : (e == 0) = true := by rw [h0]; rfl
    have hO : RdAt b s none p (w.setCell ⟨b, 2, none⟩ (.int .i64 e0)) := ⟨k, e0, heap_setN hg 2 _, hk, (fun _ h => nomatch h), fun _ => he⟩
    have hF := (Fr.refl [b] w).setCell ⟨b, 2, none⟩ (by simp) (.int .i64 e0)
    clear h0 hg h1 h2 he
    go_enter Tryz.func85, Tryz.ntmps85
    go_wp2_with fail
    go_end0
    exact ⟨rfl, hO, hF⟩
  · have t0 : (e == 0) = false := beq_eq_false_iff_ne.2 h0
    have hO : RdAt b s none p w := ⟨k, e, hg, hk, (fun _ h => nomatch h), fun _ => h0⟩
    clear h0 hg h1 h2 he
    go_enter Tryz.func85, Tryz.ntmps85
    go_wp2_with fail
    go_end0
    exact ⟨rfl, hO, Fr.refl _ _⟩
set_option maxRecDepth 100000 in
set_option maxHeartbeats 4000000 in
theorem rbyte_any (b p : Nat) (s : ByteArray) (hs : s.size ≤ 1000000) (st : Option (List UInt8)) (w : World) (h : RdAt b s st p w) :
    Calls Tryz.prog 56 #[.pointer (some ⟨b, 0, none⟩)] w (RdCall b s p w ((fun x => (.int .i64 ((x.1 : Nat) : Int), x.2)) (outR 0 (st.bind byteR)))) := by
  obtain ⟨k, e, hg, hk, h1, h2⟩ := h
  have c0 : w.cell? ⟨b, 0, none⟩ = some (.string s) := by rw [Lib.cell_of_heap hg]; rfl
  have c1 : w.cell? ⟨b, 1, none⟩ = some (.int .i64 (k : Int)) := by rw [Lib.cell_of_heap hg]; rfl
  have c2 : w.cell? ⟨b, 2, none⟩ = some (.int .i64 e) := by rw [Lib.cell_of_heap hg]; rfl
  have c3 : w.cell? ⟨b, 3, none⟩ = some (.int .i64 (p : Int)) := by rw [Lib.cell_of_heap hg]; rfl
  have z1 : w.frozen? ⟨b, 1, none⟩ = false := Lib.frozen_of_heap hg 1
  have HF := Lib.hid (fun st (w : World) (h : RdAt b s st p w) => rfail_any 14 (by decide) b p s st w h)
  have HG := Lib.hid hg; clear hg
  cases st with
  | none =>
    have t0 : (e != 0) = true := by rw [bne_iff_ne]; exact h2 rfl
    have hO : RdAt b s none p w := ⟨k, e, HG.out, hk, (fun _ h => nomatch h), h2⟩
    clear h1 h2
    go_enter Tryz.func56, Tryz.ntmps56
    go_wp2_with fail
    go_ret
    exact ⟨rfl, hO, Fr.refl _ _⟩
  | some l =>
    obtain ⟨rfl, hl⟩ := h1 l rfl
    have hlen : s.data.toList.length = s.size := by simp
    clear h1 h2
    by_cases hlt : k < s.size
    · have t1 : decide ((s.size : Int) ≤ (k : Int)) = false := by simp; omega
      have t1' : ¬ s.size ≤ k := by omega
      have hd := drop_byte (l := s.data.toList) (k := k) (by omega)
      have hgc : s.data.toList.getD k 0 = s[k]'hlt := by simp [List.getD, hlt]; rfl
      rw [hgc] at hd
      have hO : RdAt b s (some (s.data.toList.drop (k + 1))) p (w.setCell ⟨b, 1, none⟩ (.int .i64 ((k : Int) + 1))) := ⟨k + 1, 0, heap_setN HG.out 1 _, by omega, (fun l h => by cases h; exact ⟨rfl, rfl⟩), (fun h => nomatch h)⟩
      have hX : (fun x : Nat × Option (List UInt8) => ((.int .i64 ((x.1 : Nat) : Int) : Value), x.2)) (outR 0 ((some l).bind byteR)) = (.int .i64 ((s[k]'hlt).toNat : Int), some (s.data.toList.drop (k + 1))) := by
        rw [hl, hd]; rfl
      rw [hX]
      have hFr := (Fr.refl [b] w).setCell ⟨b, 1, none⟩ (by simp) (.int .i64 ((k : Int) + 1))
      have HO := Lib.hid hO; have HFr := Lib.hid hFr
      have w1 : IntKind.i64.wrap ((k : Int) + 1 - 1) = (k : Int) := by rw [IntKind.wrap_i64]; omega
      have b1 : (0 : Int) ≤ (k : Int) := by omega
      have b2 : (k : Int) < (s.size : Int) := by omega
      have hc := (s[k]'hlt).toNat_lt
      clear hX hd hgc hl hlen hO hFr
      go_enter Tryz.func56, Tryz.ntmps56
      go_wp2_with fail
      go_quiet (fail)
      go_wp2_with fail
      have A1 : RdAt b s (some (s.data.toList.drop (k + 1))) p ((w.drewN nq).setCell ⟨b, 1, none⟩ (.int .i64 ((k : Int) + 1))) := HO.out
      have A2 := ((Fr.refl [b] w).drewN nq).setCell ⟨b, 1, none⟩ (by simp) (.int .i64 ((k : Int) + 1))
      have hg2 : ((w.drewN nq).setCell ⟨b, 1, none⟩ (.int .i64 ((k : Int) + 1))).heap[b]? = some (.cells #[.string s, .int .i64 ((k : Int) + 1), .int .i64 0, .int .i64 (p : Int)] 98 (0, 0)) := heap_setN (show (w.drewN nq).heap[b]? = _ from HG.out) 1 _
      clear c0 c1 c2 c3 z1 t1 t1'
      generalize (w.drewN nq).setCell ⟨b, 1, none⟩ (.int .i64 ((k : Int) + 1)) = W2 at *
      have c0 : W2.cell? ⟨b, 0, none⟩ = some (.string s) := by rw [Lib.cell_of_heap hg2]; rfl
      have c1 : W2.cell? ⟨b, 1, none⟩ = some (.int .i64 ((k : Int) + 1)) := by rw [Lib.cell_of_heap hg2]; rfl
      clear hg2
      go_quiet (fail)
      go_wp2_with fail
      go_ret
      exact ⟨rfl, A1.drewN _, A2.drewN _⟩
    · have t1 : decide ((s.size : Int) ≤ (k : Int)) = true := by simp; omega
      have t1' : s.size ≤ k := by omega
      have hd : l = [] := by rw [hl, List.drop_eq_nil_of_le (by omega)]
      subst hd
      have hO : RdAt b s (some []) p w := ⟨k, 0, HG.out, hk, (fun l h => by cases h; exact ⟨rfl, hl⟩), (fun h => nomatch h)⟩
      have HO := Lib.hid hO
      clear hl hlen hO
      go_enter Tryz.func56, Tryz.ntmps56
      go_wp2_with fail
      go_quiet (fail)
      go_wp2_with fail
      refine (HF.out _ _ (HO.out.drewN _)).mono ?_; rintro e w2 ⟨rfl, hO2, hF2⟩
      go_wp2_with fail
      go_ret
      exact ⟨rfl, hO2, ((Fr.refl [b] w).drewN _).trans hF2⟩
end
section
open Go.RowKit
theorem shl7 {i a c : Nat} (hi : i ≤ 9) (ha : a < 128 ^ i) (hc : c < 256) (h9 : i = 9 → c ≤ 1) : 128 ^ i * (c % 128) < 18446744073709551616 ∧ a + 128 ^ i * (c % 128) < 18446744073709551616 := by
  have h := bits7 hi ha hc h9
  have hp : 128 ^ i ≤ 128 ^ 9 := Nat.pow_le_pow_right (by omega) hi
  have hm : 128 ^ i * (c % 128) + 128 ^ i ≤ 18446744073709551616 := by
    by_cases h : i = 9
    · subst h; have := h9 rfl; have : c % 128 ≤ 1 := by omega
      have h2 := Nat.mul_le_mul_left (128 ^ 9) this
      have h3 : 128 ^ 9 * 1 + 128 ^ 9 = 18446744073709551616 := by decide
      omega
    · have h8 : 128 ^ i ≤ 128 ^ 8 := Nat.pow_le_pow_right (by omega) (by omega)
      have h7 : c % 128 ≤ 127 := by omega
      have h2 := Nat.mul_le_mul h8 h7
      have h3 : 128 ^ 8 * 127 + 128 ^ 8 ≤ 18446744073709551616 := by decide
      omega
  have hp1 : 0 < 128 ^ i := Nat.pow_pos (by omega)
  constructor
  · omega
  · omega
theorem shl7w {i a c : Nat} (hi : i ≤ 9) (ha : a < 128 ^ i) (hc : c < 256) (h9 : i = 9 → c ≤ 1) :
    IntKind.u64.wrap ((a : Int) + IntKind.u64.wrap (((c % 128 : Nat) : Int) * 2 ^ (7 * i))) = ((a + 128 ^ i * (c % 128) : Nat) : Int) := by
  obtain ⟨h1, h2⟩ := shl7 hi ha hc h9
  have e2 : ((c % 128 : Nat) : Int) * 2 ^ (7 * i) = ((128 ^ i * (c % 128) : Nat) : Int) := by
    rw [Int.natCast_mul, ← pow_128, Int.natCast_pow, Int.mul_comm]; rfl
  have e3 : IntKind.u64.wrap ((128 ^ i * (c % 128) : Nat) : Int) = ((128 ^ i * (c % 128) : Nat) : Int) := by rw [IntKind.wrap_u64]; omega
  rw [e2, e3, IntKind.wrap_u64]
  omega
set_option maxRecDepth 100000 in
set_option maxHeartbeats 4000000 in
theorem ruint_any (b p : Nat) (s : ByteArray) (hs : s.size ≤ 1000000) (st : Option (List UInt8)) (w : World) (h : RdAt b s st p w) :
    Calls Tryz.prog 54 #[.pointer (some ⟨b, 0, none⟩)] w (RdCall b s p w ((fun x => (.int .u64 ((x.1 : Nat) : Int), x.2)) (outR 0 (st.bind rdU)))) := by
  have HY := Lib.hid (fun st (w : World) (h : RdAt b s st p w) => rbyte_any b p s hs st w h)
  have HF := Lib.hid (fun st (w : World) (h : RdAt b s st p w) => rfail_any 5 (by decide) b p s st w h)
  have h0 : Hid (outR 0 (st.bind rdU) = outR 0 (addU 0 0 (st.bind (rdUF (10 - 0))))) := by show _ = _; rw [addU_zero]; rfl
  generalize outR 0 (st.bind rdU) = Q at *
  go_enter Tryz.func54, Tryz.ntmps54
  go_wp2_with fail
  go_loopw [3, 4] (fun nv iv wr => ∃ (i a : Nat) (q : Option (List UInt8)), nv = .int .u64 (a : Int) ∧ iv = .int .i64 (i : Int) ∧ i ≤ 9 ∧ a < 128 ^ i ∧ RdAt b s q p wr ∧ Fr [b] w wr ∧ Hid (Q = outR 0 (addU a i (q.bind (rdUF (10 - i)))))) (fun _ iv _ => 10 - (intOf iv).toNat)
  case atStart => exact ⟨0, 0, st, rfl, rfl, by omega, by omega, h, Fr.refl _ _, h0⟩
  case round =>
    clear h h0
    obtain ⟨i, a, q, rfl, rfl, hi, ha, hrd, hfr, hE⟩ := hrel
    have HB := Lib.hid (HY.out q wr hrd)
    cases q with
    | none =>
      have HQ : Hid (Q = (0, none)) := hE.out
      go_wp2_with fail
      refine (HB.out).mono ?_; rintro e w1 ⟨rfl, hr1, hf1⟩
      obtain ⟨k1, e1, hg1, hk1, g1, g2⟩ := hr1
      have c2 : w1.cell? ⟨b, 2, none⟩ = some (.int .i64 e1) := by rw [Lib.cell_of_heap hg1]; rfl
      have t0 : (e1 != 0) = true := by rw [bne_iff_ne]; exact g2 rfl
      have hO : RdAt b s none p w1 := ⟨k1, e1, hg1, hk1, (fun _ h => nomatch h), g2⟩
      clear g1 g2 hg1
      go_wp2_with fail
      go_ret
      exact ⟨ret_val (by rw [HQ.out]; rfl), by rw [HQ.out]; exact hO, hfr.trans hf1⟩
    | some l0 =>
      cases l0 with
      | nil =>
        have HQ : Hid (Q = (0, none)) := by
          show _ = _
          rw [hE.out, show 10 - i = (9 - i) + 1 by omega]; rfl
        go_wp2_with fail
        refine (HB.out).mono ?_; rintro e w1 ⟨rfl, hr1, hf1⟩
        obtain ⟨k1, e1, hg1, hk1, g1, g2⟩ := hr1
        have c2 : w1.cell? ⟨b, 2, none⟩ = some (.int .i64 e1) := by rw [Lib.cell_of_heap hg1]; rfl
        have t0 : (e1 != 0) = true := by rw [bne_iff_ne]; exact g2 rfl
        have hO : RdAt b s none p w1 := ⟨k1, e1, hg1, hk1, (fun _ h => nomatch h), g2⟩
        clear g1 g2 hg1
        go_wp2_with fail
        go_ret
        exact ⟨ret_val (by rw [HQ.out]; rfl), by rw [HQ.out]; exact hO, hfr.trans hf1⟩
      | cons c l =>
        have hE2 : Q = outR 0 (addU a i (rdUF (10 - i) (c :: l))) := hE.out
        rw [show 10 - i = (9 - i) + 1 by omega, rdUF] at hE2
        have hc := c.toNat_lt
        have HB' := Lib.hid (show Calls Tryz.prog 56 #[.pointer (some ⟨b, 0, none⟩)] wr (RdCall b s p wr (.int .i64 (c.toNat : Int), some l)) from HB.out)
        have t9 : decide ((9 : Int) < (i : Int)) = false := by simp; omega
        clear HB hE
        by_cases hbad : (i = 9 ∧ 1 < c.toNat) ∨ (0 < i ∧ c.toNat = 0)
        · rw [if_pos (by omega)] at hE2
          have HQ : Hid (Q = (0, none)) := hE2
          have hcase : (((i : Int) == 9) = true ∧ decide ((1 : Int) < (c.toNat : Int)) = true) ∨ (((i : Int) == 9) = true ∧ decide ((1 : Int) < (c.toNat : Int)) = false ∧ 0 < i ∧ ((c.toNat : Int) == 0) = true) ∨ (((i : Int) == 9) = false ∧ 0 < i ∧ ((c.toNat : Int) == 0) = true) := by
            simp; omega
          clear hbad hE2
          rcases hcase with ⟨t1, t2⟩ | ⟨t1, t2, t3, t4⟩ | ⟨t1, t3, t4⟩
          all_goals
            go_wp2_with fail
            refine (HB'.out).mono ?_; rintro e w1 ⟨rfl, hr1, hf1⟩
            obtain ⟨k1, e1, hg1, hk1, g1, g2⟩ := hr1
            have c2 : w1.cell? ⟨b, 2, none⟩ = some (.int .i64 e1) := by rw [Lib.cell_of_heap hg1]; rfl
            obtain ⟨h1, hl1⟩ := g1 _ rfl
            subst h1
            have hO : RdAt b s (some l) p w1 := ⟨k1, 0, hg1, hk1, (fun l h => by cases h; exact ⟨rfl, hl1⟩), (fun h => nomatch h)⟩
            have HO := Lib.hid hO
            clear g1 g2 hg1 hl1 hO
            go_wp2_with fail
            refine (HF.out _ _ HO.out).mono ?_; rintro e w2 ⟨rfl, hO2, hF2⟩
            go_wp2_with fail
            go_ret
            exact ⟨ret_val (by rw [HQ.out]; rfl), by rw [HQ.out]; exact hO2, (hfr.trans hf1).trans hF2⟩
        · rw [if_neg (by omega)] at hE2
          have hcase : (((i : Int) == 9) = false ∧ ¬ 0 < i) ∨ (((i : Int) == 9) = false ∧ 0 < i ∧ ((c.toNat : Int) == 0) = false) ∨ (((i : Int) == 9) = true ∧ decide ((1 : Int) < (c.toNat : Int)) = false ∧ 0 < i ∧ ((c.toNat : Int) == 0) = false) := by
            simp; omega
          have hW := shl7w hi ha hc (by omega)
          obtain ⟨m, hm0⟩ : ∃ m : Nat, m = c.toNat % 128 := ⟨_, rfl⟩
          rw [← hm0] at hW
          have hm : (c.toNat : Int) % 128 = (m : Int) := by omega
          have hm3 : IntKind.u64.wrap (m : Int) = (m : Int) := by rw [IntKind.wrap_u64]; omega
          have hm4 : (0 : Int) ≤ 7 * (i : Int) := by omega
          have hm5 : IntKind.i64.wrap (7 * (i : Int)) = 7 * (i : Int) := by rw [IntKind.wrap_i64]; omega
          have hm6 : (7 * (i : Int)).toNat = 7 * i := by omega
          have HW := Lib.hid hW
          clear hW
          by_cases h128 : c.toNat < 128
          · have t5 : decide ((c.toNat : Int) < 128) = true := by simp; omega
            rw [if_pos h128, addU_end h128, ← hm0] at hE2
            have HQ := Lib.hid hE2
            clear hbad hE2 h128 hm0
            rcases hcase with ⟨t1, t3⟩ | ⟨t1, t3, t4⟩ | ⟨t1, t2, t3, t4⟩
            all_goals
              go_wp2_with fail
              refine (HB'.out).mono ?_; rintro e w1 ⟨rfl, hr1, hf1⟩
              obtain ⟨k1, e1, hg1, hk1, g1, g2⟩ := hr1
              have c2 : w1.cell? ⟨b, 2, none⟩ = some (.int .i64 e1) := by rw [Lib.cell_of_heap hg1]; rfl
              obtain ⟨h1, hl1⟩ := g1 _ rfl
              subst h1
              have hO : RdAt b s (some l) p w1 := ⟨k1, 0, hg1, hk1, (fun l h => by cases h; exact ⟨rfl, hl1⟩), (fun h => nomatch h)⟩
              have HO := Lib.hid hO
              clear g1 g2 hg1 hl1 hO
              go_wp2_with fail
              go_ret
              exact ⟨ret_val (by rw [HQ.out]; exact congrArg (Value.int .u64) HW.out), by rw [HQ.out]; exact HO.out, hfr.trans hf1⟩
          · have t5 : decide ((c.toNat : Int) < 128) = false := by simp; omega
            rw [if_neg h128] at hE2
            have hE3 : Q = outR 0 (addU (a + 128 ^ i * (c.toNat % 128)) (i + 1) (rdUF (9 - i) l)) := hE2.trans (congrArg (outR 0) (addU_go a i c.toNat (rdUF (9 - i) l)))
            rw [← hm0] at hE3
            have HQ := Lib.hid hE3
            have h9 : i ≤ 8 := by omega
            have hacc := acc_lt (c := c.toNat) ha
            rw [← hm0] at hacc
            clear hbad hE2 hE3 h128 hm0
            rcases hcase with ⟨t1, t3⟩ | ⟨t1, t3, t4⟩ | ⟨t1, t2, t3, t4⟩
            · go_wp2_with fail
              refine (HB'.out).mono ?_; rintro e w1 ⟨rfl, hr1, hf1⟩
              obtain ⟨k1, e1, hg1, hk1, g1, g2⟩ := hr1
              have c2 : w1.cell? ⟨b, 2, none⟩ = some (.int .i64 e1) := by rw [Lib.cell_of_heap hg1]; rfl
              obtain ⟨h1, hl1⟩ := g1 _ rfl
              subst h1
              have hO : RdAt b s (some l) p w1 := ⟨k1, 0, hg1, hk1, (fun l h => by cases h; exact ⟨rfl, hl1⟩), (fun h => nomatch h)⟩
              have HO := Lib.hid hO
              clear g1 g2 hg1 hl1 hO
              go_wp2_with fail
              go_roundw
              case rel => exact ⟨i + 1, _, some l, congrArg (Value.int .u64) HW.out, by go_num, by omega, hacc, HO.out, hfr.trans hf1, by show _ = _; rw [HQ.out, show 10 - (i + 1) = 9 - i by omega]; rfl⟩
              case measure => simp [intOf]; omega
            · go_wp2_with fail
              refine (HB'.out).mono ?_; rintro e w1 ⟨rfl, hr1, hf1⟩
              obtain ⟨k1, e1, hg1, hk1, g1, g2⟩ := hr1
              have c2 : w1.cell? ⟨b, 2, none⟩ = some (.int .i64 e1) := by rw [Lib.cell_of_heap hg1]; rfl
              obtain ⟨h1, hl1⟩ := g1 _ rfl
              subst h1
              have hO : RdAt b s (some l) p w1 := ⟨k1, 0, hg1, hk1, (fun l h => by cases h; exact ⟨rfl, hl1⟩), (fun h => nomatch h)⟩
              have HO := Lib.hid hO
              clear g1 g2 hg1 hl1 hO
              go_wp2_with fail
              go_roundw
              case rel => exact ⟨i + 1, _, some l, congrArg (Value.int .u64) HW.out, by go_num, by omega, hacc, HO.out, hfr.trans hf1, by show _ = _; rw [HQ.out, show 10 - (i + 1) = 9 - i by omega]; rfl⟩
              case measure => simp [intOf]; omega
            · exfalso; simp at t1; omega
end
section
open Go.RowKit
theorem rdU_lt (st : Option (List UInt8)) : (outR 0 (st.bind rdU)).1 < 18446744073709551616 := by
  cases st with
  | none => show 0 < _; omega
  | some l =>
    show (outR 0 (rdU l)).1 < _
    cases h : rdU l with
    | none => show 0 < _; omega
    | some r => exact (rdU_dec (n := r.1) (r := r.2) h).2
theorem rdInt_of (st : Option (List UInt8)) : outR 0 (st.bind rdInt) = (zag (outR 0 (st.bind rdU)).1, (outR 0 (st.bind rdU)).2) := by
  cases st with
  | none => rfl
  | some l =>
    show outR 0 (rdInt l) = (zag (outR 0 (rdU l)).1, (outR 0 (rdU l)).2)
    unfold rdInt
    cases rdU l <;> rfl
/-- how many items -/
def rdMany (l : List UInt8) : Option (Nat × List UInt8) := match rdU l with
  | none => none
  | some r => if 200 < r.1 then none else some r
theorem rdMany_of (st : Option (List UInt8)) : outR 0 (st.bind rdMany) = if 200 < (outR 0 (st.bind rdU)).1 then (0, none) else outR 0 (st.bind rdU) := by
  cases st with
  | none => rfl
  | some l =>
    show outR 0 (rdMany l) = if 200 < (outR 0 (rdU l)).1 then (0, none) else outR 0 (rdU l)
    unfold rdMany
    cases rdU l with
    | none => rfl
    | some r =>
      show outR 0 (if 200 < r.1 then none else some r) = if 200 < r.1 then (0, none) else (r.1, some r.2)
      split <;> rfl
set_option maxRecDepth 100000 in
set_option maxHeartbeats 4000000 in
theorem rintR_any (b p : Nat) (s : ByteArray) (hs : s.size ≤ 1000000) (st : Option (List UInt8)) (w : World) (h : RdAt b s st p w) :
    Calls Tryz.prog 121 #[.pointer (some ⟨b, 0, none⟩)] w (RdCall b s p w ((fun x => (.int .i64 x.1, x.2)) (outR 0 (st.bind rdInt)))) := by
  have HU := Lib.hid (ruint_any b p s hs st w h)
  have hlt := rdU_lt st
  have hq := rdInt_of st
  generalize outR 0 (st.bind rdU) = q at *
  generalize outR 0 (st.bind rdInt) = Q at *
  obtain ⟨n, st2⟩ := q
  dsimp only at hlt HU
  have hz := zag.eq_def n
  have HQ := Lib.hid hq
  clear hq h
  obtain ⟨k, hk | hk⟩ : ∃ k, n = 2 * k ∨ n = 2 * k + 1 := ⟨n / 2, by omega⟩
  · rw [if_neg (by omega), show n / 2 = k by omega] at hz
    have HZ := Lib.hid hz
    have t1 : (n : Int) % 2 = 0 := by omega
    have t3 : (n : Int) / 2 = (k : Int) := by omega
    have w2 : IntKind.i64.wrap (k : Int) = (k : Int) := by rw [IntKind.wrap_i64]; omega
    have b1 : (0 : Int) ≤ (n : Int) := by omega
    clear hz hk
    go_enter Tryz.func121, Tryz.ntmps121
    go_wp2_with fail
    refine (HU.out).mono ?_; rintro e w1 ⟨rfl, hr1, hf1⟩
    go_wp2_with fail
    go_ret
    exact ⟨ret_val (by rw [HQ.out]; exact congrArg (Value.int .i64) HZ.out.symm), by rw [HQ.out]; exact hr1, hf1⟩
  · rw [if_pos (by omega), show n / 2 = k by omega] at hz
    have HZ := Lib.hid hz
    have t1 : (n : Int) % 2 = 1 := by omega
    have t3 : (n : Int) / 2 = (k : Int) := by omega
    have w2 : IntKind.i64.wrap (k : Int) = (k : Int) := by rw [IntKind.wrap_i64]; omega
    have w3 : IntKind.i64.wrap (-1 - (k : Int)) = -1 - (k : Int) := by rw [IntKind.wrap_i64]; omega
    have b1 : (0 : Int) ≤ (n : Int) := by omega
    clear hz hk
    go_enter Tryz.func121, Tryz.ntmps121
    go_wp2_with fail
    refine (HU.out).mono ?_; rintro e w1 ⟨rfl, hr1, hf1⟩
    go_wp2_with fail
    go_ret
    exact ⟨ret_val (by rw [HQ.out]; exact congrArg (Value.int .i64) HZ.out.symm), by rw [HQ.out]; exact hr1, hf1⟩
set_option maxRecDepth 100000 in
set_option maxHeartbeats 4000000 in
theorem rmanyR_any (b p : Nat) (s : ByteArray) (hs : s.size ≤ 1000000) (st : Option (List UInt8)) (w : World) (h : RdAt b s st p w) :
    Calls Tryz.prog 123 #[.pointer (some ⟨b, 0, none⟩)] w (RdCall b s p w ((fun x => (.int .i64 ((x.1 : Nat) : Int), x.2)) (outR 0 (st.bind rdMany)))) := by
  have HU := Lib.hid (ruint_any b p s hs st w h)
  have HF := Lib.hid (fun st (w : World) (h : RdAt b s st p w) => rfail_any 5 (by decide) b p s st w h)
  have hq := rdMany_of st
  generalize outR 0 (st.bind rdU) = q at *
  generalize outR 0 (st.bind rdMany) = Q at *
  obtain ⟨n, st2⟩ := q
  dsimp only at hq HU
  clear h
  by_cases hn : 200 < n
  · rw [if_pos hn] at hq
    have HQ := Lib.hid hq
    have t1 : decide ((200 : Int) < (n : Int)) = true := by simp; omega
    clear hq
    go_enter Tryz.func123, Tryz.ntmps123
    go_wp2_with fail
    refine (HU.out).mono ?_; rintro e w1 ⟨rfl, hr1, hf1⟩
    go_wp2_with fail
    refine (HF.out _ _ hr1).mono ?_; rintro e w2 ⟨rfl, hr2, hf2⟩
    go_wp2_with fail
    go_ret
    exact ⟨ret_val (by rw [HQ.out]; rfl), by rw [HQ.out]; exact hr2, hf1.trans hf2⟩
  · rw [if_neg hn] at hq
    have HQ := Lib.hid hq
    have t1 : decide ((200 : Int) < (n : Int)) = false := by simp; omega
    have w2 : IntKind.i64.wrap (n : Int) = (n : Int) := by rw [IntKind.wrap_i64]; omega
    clear hq
    go_enter Tryz.func123, Tryz.ntmps123
    go_wp2_with fail
    refine (HU.out).mono ?_; rintro e w1 ⟨rfl, hr1, hf1⟩
    go_wp2_with fail
    go_ret
    exact ⟨ret_val (by rw [HQ.out]; rfl), by rw [HQ.out]; exact hr1, hf1⟩
theorem rdStr_of (m : Nat) (st : Option (List UInt8)) : outR [] (st.bind (rdStr m)) = (match (outR 0 (st.bind rdU)).2 with
    | none => ([], none)
    | some l => if m < (outR 0 (st.bind rdU)).1 ∨ l.length < (outR 0 (st.bind rdU)).1 then ([], none) else (l.take (outR 0 (st.bind rdU)).1, some (l.drop (outR 0 (st.bind rdU)).1))) := by
  cases st with
  | none => rfl
  | some l =>
    show outR [] (rdStr m l) = match (outR 0 (rdU l)).2 with
    | none => ([], none)
    | some l1 => if m < (outR 0 (rdU l)).1 ∨ l1.length < (outR 0 (rdU l)).1 then ([], none) else (l1.take (outR 0 (rdU l)).1, some (l1.drop (outR 0 (rdU l)).1))
    unfold rdStr
    cases rdU l with
    | none => rfl
    | some r =>
      show outR [] (if m < r.1 ∨ r.2.length < r.1 then none else some (r.2.take r.1, r.2.drop r.1)) = if m < r.1 ∨ r.2.length < r.1 then ([], none) else (r.2.take r.1, some (r.2.drop r.1))
      split <;> rfl
set_option maxRecDepth 100000 in
set_option maxHeartbeats 4000000 in
theorem rstrR_any (m : Nat) (hm : m ≤ 1000) (b p : Nat) (s : ByteArray) (hs : s.size ≤ 1000000) (st : Option (List UInt8)) (w : World) (h : RdAt b s st p w) :
    Calls Tryz.prog 122 #[.pointer (some ⟨b, 0, none⟩), .int .i64 (m : Int)] w (RdCall b s p w ((fun x => (.string ⟨x.1.toArray⟩, x.2)) (outR [] (st.bind (rdStr m))))) := by
  have HU := Lib.hid (ruint_any b p s hs st w h)
  have HF5 := Lib.hid (fun st (w : World) (h : RdAt b s st p w) => rfail_any 5 (by decide) b p s st w h)
  have HF14 := Lib.hid (fun st (w : World) (h : RdAt b s st p w) => rfail_any 14 (by decide) b p s st w h)
  have hq := rdStr_of m st
  have hlt := rdU_lt st
  have hL : s.data.toList.length = s.size := by simp
  generalize outR 0 (st.bind rdU) = q at *
  generalize outR [] (st.bind (rdStr m)) = Q at *
  obtain ⟨n, st2⟩ := q
  dsimp only at hlt HU
  clear h
  have m0 : decide ((m : Int) < 0) = false := by simp
  have wm : IntKind.u64.wrap (m : Int) = (m : Int) := by rw [IntKind.wrap_u64]; omega
  cases st2 with
  | none =>
    have HQ : Hid (Q = ([], none)) := hq
    clear hq
    go_enter Tryz.func122, Tryz.ntmps122
    go_wp2_with fail
    refine (HU.out).mono ?_; rintro e w1 ⟨rfl, hr1, hf1⟩
    obtain ⟨k1, e1, hg1, hk1, g1, g2⟩ := hr1
    have c0 : w1.cell? ⟨b, 0, none⟩ = some (.string s) := by rw [Lib.cell_of_heap hg1]; rfl
    have c1 : w1.cell? ⟨b, 1, none⟩ = some (.int .i64 (k1 : Int)) := by rw [Lib.cell_of_heap hg1]; rfl
    have c2 : w1.cell? ⟨b, 2, none⟩ = some (.int .i64 e1) := by rw [Lib.cell_of_heap hg1]; rfl
    have t0 : (e1 != 0) = true := by rw [bne_iff_ne]; exact g2 rfl
    have hO : RdAt b s none p w1 := ⟨k1, e1, hg1, hk1, (fun _ h => nomatch h), g2⟩
    clear g1 g2 hg1
    go_wp2_with fail
    go_ret
    exact ⟨ret_val (by rw [HQ.out]; rfl), by rw [HQ.out]; exact hO, hf1⟩
  | some l =>
    replace hq : Q = if m < n ∨ l.length < n then ([], none) else (l.take n, some (l.drop n)) := hq
    by_cases hmn : m < n
    · rw [if_pos (.inl hmn)] at hq
      have t1 : decide (m < n) = true := decide_eq_true hmn
      have HQ := Lib.hid hq
      clear hq
      go_enter Tryz.func122, Tryz.ntmps122
      go_wp2_with fail
      refine (HU.out).mono ?_; rintro e w1 ⟨rfl, hr1, hf1⟩
      obtain ⟨k1, e1, hg1, hk1, g1, g2⟩ := hr1
      have c0 : w1.cell? ⟨b, 0, none⟩ = some (.string s) := by rw [Lib.cell_of_heap hg1]; rfl
      have c1 : w1.cell? ⟨b, 1, none⟩ = some (.int .i64 (k1 : Int)) := by rw [Lib.cell_of_heap hg1]; rfl
      have c2 : w1.cell? ⟨b, 2, none⟩ = some (.int .i64 e1) := by rw [Lib.cell_of_heap hg1]; rfl
      obtain ⟨h1, hl1⟩ := g1 _ rfl
      subst h1
      have hO : RdAt b s (some l) p w1 := ⟨k1, 0, hg1, hk1, (fun l h => by cases h; exact ⟨rfl, hl1⟩), (fun h => nomatch h)⟩
      have HO := Lib.hid hO
      clear g1 g2 hg1 hl1 hO
      go_wp2_with fail
      refine (HF5.out _ _ HO.out).mono ?_; rintro e w2 ⟨rfl, hr2, hf2⟩
      go_wp2_with fail
      go_ret
      exact ⟨ret_val (by rw [HQ.out]; rfl), by rw [HQ.out]; exact hr2, hf1.trans hf2⟩
    · have t1 : decide (m < n) = false := decide_eq_false hmn
      have wn : IntKind.i64.wrap (n : Int) = (n : Int) := by rw [IntKind.wrap_i64]; omega
      by_cases hln : l.length < n
      · rw [if_pos (.inr hln)] at hq
        have HQ := Lib.hid hq
        clear hq
        go_enter Tryz.func122, Tryz.ntmps122
        go_wp2_with fail
        refine (HU.out).mono ?_; rintro e w1 ⟨rfl, hr1, hf1⟩
        obtain ⟨k1, e1, hg1, hk1, g1, g2⟩ := hr1
        have c0 : w1.cell? ⟨b, 0, none⟩ = some (.string s) := by rw [Lib.cell_of_heap hg1]; rfl
        have c1 : w1.cell? ⟨b, 1, none⟩ = some (.int .i64 (k1 : Int)) := by rw [Lib.cell_of_heap hg1]; rfl
        have c2 : w1.cell? ⟨b, 2, none⟩ = some (.int .i64 e1) := by rw [Lib.cell_of_heap hg1]; rfl
        obtain ⟨h1, hl1⟩ := g1 _ rfl
        subst h1
        have hO : RdAt b s (some l) p w1 := ⟨k1, 0, hg1, hk1, (fun l h => by cases h; exact ⟨rfl, hl1⟩), (fun h => nomatch h)⟩
        have HO := Lib.hid hO
        have hll : l.length = s.size - k1 := by rw [hl1, List.length_drop, hL]
        obtain ⟨r1, hr1'⟩ : ∃ r1 : Nat, (s.size : Int) - (k1 : Int) = (r1 : Int) := ⟨s.size - k1, by omega⟩
        have w3 : IntKind.i64.wrap (r1 : Int) = (r1 : Int) := by rw [IntKind.wrap_i64]; omega
        have w4 : IntKind.u64.wrap (r1 : Int) = (r1 : Int) := by rw [IntKind.wrap_u64]; omega
        have t3 : decide (r1 < n) = true := by simp; omega
        clear g1 g2 hg1 hl1 hO hll hln
        go_wp2_with fail
        go_quiet (fail)
        go_wp2_with fail
        refine (HF14.out _ _ (HO.out.drewN _)).mono ?_; rintro e w2 ⟨rfl, hr2, hf2⟩
        go_wp2_with fail
        go_ret
        exact ⟨ret_val (by rw [HQ.out]; rfl), by rw [HQ.out]; exact hr2, (hf1.drewN _).trans hf2⟩
      · rw [if_neg (show ¬ (m < n ∨ l.length < n) by omega)] at hq
        have HQ := Lib.hid hq
        clear hq
        go_enter Tryz.func122, Tryz.ntmps122
        go_wp2_with fail
        refine (HU.out).mono ?_; rintro e w1 ⟨rfl, hr1, hf1⟩
        obtain ⟨k1, e1, hg1, hk1, g1, g2⟩ := hr1
        have c0 : w1.cell? ⟨b, 0, none⟩ = some (.string s) := by rw [Lib.cell_of_heap hg1]; rfl
        have c1 : w1.cell? ⟨b, 1, none⟩ = some (.int .i64 (k1 : Int)) := by rw [Lib.cell_of_heap hg1]; rfl
        have c2 : w1.cell? ⟨b, 2, none⟩ = some (.int .i64 e1) := by rw [Lib.cell_of_heap hg1]; rfl
        obtain ⟨h1, hl1⟩ := g1 _ rfl
        subst h1
        have z1 : w1.frozen? ⟨b, 1, none⟩ = false := Lib.frozen_of_heap hg1 1
        have hll : l.length = s.size - k1 := by rw [hl1, List.length_drop, hL]
        obtain ⟨r1, hr1'⟩ : ∃ r1 : Nat, (s.size : Int) - (k1 : Int) = (r1 : Int) := ⟨s.size - k1, by omega⟩
        have w3 : IntKind.i64.wrap (r1 : Int) = (r1 : Int) := by rw [IntKind.wrap_i64]; omega
        have w4 : IntKind.u64.wrap (r1 : Int) = (r1 : Int) := by rw [IntKind.wrap_u64]; omega
        have t3 : decide (r1 < n) = false := by simp; omega
        have HX := Lib.hid (ext_bytes s k1 n l hl1)
        have w5 : IntKind.i64.wrap ((k1 : Int) + (n : Int)) = (k1 : Int) + (n : Int) := by rw [IntKind.wrap_i64]; omega
        have w6 : IntKind.i64.wrap ((k1 : Int) + (n : Int) - (n : Int)) = (k1 : Int) := by rw [IntKind.wrap_i64]; omega
        have b1 : (0 : Int) ≤ (k1 : Int) := by omega
        have b2 : (k1 : Int) ≤ (k1 : Int) + (n : Int) := by omega
        have b3 : (k1 : Int) + (n : Int) ≤ (s.size : Int) := by omega
        have b4 : k1 + n ≤ s.size := by omega
        have HD := Lib.hid (show l.drop n = s.data.toList.drop (k1 + n) from by rw [hl1, List.drop_drop])
        have HG := Lib.hid hg1
        clear g1 g2 hg1 hl1 hll hln
        go_wp2_with fail
        go_quiet (fail)
        go_wp2_with fail
        have hg2 : ((w1.drewN nq).setCell ⟨b, 1, none⟩ (.int .i64 ((k1 : Int) + (n : Int)))).heap[b]? = some (.cells #[.string s, .int .i64 ((k1 : Int) + (n : Int)), .int .i64 0, .int .i64 (p : Int)] 98 (0, 0)) := heap_setN (show (w1.drewN nq).heap[b]? = _ from HG.out) 1 _
        have A2 := (hf1.drewN nq).setCell ⟨b, 1, none⟩ (by simp) (.int .i64 ((k1 : Int) + (n : Int)))
        clear c0 c1 c2 z1
        generalize (w1.drewN nq).setCell ⟨b, 1, none⟩ (.int .i64 ((k1 : Int) + (n : Int))) = W2 at *
        have A1 : RdAt b s (some (l.drop n)) p W2 := ⟨k1 + n, 0, hg2, b4, (fun l h => by cases h; exact ⟨rfl, HD.out⟩), (fun h => nomatch h)⟩
        have c0 : W2.cell? ⟨b, 0, none⟩ = some (.string s) := by rw [Lib.cell_of_heap hg2]; rfl
        have c1 : W2.cell? ⟨b, 1, none⟩ = some (.int .i64 ((k1 : Int) + (n : Int))) := by rw [Lib.cell_of_heap hg2]; rfl
        clear hg2
        have A1 := Lib.hid A1
        go_quiet (fail)
        go_wp2_with fail
        go_ret
        refine ⟨ret_val ?_, by rw [HQ.out]; exact A1.out.drewN _, A2.drewN _⟩
        rw [HQ.out]
        exact congrArg Value.string HX.out
/-- a part begun: is there room for it? -/
def begR (deep p : Nat) (st : Option (List UInt8)) : Option (List UInt8) := if 12 < deep ∨ 200 < p + 1 then none else st
set_option maxRecDepth 100000 in
set_option maxHeartbeats 4000000 in
theorem rbegin_any (deep : Nat) (b p : Nat) (hp : p ≤ 100000) (s : ByteArray) (st : Option (List UInt8)) (w : World) (h : RdAt b s st p w) :
    Calls Tryz.prog 120 #[.pointer (some ⟨b, 0, none⟩), .int .i64 (deep : Int)] w fun e w' => e = .returned (.tuple #[]) ∧ RdAt b s (begR deep p st) (p + 1) w' ∧ Fr [b] w w' := by
  have HF := Lib.hid (fun st (w : World) (h : RdAt b s st (p + 1) w) => rfail_any 5 (by decide) b (p + 1) s st w h)
  obtain ⟨k1, e1, hg1, hk1, g1, g2⟩ := h
  have c3 : w.cell? ⟨b, 3, none⟩ = some (.int .i64 (p : Int)) := by rw [Lib.cell_of_heap hg1]; rfl
  have z3 : w.frozen? ⟨b, 3, none⟩ = false := Lib.frozen_of_heap hg1 3
  have hg2 : (w.setCell ⟨b, 3, none⟩ (.int .i64 ((p : Int) + 1))).heap[b]? = some (.cells #[.string s, .int .i64 (k1 : Int), .int .i64 e1, .int .i64 ((p : Int) + 1)] 98 (0, 0)) := heap_setN hg1 3 _
  have hO : RdAt b s st (p + 1) (w.setCell ⟨b, 3, none⟩ (.int .i64 ((p : Int) + 1))) := ⟨k1, e1, hg2, hk1, g1, g2⟩
  have hF := (Fr.refl [b] w).setCell ⟨b, 3, none⟩ (by simp) (.int .i64 ((p : Int) + 1))
  have c3' : (w.setCell ⟨b, 3, none⟩ (.int .i64 ((p : Int) + 1))).cell? ⟨b, 3, none⟩ = some (.int .i64 ((p : Int) + 1)) := by rw [Lib.cell_of_heap hg2]; rfl
  have hb := begR.eq_def deep p st
  have HO := Lib.hid hO
  clear g1 g2 hg1 hg2 hO
  by_cases hd : 12 < deep
  · have t1 : decide ((12 : Int) < (deep : Int)) = true := by simp; omega
    rw [if_pos (.inl hd)] at hb
    have HB := Lib.hid hb
    clear hb
    go_enter Tryz.func120, Tryz.ntmps120
    go_wp2_with fail
    refine (HF.out _ _ HO.out).mono ?_; rintro e w2 ⟨rfl, hr2, hf2⟩
    go_wp2_with fail
    go_end0
    exact ⟨rfl, by rw [HB.out]; exact hr2, hF.trans hf2⟩
  · have t1 : decide ((12 : Int) < (deep : Int)) = false := by simp; omega
    by_cases hp2 : 200 < p + 1
    · have t2 : decide ((200 : Int) < (p : Int) + 1) = true := by simp; omega
      rw [if_pos (.inr hp2)] at hb
      have HB := Lib.hid hb
      clear hb
      go_enter Tryz.func120, Tryz.ntmps120
      go_wp2_with fail
      refine (HF.out _ _ HO.out).mono ?_; rintro e w2 ⟨rfl, hr2, hf2⟩
      go_wp2_with fail
      go_end0
      exact ⟨rfl, by rw [HB.out]; exact hr2, hF.trans hf2⟩
    · have t2 : decide ((200 : Int) < (p : Int) + 1) = false := by simp; omega
      rw [if_neg (by omega)] at hb
      have HB := Lib.hid hb
      clear hb
      go_enter Tryz.func120, Tryz.ntmps120
      go_wp2_with fail
      go_end0
      exact ⟨rfl, by rw [HB.out]; exact HO.out, hF⟩
end
end Go.Proofs.YtnaamiecljinnaaGreat
