/-
  G6 in one text.
-/
import Derived.Below
import Derived.BigQuiet
import Derived.Deep.AppendLies
import Derived.Deep.Cut
import Derived.Deep.CutBlock
import Derived.Deep.DeepCutAuto
import Derived.Deep.QuietTactic
import Derived.Deep.RegionHeld3
import Derived.Deep.RegionLaw
import Derived.Deep.RegionWith
import Derived.Defers
import Derived.Handy
import Derived.IntWalk
import Derived.Laws.Bits64b
import Derived.Laws.FloatBits
import Derived.Lib.AtoiAll
import Derived.Lib.Builder
import Derived.Lib.Bytes
import Derived.Lib.ConvBytes
import Derived.Lib.FrozenHead2
import Derived.Lib.Hide
import Derived.Lib.IndexMore
import Derived.Lib.ItoaNum
import Derived.Lib.MinMax
import Derived.Lib.OthersKept
import Derived.Lib.ParseIntB
import Derived.Lib.UnsafeStr
import Derived.LoopTactic
import Derived.OneCell
import Derived.OwnWalk
import Derived.Recover
import Derived.RegionTactic
import Derived.Shelf.Abstract
import Derived.StillTailTactics
import Derived.Tactics
import Derived.Tactics2
import Derived.Test.YtnaamiecljinnaaGreatChecked
import Derived.WalkKit
import Derived.WalkLawsBesides
import Derived.WalkSpells
import Ieee.Arith
import Derived.Test.YtnaamiecljinnaaGreatS00
import Derived.Test.YtnaamiecljinnaaGreatS02
import Derived.Test.YtnaamiecljinnaaGreatS08
import Derived.Test.YtnaamiecljinnaaGreatS19
import Derived.Test.YtnaamiecljinnaaGreatS20
namespace Go.Proofs.YtnaamiecljinnaaGreat
open Go.RowKit
/-- a float's bytes, so many of them read -/
def fltI (l : List UInt8) : Nat → Nat × Option (List UInt8)
  | 0 => (0, some l)
  | i + 1 => ((fltI l i).1 * 256 + (outR 0 ((fltI l i).2.bind byteR)).1, (outR 0 ((fltI l i).2.bind byteR)).2)
theorem byteR_lt (st : Option (List UInt8)) : (outR 0 (st.bind byteR)).1 < 256 := by
  cases st with
  | none => show 0 < 256; omega
  | some l =>
    cases l with
    | nil => show 0 < 256; omega
    | cons c l => exact c.toNat_lt
theorem fltI_lt (l : List UInt8) : ∀ i, (fltI l i).1 < 256 ^ i
  | 0 => by show 0 < 1; omega
  | i + 1 => by
    have h := fltI_lt l i
    have h2 := byteR_lt (fltI l i).2
    show (fltI l i).1 * 256 + (outR 0 ((fltI l i).2.bind byteR)).1 < 256 ^ (i + 1)
    rw [Nat.pow_succ]; omega
theorem fltI_yes (l : List UInt8) : ∀ i, i ≤ l.length → fltI l i = (beN (l.take i), some (l.drop i))
  | 0, _ => rfl
  | i + 1, h => by
    have e := fltI_yes l i (by omega)
    have hd : l.drop i = l[i] :: l.drop (i + 1) := List.drop_eq_getElem_cons (by omega)
    have ht : l.take (i + 1) = l.take i ++ [l[i]] := by rw [List.take_succ_eq_append_getElem (by omega)]
    rw [fltI, e, ht, beN_snoc]
    show (beN (l.take i) * 256 + (outR 0 (byteR (l.drop i))).1, (outR 0 (byteR (l.drop i))).2) = _
    rw [hd]; rfl
theorem fltI_no (l : List UInt8) : ∀ i, l.length < i → (fltI l i).2 = none
  | 0, h => by omega
  | i + 1, h => by
    show (outR 0 ((fltI l i).2.bind byteR)).2 = none
    by_cases hi : l.length < i
    · rw [fltI_no l i hi]; rfl
    · have e := fltI_yes l i (by omega)
      rw [e]
      show (outR 0 (byteR (l.drop i))).2 = none
      rw [List.drop_eq_nil_of_le (by omega)]; rfl
set_option maxRecDepth 100000 in
set_option maxHeartbeats 8000000 in
theorem rvalue_3 (s : ByteArray) (hs : s.size ≤ 1000000) (b : Nat) (st : Option (List UInt8)) (p f dn : Nat) (hp : p ≤ 200) (l2 : List UInt8) (hkc : outR 0 ((begR dn p st).bind byteR) = (3, some l2)) (w : World) (h : RdAt b s st p w) :
    Calls Tryz.prog 86 #[.pointer (some ⟨b, 0, none⟩), .int .i64 (dn : Int)] w (RVal b s f w ((rdFlt l2).map fun r => (.mk 3 0 r.1 [] [] [], p + 1, r.2))) := by
  have HY2 := Lib.hid (fun q (w : World) (h : RdAt b s q (p + 1) w) => rbyte_any b (p + 1) s hs q w h)
  have HF := Lib.hid (fun st (w : World) (h : RdAt b s st (p + 1) w) => rfail_any 5 (by decide) b (p + 1) s st w h)
  have hbr := fun n w => bits_run n w
  have hfr := frombits_run
  have hsf : ∀ (a : Addr) (x : Nat) (m : Mode) (w : World), (store a (.float .f64 x) m).run Tryz.prog w = stored Tryz.prog w a (.float .f64 x) m := fun a x m w => run_store _ w a _ m rfl
  have hbl := h.lt
  have h0 := h.below ((Below.refl _ _).alloc (Nat.le_refl _) (.cells #[.int .i64 0, .int .i64 0, .float .f64 0, .string ⟨#[]⟩, .slice none 0 0, .slice none 0 0] 57))
  have hg0 : (w.alloc (.cells #[.int .i64 0, .int .i64 0, .float .f64 0, .string ⟨#[]⟩, .slice none 0 0, .slice none 0 0] 57)).heap[w.heap.size]? = some (.cells #[.int .i64 0, .int .i64 0, .float .f64 0, .string ⟨#[]⟩, .slice none 0 0, .slice none 0 0] 57 (0, 0)) := heap_alloc_new w _
  have hf0 := (Fr.refl [b] w).alloc (.cells #[.int .i64 0, .int .i64 0, .float .f64 0, .string ⟨#[]⟩, .slice none 0 0, .slice none 0 0] 57)
  have HB := Lib.hid (fun w h => rbegin_any dn b p (by omega) s st w h)
  have HY := Lib.hid (fun w h => (show Calls Tryz.prog 56 #[.pointer (some ⟨b, 0, none⟩)] w (RdCall b s (p + 1) w (.int .i64 3, some l2)) from by
    have := rbyte_any b (p + 1) s hs (begR dn p st) w h
    rw [hkc] at this; exact this))
  clear h
  generalize hgh : w.heap.size = P at *
  have HP := Lib.hid hgh; clear hgh
  have hnP : P ∉ [b] := by simp; omega
  go_enter Tryz.func86, Tryz.ntmps86
  go_wp2_with fail
  rw [HP.out]
  generalize w.alloc (.cells #[.int .i64 0, .int .i64 0, .float .f64 0, .string ⟨#[]⟩, .slice none 0 0, .slice none 0 0] 57) = W0 at *
  refine (HB.out _ h0).mono ?_; rintro e w1 ⟨rfl, h1, hf1⟩
  have hg1 := hf1.at hg0 hnP
  have A1 := hf0.trans hf1
  clear h0 hg0 hf1 hf0
  go_wp2_with fail
  refine (HY.out _ h1).mono ?_; rintro e w2 ⟨rfl, h2, hf2⟩
  dsimp only at h2 ⊢
  have hg2 := hf2.at hg1 hnP
  have A2 := A1.trans hf2
  clear h1 hg1 hf2 A1
  go_upto_region 3 with (fail)
  have hgQ : (w2.alloc (.cells #[.int .i64 3, .int .i64 0, .float .f64 0, .string ⟨#[]⟩, .slice none 0 0, .slice none 0 0] 57)).heap[w2.heap.size]? = some (.cells #[.int .i64 3, .int .i64 0, .float .f64 0, .string ⟨#[]⟩, .slice none 0 0, .slice none 0 0] 57 (0, 0)) := heap_alloc_new w2 _
  have hPQ : P < w2.heap.size := lt_of_block hg2
  have hgP := (Lib.alloc_old w2 (.cells #[.int .i64 3, .int .i64 0, .float .f64 0, .string ⟨#[]⟩, .slice none 0 0, .slice none 0 0] 57) P hPQ).trans hg2
  have h3 := h2.below ((Below.refl _ _).alloc (Nat.le_refl _) (.cells #[.int .i64 3, .int .i64 0, .float .f64 0, .string ⟨#[]⟩, .slice none 0 0, .slice none 0 0] 57))
  have A3 := (A2.alloc (.cells #[.int .i64 3, .int .i64 0, .float .f64 0, .string ⟨#[]⟩, .slice none 0 0, .slice none 0 0] 57)).mono (m := [b, P, w2.heap.size]) (by simp)
  clear h2 hg2 A2
  generalize w2.alloc (.cells #[.int .i64 3, .int .i64 0, .float .f64 0, .string ⟨#[]⟩, .slice none 0 0, .slice none 0 0] 57) = w3 at *
  generalize w2.heap.size = Q at *
  have hbQ : b ≠ Q := by omega
  have hbP : b ≠ P := by omega
  have hPQ' : P ≠ Q := by omega
  obtain ⟨k3, e3, hgr, hkr, g1, g2⟩ := h3
  have r2 : w3.cell? ⟨b, 2, none⟩ = some (.int .i64 e3) := by rw [Lib.cell_of_heap hgr]; rfl
  obtain ⟨h1, hl1⟩ := g1 _ rfl
  subst h1
  have hr : RdAt b s (some l2) (p + 1) w3 := ⟨k3, 0, hgr, hkr, (fun l h => by cases h; exact ⟨rfl, hl1⟩), (fun h => nomatch h)⟩
  have HR := Lib.hid hr
  clear g1 g2 hgr hr hl1
  have q0 : w3.cell? ⟨Q, 0, none⟩ = some (.int .i64 3) := by rw [Lib.cell_of_heap hgQ]; rfl
  have q1 : w3.cell? ⟨Q, 1, none⟩ = some (.int .i64 0) := by rw [Lib.cell_of_heap hgQ]; rfl
  have q2 : w3.cell? ⟨Q, 2, none⟩ = some (.float .f64 0) := by rw [Lib.cell_of_heap hgQ]; rfl
  have q3 : w3.cell? ⟨Q, 3, none⟩ = some (.string ⟨#[]⟩) := by rw [Lib.cell_of_heap hgQ]; rfl
  have q4 : w3.cell? ⟨Q, 4, none⟩ = some (.slice none 0 0) := by rw [Lib.cell_of_heap hgQ]; rfl
  have q5 : w3.cell? ⟨Q, 5, none⟩ = some (.slice none 0 0) := by rw [Lib.cell_of_heap hgQ]; rfl
  have HLT := Lib.hid (fltI_lt l2)
  go_wp2_with fail
  clear q0 q1 q2 q3 q4 q5 r2
  go_loopw [6, 7] (fun bv iv wr => ∃ (i a : Nat) (q : Option (List UInt8)), bv = .int .u64 (a : Int) ∧ iv = .int .i64 (i : Int) ∧ i ≤ 8 ∧ Hid (fltI l2 i = (a, q)) ∧ RdAt b s q (p + 1) wr ∧ Fr [b] w3 wr) (fun _ iv _ => 8 - (intOf iv).toNat)
  case atStart => exact ⟨0, 0, some l2, rfl, rfl, by omega, rfl, HR.out, Fr.refl _ _⟩
  case round =>
    clear HR
    obtain ⟨i, a, q, rfl, rfl, hi, hE, hr, hfw⟩ := hrel
    have hla := HLT.out i
    rw [hE.out] at hla
    replace hla : a < 256 ^ i := hla
    by_cases hlt : i < 8
    · have t7 : decide ((i : Int) < 8) = true := by simp; omega
      have hE2 : fltI l2 (i + 1) = (a * 256 + (outR 0 (q.bind byteR)).1, (outR 0 (q.bind byteR)).2) := by rw [fltI, hE.out]
      have hHY := HY2.out q wr hr
      have hlb := byteR_lt q
      generalize outR 0 (q.bind byteR) = y at *
      obtain ⟨c, q2⟩ := y
      dsimp only at hE2 hlb hHY
      have HE2 := Lib.hid hE2; have HC := Lib.hid hHY
      have hp7 : 256 ^ i ≤ 256 ^ 7 := Nat.pow_le_pow_right (by omega) (by omega)
      have hp8 : (256 : Nat) ^ 7 = 72057594037927936 := by decide
      have hA : a < 72057594037927936 := by omega
      clear hE2 hHY hp7 hp8 hla
      have w1 : IntKind.u64.wrap ((a : Int) * 256) = (a : Int) * 256 := by rw [IntKind.wrap_u64]; omega
      have w2' : IntKind.u64.wrap (c : Int) = (c : Int) := by rw [IntKind.wrap_u64]; omega
      have w4' : IntKind.u64.wrap ((a : Int) * 256 + (c : Int)) = (a : Int) * 256 + (c : Int) := by rw [IntKind.wrap_u64]; omega
      go_wp2_with fail
      refine (HC.out).mono ?_; rintro e w4 ⟨rfl, h4, hf4⟩
      dsimp only at h4 ⊢
      go_wp2_with fail
      go_roundw
      case rel => exact ⟨i + 1, a * 256 + c, q2, by go_num, by go_num, by omega, HE2.out, h4, hfw.trans hf4⟩
      case measure => simp [intOf]; omega
    · have t7 : decide ((i : Int) < 8) = false := by simp; omega
      obtain rfl : i = 8 := by omega
      have haF : F64 a := by
        have : (256 : Nat) ^ 8 = 18446744073709551616 := by decide
        unfold F64; omega
      have hgP4 := hfw.at hgP hnP
      have hgQ4 := hfw.at hgQ (by simp; omega)
      have A4 := A3.trans (hfw.mono (m := [b, P, Q]) (by simp))
      clear hgP hgQ A3 hla hfw
      have hCa := fun w => rcanon_any a w
      have x2 : wr.frozen? ⟨Q, 2, none⟩ = false := Lib.frozen_of_heap hgQ4 2
      have q2 : wr.cell? ⟨Q, 2, none⟩ = some (.float .f64 0) := by rw [Lib.cell_of_heap hgQ4]; rfl
      have F5 := (Fr.refl [Q] wr).setCell ⟨Q, 2, none⟩ (by simp) (.float .f64 a)
      have hgQ5 : (wr.setCell ⟨Q, 2, none⟩ (.float .f64 a)).heap[Q]? = some (.cells #[.int .i64 3, .int .i64 0, .float .f64 a, .string ⟨#[]⟩, .slice none 0 0, .slice none 0 0] 57 (0, 0)) := heap_setN hgQ4 2 _
      have hgP5 := F5.at hgP4 (by simp; omega)
      have h5 := RdAt.kept hr F5 (by simp; omega)
      have A5 := A4.trans (F5.mono (m := [b, P, Q]) (by simp))
      clear hgP4 hgQ4 A4 hr
      cases q with
      | none =>
        have HN := Lib.hid (show rdFlt l2 = none from by
          unfold rdFlt
          by_cases hl : l2.length < 8
          · rw [if_pos hl]
          · have := hE.out
            rw [fltI_yes l2 8 (by omega)] at this
            cases this)
        clear hCa
        go_upto_region 28 with (fail)
        clear x2 q2 F5 hE
        generalize wr.setCell ⟨Q, 2, none⟩ (.float .f64 a) = w5 at *
        obtain ⟨k3, e3, hgr, hkr, g1, g2⟩ := h5
        have r2 : w5.cell? ⟨b, 2, none⟩ = some (.int .i64 e3) := by rw [Lib.cell_of_heap hgr]; rfl
        have t1 : (e3 == 0) = false := beq_eq_false_iff_ne.2 (g2 rfl)
        have hr : RdAt b s none (p + 1) w5 := ⟨k3, e3, hgr, hkr, (fun _ h => nomatch h), g2⟩
        have HR := Lib.hid hr
        clear g1 g2 hgr hr
        have q0 : w5.cell? ⟨Q, 0, none⟩ = some (.int .i64 3) := by rw [Lib.cell_of_heap hgQ5]; rfl
        have q1 : w5.cell? ⟨Q, 1, none⟩ = some (.int .i64 0) := by rw [Lib.cell_of_heap hgQ5]; rfl
        have q2 : w5.cell? ⟨Q, 2, none⟩ = some (.float .f64 a) := by rw [Lib.cell_of_heap hgQ5]; rfl
        have q3 : w5.cell? ⟨Q, 3, none⟩ = some (.string ⟨#[]⟩) := by rw [Lib.cell_of_heap hgQ5]; rfl
        have q4 : w5.cell? ⟨Q, 4, none⟩ = some (.slice none 0 0) := by rw [Lib.cell_of_heap hgQ5]; rfl
        have q5 : w5.cell? ⟨Q, 5, none⟩ = some (.slice none 0 0) := by rw [Lib.cell_of_heap hgQ5]; rfl
        have e0 : w5.cell? ⟨P, 0, none⟩ = some (.int .i64 0) := by rw [Lib.cell_of_heap hgP5]; rfl
        have z0 : w5.frozen? ⟨P, 0, none⟩ = false := Lib.frozen_of_heap hgP5 0
        have e1 : w5.cell? ⟨P, 1, none⟩ = some (.int .i64 0) := by rw [Lib.cell_of_heap hgP5]; rfl
        have z1 : w5.frozen? ⟨P, 1, none⟩ = false := Lib.frozen_of_heap hgP5 1
        have e2 : w5.cell? ⟨P, 2, none⟩ = some (.float .f64 0) := by rw [Lib.cell_of_heap hgP5]; rfl
        have z2 : w5.frozen? ⟨P, 2, none⟩ = false := Lib.frozen_of_heap hgP5 2
        have e3 : w5.cell? ⟨P, 3, none⟩ = some (.string ⟨#[]⟩) := by rw [Lib.cell_of_heap hgP5]; rfl
        have z3 : w5.frozen? ⟨P, 3, none⟩ = false := Lib.frozen_of_heap hgP5 3
        have e4 : w5.cell? ⟨P, 4, none⟩ = some (.slice none 0 0) := by rw [Lib.cell_of_heap hgP5]; rfl
        have z4 : w5.frozen? ⟨P, 4, none⟩ = false := Lib.frozen_of_heap hgP5 4
        have e5 : w5.cell? ⟨P, 5, none⟩ = some (.slice none 0 0) := by rw [Lib.cell_of_heap hgP5]; rfl
        have z5 : w5.frozen? ⟨P, 5, none⟩ = false := Lib.frozen_of_heap hgP5 5
        go_wp2_with fail
        have hgF : (((((((w5).setCell ⟨P, 0, none⟩ (.int .i64 3)).setCell ⟨P, 1, none⟩ (.int .i64 0)).setCell ⟨P, 2, none⟩ (.float .f64 a)).setCell ⟨P, 3, none⟩ (.string ⟨#[]⟩)).setCell ⟨P, 4, none⟩ (.slice none 0 0)).setCell ⟨P, 5, none⟩ (.slice none 0 0)).heap[P]? = some (.cells #[.int .i64 3, .int .i64 0, .float .f64 a, .string ⟨#[]⟩, .slice none 0 0, .slice none 0 0] 57 (0, 0)) := heap_setN (heap_setN (heap_setN (heap_setN (heap_setN (heap_setN hgP5 0 _) 1 _) 2 _) 3 _) 4 _) 5 _
        have FF := ((((((Fr.refl [P] w5).setCell ⟨P, 0, none⟩ (by simp) (.int .i64 3)).setCell ⟨P, 1, none⟩ (by simp) (.int .i64 0)).setCell ⟨P, 2, none⟩ (by simp) (.float .f64 a)).setCell ⟨P, 3, none⟩ (by simp) (.string ⟨#[]⟩)).setCell ⟨P, 4, none⟩ (by simp) (.slice none 0 0)).setCell ⟨P, 5, none⟩ (by simp) (.slice none 0 0)
        clear e0 z0 q0 e1 z1 q1 e2 z2 q2 e3 z3 q3 e4 z4 q4 e5 z5 q5
        generalize ((((((w5).setCell ⟨P, 0, none⟩ (.int .i64 3)).setCell ⟨P, 1, none⟩ (.int .i64 0)).setCell ⟨P, 2, none⟩ (.float .f64 a)).setCell ⟨P, 3, none⟩ (.string ⟨#[]⟩)).setCell ⟨P, 4, none⟩ (.slice none 0 0)).setCell ⟨P, 5, none⟩ (.slice none 0 0) = X at *
        have y0 : X.cell? ⟨P, 0, none⟩ = some (.int .i64 3) := by rw [Lib.cell_of_heap hgF]; rfl
        have y1 : X.cell? ⟨P, 1, none⟩ = some (.int .i64 0) := by rw [Lib.cell_of_heap hgF]; rfl
        have y2 : X.cell? ⟨P, 2, none⟩ = some (.float .f64 a) := by rw [Lib.cell_of_heap hgF]; rfl
        have y3 : X.cell? ⟨P, 3, none⟩ = some (.string ⟨#[]⟩) := by rw [Lib.cell_of_heap hgF]; rfl
        have y4 : X.cell? ⟨P, 4, none⟩ = some (.slice none 0 0) := by rw [Lib.cell_of_heap hgF]; rfl
        have y5 : X.cell? ⟨P, 5, none⟩ = some (.slice none 0 0) := by rw [Lib.cell_of_heap hgF]; rfl
        have hrX := RdAt.kept HR.out FF (by simpa using hbP)
        have hff := (A5.trans (FF.mono (m := [b, P, Q]) (by simp))).fewer3 (by have := HP.out; omega) (by have := HP.out; omega)
        refine bodyPost_ret (v := .agg #[.int .i64 3, .int .i64 0, .float .f64 a, .string ⟨#[]⟩, .slice none 0 0, .slice none 0 0]) (by simp [results, Tryz.results86, go_sem, y0, y1, y2, y3, y4, y5]) rfl ?_
        exact ⟨.mk 3 0 a [] [] [], _, p + 1, none, rfl, ValIn.leaf (t := []) (by omega) (by omega) haF (by simp) f, hrX, hff, by rw [HN.out]; rfl⟩
      | some l5 =>
        have hl8 : ¬ l2.length < 8 := fun hl => by
          have := fltI_no l2 8 hl
          rw [hE.out] at this; cases this
        have hy := fltI_yes l2 8 (by omega)
        rw [hE.out] at hy
        injection hy with hy1 hy2
        injection hy2 with hy2
        have hN : rdFlt l2 = if canon a = a then some (a, l5) else none := by
          unfold rdFlt
          rw [if_neg hl8, ← hy1, ← hy2]
        clear hl8 hy1 hy2
        by_cases hca : canon a = a
        · rw [if_pos hca] at hN
          have HN := Lib.hid hN
          have HCa := Lib.hid (fun w => (show Calls Tryz.prog 76 #[.float .f64 a] w (fun e w' => e = .returned (.float .f64 a) ∧ w = w') from by have := hCa w; rw [hca] at this; exact this))
          clear hCa hca hN
          go_upto_region 28 with (fail)
          clear x2 q2 F5 hE
          generalize wr.setCell ⟨Q, 2, none⟩ (.float .f64 a) = w5 at *
          obtain ⟨k3, e3, hgr, hkr, g1, g2⟩ := h5
          have r2 : w5.cell? ⟨b, 2, none⟩ = some (.int .i64 e3) := by rw [Lib.cell_of_heap hgr]; rfl
          obtain ⟨h1, hl1⟩ := g1 _ rfl
          subst h1
          have hr : RdAt b s (some l5) (p + 1) w5 := ⟨k3, 0, hgr, hkr, (fun l h => by cases h; exact ⟨rfl, hl1⟩), (fun h => nomatch h)⟩
          have HR := Lib.hid hr
          clear g1 g2 hgr hr hl1
          have q0 : w5.cell? ⟨Q, 0, none⟩ = some (.int .i64 3) := by rw [Lib.cell_of_heap hgQ5]; rfl
          have q1 : w5.cell? ⟨Q, 1, none⟩ = some (.int .i64 0) := by rw [Lib.cell_of_heap hgQ5]; rfl
          have q2 : w5.cell? ⟨Q, 2, none⟩ = some (.float .f64 a) := by rw [Lib.cell_of_heap hgQ5]; rfl
          have q3 : w5.cell? ⟨Q, 3, none⟩ = some (.string ⟨#[]⟩) := by rw [Lib.cell_of_heap hgQ5]; rfl
          have q4 : w5.cell? ⟨Q, 4, none⟩ = some (.slice none 0 0) := by rw [Lib.cell_of_heap hgQ5]; rfl
          have q5 : w5.cell? ⟨Q, 5, none⟩ = some (.slice none 0 0) := by rw [Lib.cell_of_heap hgQ5]; rfl
          go_wp2_with fail
          refine (HCa.out _).mono ?_; rintro e w' ⟨rfl, rfl⟩
          clear q0 q1 q2 q3 q4 q5
          have q0 : w5.cell? ⟨Q, 0, none⟩ = some (.int .i64 3) := by rw [Lib.cell_of_heap hgQ5]; rfl
          have q1 : w5.cell? ⟨Q, 1, none⟩ = some (.int .i64 0) := by rw [Lib.cell_of_heap hgQ5]; rfl
          have q2 : w5.cell? ⟨Q, 2, none⟩ = some (.float .f64 a) := by rw [Lib.cell_of_heap hgQ5]; rfl
          have q3 : w5.cell? ⟨Q, 3, none⟩ = some (.string ⟨#[]⟩) := by rw [Lib.cell_of_heap hgQ5]; rfl
          have q4 : w5.cell? ⟨Q, 4, none⟩ = some (.slice none 0 0) := by rw [Lib.cell_of_heap hgQ5]; rfl
          have q5 : w5.cell? ⟨Q, 5, none⟩ = some (.slice none 0 0) := by rw [Lib.cell_of_heap hgQ5]; rfl
          have e0 : w5.cell? ⟨P, 0, none⟩ = some (.int .i64 0) := by rw [Lib.cell_of_heap hgP5]; rfl
          have z0 : w5.frozen? ⟨P, 0, none⟩ = false := Lib.frozen_of_heap hgP5 0
          have e1 : w5.cell? ⟨P, 1, none⟩ = some (.int .i64 0) := by rw [Lib.cell_of_heap hgP5]; rfl
          have z1 : w5.frozen? ⟨P, 1, none⟩ = false := Lib.frozen_of_heap hgP5 1
          have e2 : w5.cell? ⟨P, 2, none⟩ = some (.float .f64 0) := by rw [Lib.cell_of_heap hgP5]; rfl
          have z2 : w5.frozen? ⟨P, 2, none⟩ = false := Lib.frozen_of_heap hgP5 2
          have e3 : w5.cell? ⟨P, 3, none⟩ = some (.string ⟨#[]⟩) := by rw [Lib.cell_of_heap hgP5]; rfl
          have z3 : w5.frozen? ⟨P, 3, none⟩ = false := Lib.frozen_of_heap hgP5 3
          have e4 : w5.cell? ⟨P, 4, none⟩ = some (.slice none 0 0) := by rw [Lib.cell_of_heap hgP5]; rfl
          have z4 : w5.frozen? ⟨P, 4, none⟩ = false := Lib.frozen_of_heap hgP5 4
          have e5 : w5.cell? ⟨P, 5, none⟩ = some (.slice none 0 0) := by rw [Lib.cell_of_heap hgP5]; rfl
          have z5 : w5.frozen? ⟨P, 5, none⟩ = false := Lib.frozen_of_heap hgP5 5
          go_wp2_with fail
          have hgF : (((((((w5).setCell ⟨P, 0, none⟩ (.int .i64 3)).setCell ⟨P, 1, none⟩ (.int .i64 0)).setCell ⟨P, 2, none⟩ (.float .f64 a)).setCell ⟨P, 3, none⟩ (.string ⟨#[]⟩)).setCell ⟨P, 4, none⟩ (.slice none 0 0)).setCell ⟨P, 5, none⟩ (.slice none 0 0)).heap[P]? = some (.cells #[.int .i64 3, .int .i64 0, .float .f64 a, .string ⟨#[]⟩, .slice none 0 0, .slice none 0 0] 57 (0, 0)) := heap_setN (heap_setN (heap_setN (heap_setN (heap_setN (heap_setN hgP5 0 _) 1 _) 2 _) 3 _) 4 _) 5 _
          have FF := ((((((Fr.refl [P] w5).setCell ⟨P, 0, none⟩ (by simp) (.int .i64 3)).setCell ⟨P, 1, none⟩ (by simp) (.int .i64 0)).setCell ⟨P, 2, none⟩ (by simp) (.float .f64 a)).setCell ⟨P, 3, none⟩ (by simp) (.string ⟨#[]⟩)).setCell ⟨P, 4, none⟩ (by simp) (.slice none 0 0)).setCell ⟨P, 5, none⟩ (by simp) (.slice none 0 0)
          clear e0 z0 q0 e1 z1 q1 e2 z2 q2 e3 z3 q3 e4 z4 q4 e5 z5 q5
          generalize ((((((w5).setCell ⟨P, 0, none⟩ (.int .i64 3)).setCell ⟨P, 1, none⟩ (.int .i64 0)).setCell ⟨P, 2, none⟩ (.float .f64 a)).setCell ⟨P, 3, none⟩ (.string ⟨#[]⟩)).setCell ⟨P, 4, none⟩ (.slice none 0 0)).setCell ⟨P, 5, none⟩ (.slice none 0 0) = X at *
          have y0 : X.cell? ⟨P, 0, none⟩ = some (.int .i64 3) := by rw [Lib.cell_of_heap hgF]; rfl
          have y1 : X.cell? ⟨P, 1, none⟩ = some (.int .i64 0) := by rw [Lib.cell_of_heap hgF]; rfl
          have y2 : X.cell? ⟨P, 2, none⟩ = some (.float .f64 a) := by rw [Lib.cell_of_heap hgF]; rfl
          have y3 : X.cell? ⟨P, 3, none⟩ = some (.string ⟨#[]⟩) := by rw [Lib.cell_of_heap hgF]; rfl
          have y4 : X.cell? ⟨P, 4, none⟩ = some (.slice none 0 0) := by rw [Lib.cell_of_heap hgF]; rfl
          have y5 : X.cell? ⟨P, 5, none⟩ = some (.slice none 0 0) := by rw [Lib.cell_of_heap hgF]; rfl
          have hrX := RdAt.kept HR.out FF (by simpa using hbP)
          have hff := (A5.trans (FF.mono (m := [b, P, Q]) (by simp))).fewer3 (by have := HP.out; omega) (by have := HP.out; omega)
          refine bodyPost_ret (v := .agg #[.int .i64 3, .int .i64 0, .float .f64 a, .string ⟨#[]⟩, .slice none 0 0, .slice none 0 0]) (by simp [results, Tryz.results86, go_sem, y0, y1, y2, y3, y4, y5]) rfl ?_
          exact ⟨.mk 3 0 a [] [] [], _, p + 1, _, rfl, ValIn.leaf (t := []) (by omega) (by omega) haF (by simp) f, hrX, hff, by rw [HN.out]; exact ⟨rfl, rfl, rfl⟩⟩
        · rw [if_neg hca] at hN
          have HN := Lib.hid hN
          have HCa := Lib.hid hCa
          have tb : ((canon a : Int) != (a : Int)) = true := by rw [bne_iff_ne]; omega
          clear hCa hca hN
          generalize canon a = ca at *
          go_upto_region 28 with (fail)
          clear x2 q2 F5 hE
          generalize wr.setCell ⟨Q, 2, none⟩ (.float .f64 a) = w5 at *
          obtain ⟨k3, e3, hgr, hkr, g1, g2⟩ := h5
          have r2 : w5.cell? ⟨b, 2, none⟩ = some (.int .i64 e3) := by rw [Lib.cell_of_heap hgr]; rfl
          obtain ⟨h1, hl1⟩ := g1 _ rfl
          subst h1
          have hr : RdAt b s (some l5) (p + 1) w5 := ⟨k3, 0, hgr, hkr, (fun l h => by cases h; exact ⟨rfl, hl1⟩), (fun h => nomatch h)⟩
          have HR := Lib.hid hr
          clear g1 g2 hgr hr hl1
          have q0 : w5.cell? ⟨Q, 0, none⟩ = some (.int .i64 3) := by rw [Lib.cell_of_heap hgQ5]; rfl
          have q1 : w5.cell? ⟨Q, 1, none⟩ = some (.int .i64 0) := by rw [Lib.cell_of_heap hgQ5]; rfl
          have q2 : w5.cell? ⟨Q, 2, none⟩ = some (.float .f64 a) := by rw [Lib.cell_of_heap hgQ5]; rfl
          have q3 : w5.cell? ⟨Q, 3, none⟩ = some (.string ⟨#[]⟩) := by rw [Lib.cell_of_heap hgQ5]; rfl
          have q4 : w5.cell? ⟨Q, 4, none⟩ = some (.slice none 0 0) := by rw [Lib.cell_of_heap hgQ5]; rfl
          have q5 : w5.cell? ⟨Q, 5, none⟩ = some (.slice none 0 0) := by rw [Lib.cell_of_heap hgQ5]; rfl
          go_wp2_with fail
          refine (HCa.out _).mono ?_; rintro e w' ⟨rfl, rfl⟩
          go_wp2_with fail
          refine (HF.out _ _ HR.out).mono ?_; rintro e w6 ⟨rfl, h6, hf6⟩
          have hgP6 := hf6.at hgP5 hnP
          have hgQ6 := hf6.at hgQ5 (by simp; omega)
          have A6 := A5.trans (hf6.mono (m := [b, P, Q]) (by simp))
          clear hgP5 hgQ5 A5 q0 q1 q2 q3 q4 q5 hf6 HR
          have q0 : w6.cell? ⟨Q, 0, none⟩ = some (.int .i64 3) := by rw [Lib.cell_of_heap hgQ6]; rfl
          have q1 : w6.cell? ⟨Q, 1, none⟩ = some (.int .i64 0) := by rw [Lib.cell_of_heap hgQ6]; rfl
          have q2 : w6.cell? ⟨Q, 2, none⟩ = some (.float .f64 a) := by rw [Lib.cell_of_heap hgQ6]; rfl
          have q3 : w6.cell? ⟨Q, 3, none⟩ = some (.string ⟨#[]⟩) := by rw [Lib.cell_of_heap hgQ6]; rfl
          have q4 : w6.cell? ⟨Q, 4, none⟩ = some (.slice none 0 0) := by rw [Lib.cell_of_heap hgQ6]; rfl
          have q5 : w6.cell? ⟨Q, 5, none⟩ = some (.slice none 0 0) := by rw [Lib.cell_of_heap hgQ6]; rfl
          have e0 : w6.cell? ⟨P, 0, none⟩ = some (.int .i64 0) := by rw [Lib.cell_of_heap hgP6]; rfl
          have z0 : w6.frozen? ⟨P, 0, none⟩ = false := Lib.frozen_of_heap hgP6 0
          have e1 : w6.cell? ⟨P, 1, none⟩ = some (.int .i64 0) := by rw [Lib.cell_of_heap hgP6]; rfl
          have z1 : w6.frozen? ⟨P, 1, none⟩ = false := Lib.frozen_of_heap hgP6 1
          have e2 : w6.cell? ⟨P, 2, none⟩ = some (.float .f64 0) := by rw [Lib.cell_of_heap hgP6]; rfl
          have z2 : w6.frozen? ⟨P, 2, none⟩ = false := Lib.frozen_of_heap hgP6 2
          have e3 : w6.cell? ⟨P, 3, none⟩ = some (.string ⟨#[]⟩) := by rw [Lib.cell_of_heap hgP6]; rfl
          have z3 : w6.frozen? ⟨P, 3, none⟩ = false := Lib.frozen_of_heap hgP6 3
          have e4 : w6.cell? ⟨P, 4, none⟩ = some (.slice none 0 0) := by rw [Lib.cell_of_heap hgP6]; rfl
          have z4 : w6.frozen? ⟨P, 4, none⟩ = false := Lib.frozen_of_heap hgP6 4
          have e5 : w6.cell? ⟨P, 5, none⟩ = some (.slice none 0 0) := by rw [Lib.cell_of_heap hgP6]; rfl
          have z5 : w6.frozen? ⟨P, 5, none⟩ = false := Lib.frozen_of_heap hgP6 5
          go_wp2_with fail
          have hgF : (((((((w6).setCell ⟨P, 0, none⟩ (.int .i64 3)).setCell ⟨P, 1, none⟩ (.int .i64 0)).setCell ⟨P, 2, none⟩ (.float .f64 a)).setCell ⟨P, 3, none⟩ (.string ⟨#[]⟩)).setCell ⟨P, 4, none⟩ (.slice none 0 0)).setCell ⟨P, 5, none⟩ (.slice none 0 0)).heap[P]? = some (.cells #[.int .i64 3, .int .i64 0, .float .f64 a, .string ⟨#[]⟩, .slice none 0 0, .slice none 0 0] 57 (0, 0)) := heap_setN (heap_setN (heap_setN (heap_setN (heap_setN (heap_setN hgP6 0 _) 1 _) 2 _) 3 _) 4 _) 5 _
          have FF := ((((((Fr.refl [P] w6).setCell ⟨P, 0, none⟩ (by simp) (.int .i64 3)).setCell ⟨P, 1, none⟩ (by simp) (.int .i64 0)).setCell ⟨P, 2, none⟩ (by simp) (.float .f64 a)).setCell ⟨P, 3, none⟩ (by simp) (.string ⟨#[]⟩)).setCell ⟨P, 4, none⟩ (by simp) (.slice none 0 0)).setCell ⟨P, 5, none⟩ (by simp) (.slice none 0 0)
          clear e0 z0 q0 e1 z1 q1 e2 z2 q2 e3 z3 q3 e4 z4 q4 e5 z5 q5
          generalize ((((((w6).setCell ⟨P, 0, none⟩ (.int .i64 3)).setCell ⟨P, 1, none⟩ (.int .i64 0)).setCell ⟨P, 2, none⟩ (.float .f64 a)).setCell ⟨P, 3, none⟩ (.string ⟨#[]⟩)).setCell ⟨P, 4, none⟩ (.slice none 0 0)).setCell ⟨P, 5, none⟩ (.slice none 0 0) = X at *
          have y0 : X.cell? ⟨P, 0, none⟩ = some (.int .i64 3) := by rw [Lib.cell_of_heap hgF]; rfl
          have y1 : X.cell? ⟨P, 1, none⟩ = some (.int .i64 0) := by rw [Lib.cell_of_heap hgF]; rfl
          have y2 : X.cell? ⟨P, 2, none⟩ = some (.float .f64 a) := by rw [Lib.cell_of_heap hgF]; rfl
          have y3 : X.cell? ⟨P, 3, none⟩ = some (.string ⟨#[]⟩) := by rw [Lib.cell_of_heap hgF]; rfl
          have y4 : X.cell? ⟨P, 4, none⟩ = some (.slice none 0 0) := by rw [Lib.cell_of_heap hgF]; rfl
          have y5 : X.cell? ⟨P, 5, none⟩ = some (.slice none 0 0) := by rw [Lib.cell_of_heap hgF]; rfl
          have hrX := RdAt.kept h6 FF (by simpa using hbP)
          have hff := (A6.trans (FF.mono (m := [b, P, Q]) (by simp))).fewer3 (by have := HP.out; omega) (by have := HP.out; omega)
          refine bodyPost_ret (v := .agg #[.int .i64 3, .int .i64 0, .float .f64 a, .string ⟨#[]⟩, .slice none 0 0, .slice none 0 0]) (by simp [results, Tryz.results86, go_sem, y0, y1, y2, y3, y4, y5]) rfl ?_
          exact ⟨.mk 3 0 a [] [] [], _, p + 1, _, rfl, ValIn.leaf (t := []) (by omega) (by omega) haF (by simp) f, hrX, hff, by rw [HN.out]; rfl⟩
end Go.Proofs.YtnaamiecljinnaaGreat
