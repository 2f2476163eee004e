/-
  Fp, V2, Q1, Q2, V4, V5 in one text.
-/
import Derived.Below
import Derived.BigQuiet
import Derived.Deep.Cut
import Derived.Deep.QuietTactic
import Derived.Handy
import Derived.IntWalk
import Derived.Laws.Bits64b
import Derived.Laws.FloatBits
import Derived.Lib.AtoiAll
import Derived.Lib.Hide
import Derived.Lib.IndexMore
import Derived.Lib.ItoaNum
import Derived.Lib.MinMax
import Derived.Lib.ParseIntB
import Derived.LoopTactic
import Derived.OwnWalk
import Derived.Tactics
import Derived.Tactics2
import Derived.Test.YtnaamiecljinnaaGreatChecked
import Derived.WalkKit
import Derived.WalkLawsBesides
import Derived.WalkSpells
import Ieee.Arith
import Derived.Test.YtnaamiecljinnaaGreatS00
namespace Go.Proofs.YtnaamiecljinnaaGreat
section
theorem nan_canon (b : Nat) : Fl.isNaN (canon b) = Fl.isNaN b := by
  unfold canon; cases h : Fl.isNaN b <;> simp [h, nan_cnan]
theorem canon_canon (b : Nat) : canon (canon b) = canon b := by
  have := nan_canon b
  cases h : Fl.isNaN b
  · rw [h] at this; rw [canon, this]; simp
  · rw [h] at this; simp [canon, h, nan_cnan]
end
section
open Go.RowKit
theorem ValAt.more {w : World} : ∀ (d : Nat) (v : VT) (cs : Array Value), ValAt w d v cs → ValAt w (d + 1) v cs
  | 0, _, _, h => h.elim
  | d + 1, v, cs, h => by
    obtain ⟨pn, pi, h1, h2, h3, h4, h5, h6, h7, h8⟩ := h
    refine ⟨pn, pi, h1, h2, h3, h4, h5, h6, h7, ?_⟩
    rcases h8 with h8 | ⟨g, off, cap, a1, a2, a3⟩
    · exact .inl h8
    · refine .inr ⟨g, off, cap, a1, a2, fun i hi => ?_⟩
      obtain ⟨ds, b1, b2⟩ := a3 i hi
      exact ⟨ds, ValAt.more d _ ds b1, b2⟩
end
section
open Go
/-- what fuel f can write -/
theorem rdUF_enc : ∀ (f n : Nat) (r : List UInt8), f ≤ 9 → n < 2 * 128 ^ f → (f < 9 → 0 < n) → rdUF (f + 1) (uintB (f + 1) n ++ r) = some (n, r)
  | f, n, r, hf, hn, h0 => by
    rw [uintB]
    by_cases h1 : n < 128
    · rw [if_pos h1, List.singleton_append, rdUF]
      have e : (UInt8.ofNat n).toNat = n := by simp [UInt8.toNat_ofNat']; omega
      rw [e, if_neg, if_pos h1]
      rintro (⟨h2, h3⟩ | ⟨h2, h3⟩)
      · subst h2; simp at hn; omega
      · have := h0 h2; omega
    · rw [if_neg h1]
      have e : (UInt8.ofNat (n % 128 + 128)).toNat = n % 128 + 128 := by simp [UInt8.toNat_ofNat']; omega
      match f with
      | 0 => simp at hn; omega
      | f + 1 =>
        have ih := rdUF_enc f (n / 128) r (by omega) (by rw [Nat.pow_succ] at hn; omega) (fun _ => by omega)
        rw [List.cons_append, rdUF, e, if_neg (by omega), if_neg (by omega), ih]
        simp only [Option.some.injEq, Prod.mk.injEq, and_true]
        omega
theorem rdU_enc {n : Nat} (r : List UInt8) (h : n < 18446744073709551616) : rdU (uintS n ++ r) = some (n, r) :=
  rdUF_enc 9 n r (by omega) (by simpa using h) (fun h => by omega)
end
section
open Go
theorem canL_length : ∀ l : List VT, (canL l).length = l.length
  | [] => rfl
  | x :: xs => by rw [canL, List.length_cons, canL_length xs, List.length_cons]
theorem zag_zig (n : Int) : zag (zig n) = n := by
  unfold zig zag
  split
  · rw [if_pos (by omega)]; omega
  · rw [if_neg (by omega)]; omega
theorem u8_nat (n : Nat) : (UInt8.ofNat (n % 256)).toNat = n % 256 := by simp [UInt8.toNat_ofNat']
theorem beN_fltE (b : Nat) (h : b < 18446744073709551616) : beN (fltE b) = b := by
  show ((((((((0 * 256 + (UInt8.ofNat (b / 2 ^ 56 % 256)).toNat) * 256 + (UInt8.ofNat (b / 2 ^ 48 % 256)).toNat) * 256 + (UInt8.ofNat (b / 2 ^ 40 % 256)).toNat) * 256 + (UInt8.ofNat (b / 2 ^ 32 % 256)).toNat) * 256 + (UInt8.ofNat (b / 2 ^ 24 % 256)).toNat) * 256 + (UInt8.ofNat (b / 2 ^ 16 % 256)).toNat) * 256 + (UInt8.ofNat (b / 2 ^ 8 % 256)).toNat) * 256 + (UInt8.ofNat (b / 2 ^ 0 % 256)).toNat) = b
  simp only [u8_nat]
  omega
theorem canon_zero {f : Nat} (h : canon f = 0) : f = 0 := by
  unfold canon at h
  split at h
  · exact absurd h (by decide)
  · exact h
theorem rdStr_enc {most : Nat} (s r : List UInt8) (h : s.length ≤ most) (hm : s.length < 18446744073709551616) : rdStr most (strE s ++ r) = some (s, r) := by
  unfold rdStr strE
  rw [List.append_assoc, rdU_enc _ hm]
  simp only [List.length_append]
  rw [if_neg (by omega), List.take_left' rfl, List.drop_left' rfl]
end
section
open Go.RowKit
mutual
/-- how deep, looked at so far -/
def depthV : VT → Nat → Nat
  | .mk _ _ _ _ _ its, far => if far = 0 then 1 else depthL its (far - 1) + 1
def depthL : List VT → Nat → Nat
  | [], _ => 0
  | x :: xs, far => max (depthV x far) (depthL xs far)
end
theorem depthL_drop {l : List VT} {i m : Nat} (hi : i < l.length) : depthL (l.drop i) m = max (depthV (l.getD i noVT) m) (depthL (l.drop (i + 1)) m) := by
  have e : l.getD i noVT = l[i] := by simp [List.getD, hi]
  rw [List.drop_eq_getElem_cons hi, depthL, e]
mutual
theorem depthV_le : ∀ (v : VT) (n : Nat), depthV v n ≤ n + 1
  | .mk _ _ _ _ _ its, n => by
    rw [depthV]
    split
    · omega
    · have := depthL_le its (n - 1)
      omega
theorem depthL_le : ∀ (l : List VT) (n : Nat), depthL l n ≤ n + 1
  | [], n => by rw [depthL]; omega
  | x :: xs, n => by
    rw [depthL]
    have h1 := depthV_le x n
    have h2 := depthL_le xs n
    omega
end
set_option maxRecDepth 100000 in
set_option maxHeartbeats 1000000 in
theorem rdepth_any : ∀ (d : Nat) (v : VT) (cs : Array Value) (n : Nat) (w : World), ValAt w d v cs → n ≤ 1000 →
    Calls Tryz.prog 35 #[.agg cs, .int .i64 (n : Int)] w fun e w' => e = .returned (.int .i64 (depthV v n : Nat)) ∧ Below w.heap.size w w'
  | 0, _, _, _, _, h, _ => h.elim
  | d + 1, v, cs, n, w, h, hn => by
    obtain ⟨pn, pi, rfl, h2, h3, h4, h5, h6, h7, h8⟩ := h
    have ih := Lib.hid (rdepth_any d)
    have hcv : depthV v n = if n = 0 then 1 else depthL v.items (n - 1) + 1 := by cases v; rw [depthV]; rfl
    have HCV := Lib.hid hcv
    clear hcv h2 h3 h4 h5 h6
    have hB : Below w.heap.size w (w.alloc (.cells #[.int .i64 v.kind, .int .i64 v.num, .float .f64 v.flt, .string ⟨v.str.toArray⟩, pn, pi] 57)) := (Below.refl _ _).alloc (Nat.le_refl _) _
    have hnew : (w.alloc (.cells #[.int .i64 v.kind, .int .i64 v.num, .float .f64 v.flt, .string ⟨v.str.toArray⟩, pn, pi] 57)).heap[w.heap.size]? = some (.cells #[.int .i64 v.kind, .int .i64 v.num, .float .f64 v.flt, .string ⟨v.str.toArray⟩, pn, pi] 57 (0, 0)) := heap_alloc_new w _
    have hK : w.heap.size + 1 = (w.alloc (.cells #[.int .i64 v.kind, .int .i64 v.num, .float .f64 v.flt, .string ⟨v.str.toArray⟩, pn, pi] 57)).heap.size := by simp
    obtain ⟨its, hits⟩ : ∃ its, its = v.items := ⟨_, rfl⟩
    rw [← hits] at h7 h8 HCV
    have h8' : ∃ p cap, pi = .slice p its.length cap ∧ ∀ i, i < its.length → ∃ g off, p = some ⟨g, off, none⟩ ∧ g < w.heap.size ∧ ∃ ds, ValAt w d (its.getD i noVT) ds ∧ ∀ j, j < 6 → w.cell? ⟨g, off + i * 6 + j, none⟩ = ds[j]? := by
      rcases h8 with ⟨h8, p, c, hp⟩ | ⟨g, off, cap, hp, hg, hc⟩
      · subst h8
        exact ⟨p, c, hp, fun i hi => absurd hi (by simp)⟩
      · exact ⟨_, cap, hp, fun i hi => ⟨g, off, rfl, hg, hc i hi⟩⟩
    obtain ⟨p, cap, rfl, h9⟩ := h8'
    have H9 := Lib.hid h9
    clear h8 h9 hits
    generalize hN : its.length = N at *
    have HN := Lib.hid hN
    clear hN
    go_enter Tryz.func35, Tryz.ntmps35
    go_wp2_with fail
    generalize w.alloc (.cells #[.int .i64 v.kind, .int .i64 v.num, .float .f64 v.flt, .string ⟨v.str.toArray⟩, pn, .slice p N cap] 57) = W0 at *
    generalize hgh : w.heap.size = H at *
    have HH := Lib.hid hgh; clear hgh
    have hW0 : H < W0.heap.size := by omega
    clear hK
    have hB8 := Below.refl W0.heap.size W0
    generalize hG : W0.heap.size = G at *
    have HG := Lib.hid hG; clear hG
    go_loopw [5, 6] (fun mv iv wr => ∃ i m : Nat, i ≤ N ∧ m ≤ 2000 ∧ mv = .int .i64 m ∧ iv = .int .i64 i ∧ Below G W0 wr ∧ (n = 0 → m = 0) ∧ Hid (n ≠ 0 → depthL its (n - 1) = max m (depthL (its.drop i) (n - 1)))) (fun _ iv _ => N - (intOf iv).toNat)
    case atStart => exact ⟨0, 0, by omega, by omega, rfl, rfl, hB8, fun _ => rfl, fun _ => by rw [List.drop_zero, Nat.zero_max]⟩
    case round =>
      clear hB8
      obtain ⟨i, m, hi, hm, rfl, rfl, hBr, hm0, hcn⟩ := hrel
      have hGr : G ≤ wr.heap.size := by have := hBr.size; rw [HG.out] at this; exact this
      have hBw : Below H w wr := hB.trans (hBr.mono (by omega))
      have r5 : wr.cell? ⟨H, 5, none⟩ = some (.slice p N cap) := (hBr.cell (p := ⟨H, 5, none⟩) (by show H < G; omega)).trans (by simp [World.cell?, hnew])
      by_cases hlt : i < N
      · have t0 : decide ((i : Int) < (N : Int)) = true := by simp; omega
        by_cases h5 : 0 < n
        · have t1 : decide ((0 : Int) < (n : Int)) = true := by simp; omega
          obtain ⟨g, off, rfl, hg, ds, hv, hcl⟩ := H9.out i hlt
          obtain ⟨qn, qi, rfl⟩ := ValAt.form hv
          have x0 : wr.cell? ⟨g, off + i * 6, none⟩ = some (.int .i64 (its.getD i noVT).kind) := (hBw.cell (p := ⟨g, off + i * 6 + 0, none⟩) hg).trans (hcl 0 (by decide))
          have x1 : wr.cell? ⟨g, off + i * 6 + 1, none⟩ = some (.int .i64 (its.getD i noVT).num) := (hBw.cell (p := ⟨g, off + i * 6 + 1, none⟩) hg).trans (hcl 1 (by decide))
          have x2 : wr.cell? ⟨g, off + i * 6 + 2, none⟩ = some (.float .f64 (its.getD i noVT).flt) := (hBw.cell (p := ⟨g, off + i * 6 + 2, none⟩) hg).trans (hcl 2 (by decide))
          have x3 : wr.cell? ⟨g, off + i * 6 + 3, none⟩ = some (.string ⟨(its.getD i noVT).str.toArray⟩) := (hBw.cell (p := ⟨g, off + i * 6 + 3, none⟩) hg).trans (hcl 3 (by decide))
          have x4 : wr.cell? ⟨g, off + i * 6 + 4, none⟩ = some (qn) := (hBw.cell (p := ⟨g, off + i * 6 + 4, none⟩) hg).trans (hcl 4 (by decide))
          have x5 : wr.cell? ⟨g, off + i * 6 + 5, none⟩ = some (qi) := (hBw.cell (p := ⟨g, off + i * 6 + 5, none⟩) hg).trans (hcl 5 (by decide))
          have hv2 := ValAt.kept (w' := wr) (by rw [HH.out]; exact hBw) d _ _ hv
          have HC := Lib.hid (ih.out _ _ (n - 1) wr hv2 (by omega))
          have hdn := depthL_drop (l := its) (i := i) (m := n - 1) (by rw [HN.out]; exact hlt)
          have HD := Lib.hid hdn
          have hle := depthV_le (its.getD i noVT) (n - 1)
          generalize its.getD i noVT = k at *
          generalize depthV k (n - 1) = m2 at *
          have b1 : (0 : Int) ≤ (i : Int) := by omega
          have b2 : (i : Int) < (N : Int) := by omega
          have hn1 : ((n - 1 : Nat) : Int) = (n : Int) - 1 := by omega
          rw [hn1] at HC
          have hmx : max (m : Int) (m2 : Int) = ((max m m2 : Nat) : Int) := by omega
          clear hdn hcl hv hv2 hn1
          go_wp2_with fail
          refine (HC.out).mono ?_; rintro e w5 ⟨rfl, hb5⟩
          have hB6 := hBr.trans (hb5.mono hGr)
          go_wp2_with fail
          go_roundw
          case rel => exact ⟨i + 1, max m m2, by omega, by omega, rfl, by go_num, hB6, fun h => absurd h (by omega), fun h => by rw [hcn.out h, HD.out, Nat.max_assoc]⟩
          case measure => simp [intOf]; omega
        · have t1 : decide ((0 : Int) < (n : Int)) = false := by simp; omega
          have hn0 : n = 0 := by omega
          have HF := Lib.hid (show depthV v n = m + 1 from by rw [HCV.out, if_pos hn0, hm0 hn0])
          clear hn0
          go_wp2_with fail
          go_ret
          exact ⟨ret_val (by rw [HF.out]; rfl), by rw [HH.out]; exact hBw⟩
      · have t0 : decide ((i : Int) < (N : Int)) = false := by simp; omega
        have HF := Lib.hid (show depthV v n = m + 1 from by
          rw [HCV.out]
          by_cases h0 : n = 0
          · rw [if_pos h0, hm0 h0]
          · rw [if_neg h0, hcn.out h0, List.drop_eq_nil_of_le (by rw [HN.out]; omega), depthL, Nat.max_zero])
        go_wp2_with fail
        go_ret
        exact ⟨ret_val (by rw [HF.out]; rfl), by rw [HH.out]; exact hBw⟩
end
section
open Go.RowKit
def smallB (v : VT) : Bool := decide (depthV v 40 ≤ 30) && decide (countV v 0 < 500)
set_option maxRecDepth 100000 in
set_option maxHeartbeats 1000000 in
theorem rsmall_any (d : Nat) (v : VT) (cs : Array Value) (w : World) (h : ValAt w d v cs) :
    Calls Tryz.prog 16 #[.agg cs] w fun e w' => e = .returned (.bool (smallB v)) ∧ Below w.heap.size w w' := by
  obtain ⟨pn, pi, rfl⟩ := ValAt.form h
  have hB : Below w.heap.size w (w.alloc (.cells #[.int .i64 v.kind, .int .i64 v.num, .float .f64 v.flt, .string ⟨v.str.toArray⟩, pn, pi] 57)) := (Below.refl _ _).alloc (Nat.le_refl _) _
  have h2 := ValAt.kept hB d _ _ h
  have HD := Lib.hid (rdepth_any d v _ 40 _ h2 (by omega))
  have HP := Lib.hid (fun w2 k => rparts_any d v _ w2 (ValAt.kept k d _ _ h2))
  have hs := smallB.eq_def v
  have hnew : (w.alloc (.cells #[.int .i64 v.kind, .int .i64 v.num, .float .f64 v.flt, .string ⟨v.str.toArray⟩, pn, pi] 57)).heap[w.heap.size]? = some (.cells #[.int .i64 v.kind, .int .i64 v.num, .float .f64 v.flt, .string ⟨v.str.toArray⟩, pn, pi] 57 (0, 0)) := heap_alloc_new w _
  have hW0 : w.heap.size < (w.alloc (.cells #[.int .i64 v.kind, .int .i64 v.num, .float .f64 v.flt, .string ⟨v.str.toArray⟩, pn, pi] 57)).heap.size := by simp
  have HS := Lib.hid hs; clear hs h2
  generalize depthV v 40 = a at *
  generalize countV v 0 = b at *
  by_cases ha : a ≤ 30
  · have t1 : decide ((a : Int) ≤ 30) = true := by simp; omega
    have HA := Lib.hid ha
    go_enter Tryz.func16, Tryz.ntmps16
    go_wp2_with fail
    refine (HD.out).mono ?_; rintro e w2 ⟨rfl, k2⟩
    generalize w.alloc (.cells #[.int .i64 v.kind, .int .i64 v.num, .float .f64 v.flt, .string ⟨v.str.toArray⟩, pn, pi] 57) = W0 at *
    have hc : ∀ j, w2.cell? ⟨w.heap.size, j, none⟩ = (#[.int .i64 v.kind, .int .i64 v.num, .float .f64 v.flt, .string ⟨v.str.toArray⟩, pn, pi] : Array Value)[j]? := fun j => (k2.cell (p := ⟨w.heap.size, j, none⟩) hW0).trans (by simp [World.cell?, hnew])
    have x0 := hc 0; have x1 := hc 1; have x2 := hc 2; have x3 := hc 3; have x4 := hc 4; have x5 := hc 5
    clear hc
    simp at x0 x1 x2 x3 x4 x5
    by_cases hb : b < 500
    · have t2 : decide ((b : Int) < 500) = true := by simp; omega
      have HB := Lib.hid (show decide (b < 500) = true from decide_eq_true hb)
      go_wp2_with fail
      refine (HP.out _ k2).mono ?_; rintro e w3 ⟨rfl, k3⟩
      go_wp2_with fail
      go_ret
      exact ⟨ret_val (by rw [HS.out, decide_eq_true HA.out, HB.out]; rfl), (hB.trans (k2.mono (by omega))).trans (k3.mono (by have := k2.size; omega))⟩
    · have t2 : decide ((b : Int) < 500) = false := by simp; omega
      have HB := Lib.hid (show decide (b < 500) = false from decide_eq_false hb)
      go_wp2_with fail
      refine (HP.out _ k2).mono ?_; rintro e w3 ⟨rfl, k3⟩
      go_wp2_with fail
      go_ret
      exact ⟨ret_val (by rw [HS.out, decide_eq_true HA.out, HB.out]; rfl), (hB.trans (k2.mono (by omega))).trans (k3.mono (by have := k2.size; omega))⟩
  · have t1 : decide ((a : Int) ≤ 30) = false := by simp; omega
    have HA := Lib.hid ha
    go_enter Tryz.func16, Tryz.ntmps16
    go_wp2_with fail
    refine (HD.out).mono ?_; rintro e w2 ⟨rfl, k2⟩
    go_wp2_with fail
    go_ret
    exact ⟨ret_val (by rw [HS.out, decide_eq_false HA.out]; rfl), hB.trans (k2.mono (by omega))⟩
end
end Go.Proofs.YtnaamiecljinnaaGreat
