/-
  Y6 in one text.
-/
import Derived.Below
import Derived.BigQuiet
import Derived.Deep.Cut
import Derived.Deep.QuietTactic
import Derived.Deep.RegionHeld3
import Derived.Handy
import Derived.IntWalk
import Derived.Laws.Bits64b
import Derived.Laws.FloatBits
import Derived.Lib.AtoiAll
import Derived.Lib.Builder
import Derived.Lib.Bytes
import Derived.Lib.ConvBytes
import Derived.Lib.FrozenHead2
import Derived.Lib.Hide
import Derived.Lib.IndexMore
import Derived.Lib.ItoaNum
import Derived.Lib.MinMax
import Derived.Lib.OthersKept
import Derived.Lib.ParseIntB
import Derived.Lib.UnsafeStr
import Derived.LoopTactic
import Derived.OneCell
import Derived.OwnWalk
import Derived.RegionTactic
import Derived.Tactics
import Derived.Tactics2
import Derived.Test.YtnaamiecljinnaaGreatChecked
import Derived.WalkKit
import Derived.WalkLawsBesides
import Derived.WalkSpells
import Ieee.Arith
import Derived.Test.YtnaamiecljinnaaGreatS00
import Derived.Test.YtnaamiecljinnaaGreatS02
import Derived.Test.YtnaamiecljinnaaGreatS03
namespace Go.Proofs.YtnaamiecljinnaaGreat
open Go.RowKit
theorem shr_one {k : Int} (h : -9223372036854775808 ≤ k ∧ k ≤ 9223372036854775807) : (k / 2 == 0) = decide (k = 0 ∨ k = 1) := by
  rw [Bool.eq_iff_iff, beq_iff_eq, decide_eq_true_eq]; omega
set_option maxRecDepth 100000 in
set_option maxHeartbeats 8000000 in
theorem vright_any : ∀ (d : Nat) (v : VT) (g o n far : Nat) (w : World), PtrTo w d v g o → n + far = 13 →
    Calls Tryz.prog 137 #[.pointer (some ⟨g, o, none⟩), .int .i64 (n : Int)] w (Gives (.bool (rightV v far)) w)
  | 0, _, _, _, _, _, _, h, _ => by obtain ⟨_, _, h, _⟩ := h; exact h.elim
  | d + 1, v, g, o, n, 0, w, h, hn => by
    have t0 : decide ((12 : Int) < (n : Int)) = true := by simp; omega
    have HR := Lib.hid (right0 v)
    go_enter Tryz.func137, Tryz.ntmps137
    go_wp2_with fail
    go_ret
    exact ⟨ret_val (by rw [HR.out]; rfl), Below.refl _ _⟩
  | d + 1, v, g, o, n, far + 1, w, h, hn => by
    have t0 : decide ((12 : Int) < (n : Int)) = false := by simp; omega
    have ih := Lib.hid (vright_any d)
    have Bn := Lib.hid (fun w (h : PtrTo w (d + 1) v g o) => bare_n d v g o w h)
    have Bf := Lib.hid (fun w (h : PtrTo w (d + 1) v g o) => bare_f d v g o w h)
    have Bs := Lib.hid (fun w (h : PtrTo w (d + 1) v g o) => bare_s d v g o w h)
    have Br := Lib.hid (fun w (h : PtrTo w (d + 1) v g o) => bare_r d v g o w h)
    have hp := h
    obtain ⟨pn, p, cap, hg, x0, x1, x2, x3, x4, x5, h4, h5, h6, h7, h9⟩ := h.open
    by_cases k1 : v.kind = 1
    · have t1 : (v.kind == 1) = true := by rw [k1]; rfl
      have hnum : -9223372036854775808 ≤ v.num ∧ v.num ≤ 9223372036854775807 := by
        obtain ⟨_, cs, ⟨_, _, _, _, h3, _⟩, _⟩ := h; exact h3
      have hsh := shr_one hnum
      have HR := right1 (f := far) k1
      clear k1 h9 h6
      have HB := Bn.out w hp
      generalize bareV v true false false false = b1 at *
      rw [← hsh] at HR
      cases b1
      · have HR := Lib.hid HR; have HB := Lib.hid HB; clear hsh
        go_enter Tryz.func137, Tryz.ntmps137
        go_wp2_with fail
        refine (HB.out).mono ?_; rintro e w2 ⟨rfl, rfl⟩
        go_wp2_with fail
        go_ret
        exact ⟨ret_val (by rw [HR.out]; rfl), Below.refl _ _⟩
      · cases hk2 : (v.num / 2 == 0)
        all_goals
          rw [hk2] at HR
          have HR := Lib.hid HR; have HB := Lib.hid HB; clear hsh
          go_enter Tryz.func137, Tryz.ntmps137
          go_wp2_with fail
          refine (HB.out).mono ?_; rintro e w2 ⟨rfl, rfl⟩
          go_wp2_with fail
          go_ret
          exact ⟨ret_val (by rw [HR.out]; rfl), Below.refl _ _⟩
    have t1 : (v.kind == 1) = false := beq_eq_false_iff_ne.2 k1
    by_cases k2 : v.kind = 2
    · have t2 : (v.kind == 2) = true := by rw [k2]; rfl
      have HR := Lib.hid (right2 (f := far) k2)
      have HB := Lib.hid (Bn.out w hp)
      clear k2 k1 h9 h6
      go_enter Tryz.func137, Tryz.ntmps137
      go_wp2_with fail
      refine (HB.out).mono ?_; rintro e w2 ⟨rfl, rfl⟩
      go_wp2_with fail
      go_ret
      exact ⟨ret_val (by rw [HR.out]; rfl), Below.refl _ _⟩
    have t2 : (v.kind == 2) = false := beq_eq_false_iff_ne.2 k2
    by_cases k3 : v.kind = 3
    · have t3 : (v.kind == 3) = true := by rw [k3]; rfl
      have HR := Lib.hid (right3 (f := far) k3)
      have HB := Lib.hid (Bf.out w hp)
      clear k3 k2 k1 h9 h6
      go_enter Tryz.func137, Tryz.ntmps137
      go_wp2_with fail
      refine (HB.out).mono ?_; rintro e w2 ⟨rfl, rfl⟩
      go_wp2_with fail
      go_ret
      exact ⟨ret_val (by rw [HR.out]; rfl), Below.refl _ _⟩
    have t3 : (v.kind == 3) = false := beq_eq_false_iff_ne.2 k3
    by_cases k4 : v.kind = 4
    · have t4 : (v.kind == 4) = true := by rw [k4]; rfl
      have HR := right4 (f := far) k4
      have hlen : (⟨v.str.toArray⟩ : ByteArray).size = v.str.length := by show v.str.toArray.size = _; simp
      clear k4 k3 k2 k1 h9 h6
      have HB := Bs.out w hp
      generalize bareV v false false true false = b1 at *
      rw [← hlen] at HR
      generalize (⟨v.str.toArray⟩ : ByteArray) = S at *
      cases b1
      · have HR := Lib.hid HR; have HB := Lib.hid HB; clear hlen
        go_enter Tryz.func137, Tryz.ntmps137
        go_wp2_with fail
        refine (HB.out).mono ?_; rintro e w2 ⟨rfl, rfl⟩
        go_wp2_with fail
        go_ret
        exact ⟨ret_val (by rw [HR.out]; rfl), Below.refl _ _⟩
      · by_cases h200 : S.size ≤ 200
        · rw [decide_eq_true h200] at HR
          have tl : decide ((S.size : Int) ≤ 200) = true := by simp; omega
          have HR := Lib.hid HR; have HB := Lib.hid HB; clear hlen
          go_enter Tryz.func137, Tryz.ntmps137
          go_wp2_with fail
          refine (HB.out).mono ?_; rintro e w2 ⟨rfl, rfl⟩
          go_wp2_with fail
          go_ret
          exact ⟨ret_val (by rw [HR.out]; rfl), Below.refl _ _⟩
        · rw [decide_eq_false h200] at HR
          have tl : decide ((S.size : Int) ≤ 200) = false := by simp; omega
          have HR := Lib.hid HR; have HB := Lib.hid HB; clear hlen
          go_enter Tryz.func137, Tryz.ntmps137
          go_wp2_with fail
          refine (HB.out).mono ?_; rintro e w2 ⟨rfl, rfl⟩
          go_wp2_with fail
          go_ret
          exact ⟨ret_val (by rw [HR.out]; rfl), Below.refl _ _⟩
    have t4 : (v.kind == 4) = false := beq_eq_false_iff_ne.2 k4
    obtain ⟨pp, pc, rfl⟩ := h6.lenOf
    by_cases k5 : v.kind = 5
    · have t5 : (v.kind == 5) = true := by rw [k5]; rfl
      have t6 : (v.kind == 6) = false := by rw [k5]; rfl
      have HR := right5 (f := far) k5
      have HB := Br.out w hp
      have H9 := Lib.hid h9
      clear k5 k4 k3 k2 k1 h9 h6 h x1 x2 x3 h4 h5
      generalize bareV v false false false true = b1 at *
      generalize v.items = its at *
      generalize v.names.length = N at *
      generalize hM : its.length = M at *
      have HM := Lib.hid hM; clear hM
      cases b1
      · have HR := Lib.hid HR; have HB := Lib.hid HB
        go_enter Tryz.func137, Tryz.ntmps137
        go_wp2_with fail
        refine (HB.out).mono ?_; rintro e w2 ⟨rfl, rfl⟩
        go_wp2_with fail
        go_ret
        exact ⟨ret_val (by rw [HR.out]; rfl), Below.refl _ _⟩
      · by_cases hN : N = 0
        · have tN : decide ((0 : Int) < (N : Int)) = false := by simp; omega
          have tn : ¬ 0 < N := by omega
          rw [decide_eq_true hN] at HR
          simp only [Bool.true_and] at HR
          clear hN
          have HR := Lib.hid HR; have HB := Lib.hid HB
          have hB0 := Below.refl w.heap.size w
          have HX5 := Lib.hid x5; have HG := Lib.hid hg
          generalize hgh : w.heap.size = H at hB0 H9
          have HH := Lib.hid hgh; clear hgh
          go_enter Tryz.func137, Tryz.ntmps137
          go_wp2_with fail
          refine (HB.out).mono ?_; rintro e w2 ⟨rfl, rfl⟩
          go_wp2_with fail
          go_loopw [90] (fun iv wr => ∃ i : Nat, i ≤ M ∧ iv = .int .i64 i ∧ Below H w wr ∧ Hid (rightL its far = rightL (its.drop i) far)) (fun iv _ => M - (intOf iv).toNat)
          case atStart => exact ⟨0, by omega, rfl, hB0, by show _ = _; rw [List.drop_zero]⟩
          case round =>
            clear hB0
            obtain ⟨i, hi, rfl, hB, hE⟩ := hrel
            have hHw : H ≤ wr.heap.size := by have := hB.size; rw [HH.out] at this; exact this
            have y5 : wr.cell? ⟨g, o + 5, none⟩ = some (.slice p M cap) := (hB.cell (p := ⟨g, o + 5, none⟩) (by rw [← HH.out]; exact HG.out)).trans HX5.out
            by_cases hlt : i < M
            · have t7 : decide ((i : Int) < (M : Int)) = true := by simp; omega
              obtain ⟨g', o', rfl, hg', hv⟩ := H9.out i hlt
              have hv2 := hv.kept (w' := wr) (by rw [HH.out]; exact hB)
              have HC := ih.out _ _ _ (n + 1) far wr hv2 (by omega)
              have HD := rightL_drop (l := its) (i := i) (f := far) (by rw [HM.out]; exact hlt)
              generalize its.getD i noVT = k at *
              have b1 : (0 : Int) ≤ (i : Int) := by omega
              have b2 : (i : Int) < (M : Int) := by omega
              have b3 : ((n : Int) + 1) = ((n + 1 : Nat) : Int) := by omega
              rw [← b3] at HC
              clear hv hv2 b3
              cases hr : rightV k far
              · rw [hr] at HC HD
                have HC := Lib.hid HC; have HD := Lib.hid HD
                go_wp2_with fail
                refine (HC.out).mono ?_; rintro e w5 ⟨rfl, hb5⟩
                go_wp2_with fail
                go_ret
                exact ⟨ret_val (by rw [HR.out, hE.out, HD.out]; rfl), by rw [HH.out]; exact hB.trans (hb5.mono hHw)⟩
              · rw [hr] at HC HD
                have HC := Lib.hid HC; have HD := Lib.hid HD
                go_wp2_with fail
                refine (HC.out).mono ?_; rintro e w5 ⟨rfl, hb5⟩
                go_wp2_with fail
                go_roundw
                case rel => exact ⟨i + 1, by omega, by go_num, hB.trans (hb5.mono hHw), by show _ = _; rw [hE.out, HD.out, Bool.true_and]⟩
                case measure => simp [intOf]; omega
            · have t7 : decide ((i : Int) < (M : Int)) = false := by simp; omega
              have HF := Lib.hid (rightL_end (l := its) (i := i) (f := far) (by rw [HM.out]; omega))
              go_wp2_with fail
              go_ret
              exact ⟨ret_val (by rw [HR.out, hE.out, HF.out]; rfl), by rw [HH.out]; exact hB⟩
        · have tN : decide ((0 : Int) < (N : Int)) = true := by simp; omega
          have tn : 0 < N := by omega
          rw [decide_eq_false hN] at HR
          clear hN
          have HR := Lib.hid HR; have HB := Lib.hid HB
          go_enter Tryz.func137, Tryz.ntmps137
          go_wp2_with fail
          refine (HB.out).mono ?_; rintro e w2 ⟨rfl, rfl⟩
          go_wp2_with fail
          go_ret
          exact ⟨ret_val (by rw [HR.out]; rfl), Below.refl _ _⟩
    have t5 : (v.kind == 5) = false := beq_eq_false_iff_ne.2 k5
    by_cases k6 : v.kind = 6
    · have t6 : (v.kind == 6) = true := by rw [k6]; rfl
      have HR := right6 (f := far) k6
      have HB := Lib.hid (fun w h => Br.out w h)
      have HRi := fun w' (hb : Below w.heap.size w w') => rising_any v.names _ w' (h6.kept hb)
      have H9 := Lib.hid h9
      have HKp := Lib.hid (fun w' (hb : Below w.heap.size w w') => hp.kept hb)
      have HKc := Lib.hid (fun w' (hb : Below w.heap.size w w') => (show w'.cell? ⟨g, o + 4, none⟩ = some (.slice pp v.names.length pc) ∧ w'.cell? ⟨g, o + 5, none⟩ = some (.slice p v.items.length cap) from ⟨(hb.cell (p := ⟨g, o + 4, none⟩) hg).trans x4, (hb.cell (p := ⟨g, o + 5, none⟩) hg).trans x5⟩))
      have HK0 := Lib.hid (fun w' (hb : Below w.heap.size w w') => (hb.cell (p := ⟨g, o, none⟩) hg).trans x0)
      have HX5 := Lib.hid x5; have HG := Lib.hid hg
      clear k6 k5 k4 k3 k2 k1 h9 h6 h x1 x2 x3 h4 h5
      generalize bareV v false false false true = b1 at *
      generalize v.items = its at *
      generalize risesB v.names = R at *
      generalize v.names.length = N at *
      generalize hM : its.length = M at *
      have HM := Lib.hid hM; clear hM
      by_cases hNM : N = M
      · subst hNM
        rw [decide_eq_true rfl] at HR
        cases R
        · have HR := Lib.hid HR; have HRi := Lib.hid HRi
          go_enter Tryz.func137, Tryz.ntmps137
          go_wp2_with fail
          go_region_held3 (fun w' => w'.cell? ⟨g, o + 4, none⟩ = some (.slice pp N pc) ∧ w'.cell? ⟨g, o + 5, none⟩ = some (.slice p N cap)) (first | exact ⟨x4, x5⟩ | go_keep | exact HKc.out _ (undrew hb1)) ((go_at_call 161; (with_reducible refine (HRi.out _ ((Below.refl _ _).drew)).mono ?_); rintro e u1 ⟨rfl, hb1⟩))
          replace hb1 := undrew hb1
          go_wp2_with fail
          go_ret
          exact ⟨ret_val (by rw [HR.out]; rfl), hb1⟩
        · have HRi := Lib.hid HRi
          cases b1
          · have HR := Lib.hid HR
            go_enter Tryz.func137, Tryz.ntmps137
            go_wp2_with fail
            go_region_held3 (fun w' => w'.cell? ⟨g, o + 4, none⟩ = some (.slice pp N pc) ∧ w'.cell? ⟨g, o + 5, none⟩ = some (.slice p N cap)) (first | exact ⟨x4, x5⟩ | go_keep | exact HKc.out _ (undrew hb1)) ((go_at_call 161; (with_reducible refine (HRi.out _ ((Below.refl _ _).drew)).mono ?_); rintro e u1 ⟨rfl, hb1⟩))
            replace hb1 := undrew hb1
            go_wp2_with fail
            refine (HB.out _ (HKp.out _ hb1)).mono ?_; rintro e w2 ⟨rfl, rfl⟩
            go_wp2_with fail
            go_ret
            exact ⟨ret_val (by rw [HR.out]; rfl), hb1⟩
          · simp only [Bool.true_and] at HR
            have HR := Lib.hid HR
            go_enter Tryz.func137, Tryz.ntmps137
            go_wp2_with fail
            go_region_held3 (fun w' => w'.cell? ⟨g, o + 4, none⟩ = some (.slice pp N pc) ∧ w'.cell? ⟨g, o + 5, none⟩ = some (.slice p N cap)) (first | exact ⟨x4, x5⟩ | go_keep | exact HKc.out _ (undrew hb1)) ((go_at_call 161; (with_reducible refine (HRi.out _ ((Below.refl _ _).drew)).mono ?_); rintro e u1 ⟨rfl, hb1⟩))
            replace hb1 := undrew hb1
            have y0 := HK0.out _ hb1
            go_wp2_with fail
            refine (HB.out _ (HKp.out _ hb1)).mono ?_; rintro e w2 ⟨rfl, rfl⟩
            have y6 := (HKc.out _ hb1).2
            have hB0 := hb1
            generalize hgh : w.heap.size = H at hB0 H9
            have HH := Lib.hid hgh; clear hgh
            clear x0 x4 x5 hb1
            go_wp2_with fail
            go_loopw [90] (fun iv wr => ∃ i : Nat, i ≤ N ∧ iv = .int .i64 i ∧ Below H w wr ∧ Hid (rightL its far = rightL (its.drop i) far)) (fun iv _ => N - (intOf iv).toNat)
            case atStart => exact ⟨0, by omega, rfl, hB0, by show _ = _; rw [List.drop_zero]⟩
            case round =>
              clear hB0
              obtain ⟨i, hi, rfl, hB, hE⟩ := hrel
              have hHw : H ≤ wr.heap.size := by have := hB.size; rw [HH.out] at this; exact this
              have y5 : wr.cell? ⟨g, o + 5, none⟩ = some (.slice p N cap) := (hB.cell (p := ⟨g, o + 5, none⟩) (by rw [← HH.out]; exact HG.out)).trans HX5.out
              by_cases hlt : i < N
              · have t7 : decide ((i : Int) < (N : Int)) = true := by simp; omega
                obtain ⟨g', o', rfl, hg', hv⟩ := H9.out i hlt
                have hv2 := hv.kept (w' := wr) (by rw [HH.out]; exact hB)
                have HC := ih.out _ _ _ (n + 1) far wr hv2 (by omega)
                have HD := rightL_drop (l := its) (i := i) (f := far) (by rw [HM.out]; exact hlt)
                generalize its.getD i noVT = k at *
                have b1 : (0 : Int) ≤ (i : Int) := by omega
                have b2 : (i : Int) < (N : Int) := by omega
                have b3 : ((n : Int) + 1) = ((n + 1 : Nat) : Int) := by omega
                rw [← b3] at HC
                clear hv hv2 b3
                cases hr : rightV k far
                · rw [hr] at HC HD
                  have HC := Lib.hid HC; have HD := Lib.hid HD
                  go_wp2_with fail
                  refine (HC.out).mono ?_; rintro e w5 ⟨rfl, hb5⟩
                  go_wp2_with fail
                  go_ret
                  exact ⟨ret_val (by rw [HR.out, hE.out, HD.out]; rfl), by rw [HH.out]; exact hB.trans (hb5.mono hHw)⟩
                · rw [hr] at HC HD
                  have HC := Lib.hid HC; have HD := Lib.hid HD
                  go_wp2_with fail
                  refine (HC.out).mono ?_; rintro e w5 ⟨rfl, hb5⟩
                  go_wp2_with fail
                  go_roundw
                  case rel => exact ⟨i + 1, by omega, by go_num, hB.trans (hb5.mono hHw), by show _ = _; rw [hE.out, HD.out, Bool.true_and]⟩
                  case measure => simp [intOf]; omega
              · have t7 : decide ((i : Int) < (N : Int)) = false := by simp; omega
                have HF := Lib.hid (rightL_end (l := its) (i := i) (f := far) (by rw [HM.out]; omega))
                go_wp2_with fail
                go_ret
                exact ⟨ret_val (by rw [HR.out, hE.out, HF.out]; rfl), by rw [HH.out]; exact hB⟩
      · have tNM : ((N : Int) != (M : Int)) = true := by rw [bne_iff_ne]; omega
        rw [decide_eq_false hNM] at HR
        have HR := Lib.hid HR
        go_enter Tryz.func137, Tryz.ntmps137
        go_wp2_with fail
        go_quiet (fail)
        go_wp2_with fail
        go_ret
        exact ⟨ret_val (by rw [HR.out]; rfl), ⟨rfl, rfl, rfl, Nat.le_refl _, fun _ _ => rfl⟩⟩
    have t6 : (v.kind == 6) = false := beq_eq_false_iff_ne.2 k6
    have HR := Lib.hid (rightX (f := far + 1) k1 k2 k3 k4 k5 k6)
    clear k1 k2 k3 k4 k5 k6 h9 h6
    go_enter Tryz.func137, Tryz.ntmps137
    go_wp2_with fail
    go_ret
    exact ⟨ret_val (by rw [HR.out]; rfl), Below.refl _ _⟩
end Go.Proofs.YtnaamiecljinnaaGreat
