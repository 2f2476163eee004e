/-
  The walk of the law SnapshotDiffers.
-/
import Derived.Test.YtnaamiecljinnaaGreatSa
namespace Go.Proofs.YtnaamiecljinnaaGreat
open Go.RowKit

set_option maxRecDepth 100000 in
set_option maxHeartbeats 1000000 in
theorem all_nil (n : Int) (w : World) : Calls Tryz.prog 13 #[.pointer none, .int .i64 n] w fun e w' => e = .returned (.tuple #[.slice none 0 0, .int .i64 1]) ∧ w = w' := by
  go_enter Tryz.func13, Tryz.ntmps13
  go_wp2_with fail
  go_ret2
  exact ⟨rfl, rfl⟩

set_option maxRecDepth 100000 in
set_option maxHeartbeats 4000000 in
theorem differs_off (n m : Nat) (p q : Option Addr) (c d : Nat) (w : World) (h : 30 < n ∨ 30 < m) :
    Calls Tryz.prog 5 #[.slice p n c, .slice q m d] w (Gives (.bool true) w) := by
  have HA := Lib.hid (fun w => awake_any w)
  by_cases h1 : 30 < n
  · have t1 : decide ((30 : Int) < (n : Int)) = true := by simp; omega
    clear h
    go_enter Tryz.func5, Tryz.ntmps5
    go_wp2_with fail
    refine (HA.out _).mono ?_; rintro e w1 ⟨rfl, hb1⟩
    go_wp2_with fail
    refine (HA.out _).mono ?_; rintro e w2 ⟨rfl, hb2⟩
    go_wp2_with fail
    go_ret
    exact ⟨rfl, hb1.trans (hb2.mono hb1.size)⟩
  · have t1 : decide ((30 : Int) < (n : Int)) = false := by simp; omega
    have t2 : decide ((30 : Int) < (m : Int)) = true := by simp; omega
    clear h
    go_enter Tryz.func5, Tryz.ntmps5
    go_wp2_with fail
    refine (HA.out _).mono ?_; rintro e w1 ⟨rfl, hb1⟩
    go_wp2_with fail
    refine (HA.out _).mono ?_; rintro e w2 ⟨rfl, hb2⟩
    go_wp2_with fail
    go_ret
    exact ⟨rfl, hb1.trans (hb2.mono hb1.size)⟩

set_option maxRecDepth 100000 in
set_option maxHeartbeats 4000000 in
theorem differs_on (a b : List (List UInt8)) (u v : Value) (w : World) (hu : StrSl w a u) (hv : StrSl w b v) (ha : a.length ≤ 30) (hb : b.length ≤ 30) :
    Calls Tryz.prog 5 #[u, v] w (Gives (.bool true) w) := by
  have HA := Lib.hid (fun w => awake_any w)
  have HAN := Lib.hid (fun n w => all_nil n w)
  have HD := Lib.hid (fun w hu hv => differ_any a b u v w hu hv (by omega) (by omega))
  have HSm := Lib.hid (fun l u v w hu hv hl => rints_same l u v w hu hv hl)
  have HI : (Tryz.prog.info? 3).map (fun i => (i.zero, i.size, i.bytes)) = some (some (.int .i64 0), 1, 8) := by kernel_rfl
  obtain ⟨i0, hi, hz0, hz1, hz2⟩ := Go.info_parts HI
  have HII := Lib.hid hi; have HZ0 := Lib.hid hz0; have HZ1 := Lib.hid hz1; have HZ2 := Lib.hid hz2
  clear hi hz0 hz1 hz2 HI
  have HU := Lib.hid (fun w' (hb : Below w.heap.size w w') => hu.below hb (Nat.le_refl _))
  have HV := Lib.hid (fun w' (hb : Below w.heap.size w w') => hv.below hb (Nat.le_refl _))
  obtain ⟨p, c, rfl, h1⟩ := hu
  obtain ⟨p', c', rfl, h2⟩ := hv
  have H1 := Lib.hid h1; have H2 := Lib.hid h2
  clear h1 h2
  have HDf := Lib.hid (difAt.eq_def a b)
  have HS := Lib.hid (difs_succ a b)
  have HL := Lib.hid (difs_len a b)
  generalize hM : a.length = M at *
  generalize hN : b.length = N at *
  have HM := Lib.hid hM; have HN := Lib.hid hN
  clear hM hN
  generalize hK : max M N = K at *
  have hMK : M ≤ K := by omega
  have hNK : N ≤ K := by omega
  have hK1 : K ≤ 30 := by omega
  have HK := Lib.hid hK; clear hK
  have ta : decide ((30 : Int) < (M : Int)) = false := by simp; omega
  have tb : decide ((30 : Int) < (N : Int)) = false := by simp; omega
  go_enter Tryz.func5, Tryz.ntmps5
  go_wp2_with fail
  refine (HA.out _).mono ?_; rintro e w1 ⟨rfl, hb1⟩
  go_wp2_with fail
  have hT0 : Ints w.heap.size (.slice none 0 0) (difs a b 0) w1 := World.ownsRow_nil _ _ _ _
  generalize hgh : w.heap.size = H at *
  have HH := Lib.hid hgh; clear hgh
  go_loopw [5, 6] (fun x iv wr => ∃ (i : Nat) (v : Value), i ≤ K ∧ iv = .int .i64 (i : Int) ∧ v = x ∧ Ints H v (difs a b i) wr ∧ Below H w wr) (fun _ iv _ => K - (intOf iv).toNat)
  case atStart => exact ⟨0, _, by omega, rfl, rfl, hT0, hb1⟩
  case round =>
    clear hb1 hT0
    obtain ⟨i, x, hi, rfl, rfl, hT, hB⟩ := hrel
    have hHw : H ≤ wr.heap.size := by have := hB.size; rw [HH.out] at this; exact this
    by_cases hlt : i < K
    · have HDi := HDf.out i
      have HSi := HS.out i
      by_cases hM : M ≤ i
      · have t0 : decide ((i : Int) < (M : Int)) = false := by simp; omega
        have t0' : decide ((i : Int) < (N : Int)) = true := by have := HK.out; simp; omega
        have n0 : decide (i < M) = false := by simp; omega
        have n0' : decide (i < N) = true := by have := HK.out; simp; omega
        have t1 : decide ((M : Int) ≤ (i : Int)) = true := by simp; omega
        have t1n : decide (M ≤ i) = true := by simp; omega
        rw [t1n] at HDi
        rw [HDi] at HSi
        have HSi := Lib.hid HSi
        clear HDi
        go_wp2_with fail
        go_quiet (fail)
        replace hT : Ints H x (difs a b i) (wr.drewN nq) := hT
        replace hB : Below H w (wr.drewN nq) := hB.trans ⟨rfl, rfl, rfl, Nat.le_refl _, fun _ _ => rfl⟩
        replace hHw : H ≤ (wr.drewN nq).heap.size := hHw
        generalize wr.drewN nq = W2 at hT hB hHw ⊢
        have hT1 := World.ownsRow.alloc hT (.cells #[.int .i64 (i : Int)] 3)
        have hHw1 : H ≤ (W2.alloc (.cells #[.int .i64 (i : Int)] 3)).heap.size := by simp; omega
        have hB1 := hB.alloc hHw (.cells #[.int .i64 (i : Int)] 3)
        go_wp2_with (at_builtin; refine wpList_append_own _ rfl _ _ 43 rfl H 3 i0 (.int .i64 0) 1 8 Tryz.underlying43 HII.out HZ0.out HZ1.out HZ2.out rfl (by decide) _ (difs a b i).length (intVs (difs a b i)) rfl hT1 ⟨W2.heap.size, 0, none⟩ 1 1 [.int .i64 (i : Int)] rfl rfl ?c1 ?c2 ?c3 ?c4 hHw1 ?_)
        case c1 =>
          intro j u hj
          match j, hj with
          | 0, hj => simp at hj; subst hj; simp [Addr.add]
        case c2 => intro u hu; simp at hu; subst hu; rfl
        case c3 => have := HL.out i; unfold maxLen; omega
        case c4 => have := HL.out i; omega
        intro v' w3 hown' hgrow _
        have hB3 := hB1.grown hgrow hHw1 (fun g hg => (World.ownsRow.lt hT1 g hg).1)
        have hT3 : Ints H v' (difs a b (i + 1)) w3 := by
          rw [HSi.out]
          show w3.ownsRow _ _ _ _ (difs a b i ++ [(i : Int)]).length (intVs (difs a b i ++ [(i : Int)]))
          rw [List.length_append]
          unfold intVs
          rw [List.map_append]
          exact hown'
        clear hT hB hT1 hB1 hgrow
        go_wp2_with fail
        go_roundw
        case rel => exact ⟨i + 1, v', by omega, by go_num, rfl, hT3, hB3⟩
        case measure => simp [intOf]; omega
      · have t0 : decide ((i : Int) < (M : Int)) = true := by simp; omega
        have n0 : decide (i < M) = true := by simp; omega
        have t1 : decide ((M : Int) ≤ (i : Int)) = false := by simp; omega
        have t1n : decide (M ≤ i) = false := by simp; omega
        rw [t1n] at HDi
        by_cases hN : N ≤ i
        · have t2 : decide ((N : Int) ≤ (i : Int)) = true := by simp; omega
          have t2n : decide (N ≤ i) = true := by simp; omega
          rw [t2n] at HDi
          rw [HDi] at HSi
          have HSi := Lib.hid HSi
          clear HDi
          go_wp2_with fail
          go_quiet (fail)
          replace hT : Ints H x (difs a b i) (wr.drewN nq) := hT
          replace hB : Below H w (wr.drewN nq) := hB.trans ⟨rfl, rfl, rfl, Nat.le_refl _, fun _ _ => rfl⟩
          replace hHw : H ≤ (wr.drewN nq).heap.size := hHw
          generalize wr.drewN nq = W2 at hT hB hHw ⊢
          have hT1 := World.ownsRow.alloc hT (.cells #[.int .i64 (i : Int)] 3)
          have hHw1 : H ≤ (W2.alloc (.cells #[.int .i64 (i : Int)] 3)).heap.size := by simp; omega
          have hB1 := hB.alloc hHw (.cells #[.int .i64 (i : Int)] 3)
          go_wp2_with (at_builtin; refine wpList_append_own _ rfl _ _ 43 rfl H 3 i0 (.int .i64 0) 1 8 Tryz.underlying43 HII.out HZ0.out HZ1.out HZ2.out rfl (by decide) _ (difs a b i).length (intVs (difs a b i)) rfl hT1 ⟨W2.heap.size, 0, none⟩ 1 1 [.int .i64 (i : Int)] rfl rfl ?c1 ?c2 ?c3 ?c4 hHw1 ?_)
          case c1 =>
            intro j u hj
            match j, hj with
            | 0, hj => simp at hj; subst hj; simp [Addr.add]
          case c2 => intro u hu; simp at hu; subst hu; rfl
          case c3 => have := HL.out i; unfold maxLen; omega
          case c4 => have := HL.out i; omega
          intro v' w3 hown' hgrow _
          have hB3 := hB1.grown hgrow hHw1 (fun g hg => (World.ownsRow.lt hT1 g hg).1)
          have hT3 : Ints H v' (difs a b (i + 1)) w3 := by
            rw [HSi.out]
            show w3.ownsRow _ _ _ _ (difs a b i ++ [(i : Int)]).length (intVs (difs a b i ++ [(i : Int)]))
            rw [List.length_append]
            unfold intVs
            rw [List.map_append]
            exact hown'
          clear hT hB hT1 hB1 hgrow
          go_wp2_with fail
          go_roundw
          case rel => exact ⟨i + 1, v', by omega, by go_num, rfl, hT3, hB3⟩
          case measure => simp [intOf]; omega
        · have t2 : decide ((N : Int) ≤ (i : Int)) = false := by simp; omega
          have t2n : decide (N ≤ i) = false := by simp; omega
          rw [t2n] at HDi
          obtain ⟨g, off, rfl, hg, hc⟩ := H1.out i (by omega)
          obtain ⟨g', off', rfl, hg', hc'⟩ := H2.out i (by omega)
          have x1 : wr.cell? ⟨g, off + i, none⟩ = some (.string ⟨(a.getD i []).toArray⟩) := (hB.cell (p := ⟨g, off + i, none⟩) hg).trans hc
          have x2 : wr.cell? ⟨g', off' + i, none⟩ = some (.string ⟨(b.getD i []).toArray⟩) := (hB.cell (p := ⟨g', off' + i, none⟩) hg').trans hc'
          have b1 : (0 : Int) ≤ (i : Int) := by omega
          have b2 : (i : Int) < (M : Int) := by omega
          have b3 : (i : Int) < (N : Int) := by omega
          clear hc hc'
          by_cases hne : a.getD i [] = b.getD i []
          · rw [show decide (a.getD i [] ≠ b.getD i []) = false from decide_eq_false (fun h => h hne)] at HDi
            rw [HDi] at HSi
            have HSi := Lib.hid HSi
            clear HDi
            rw [hne] at x1
            clear hne
            generalize b.getD i [] = s at *
            go_wp2_with fail
            go_quiet (fail)
            go_wp2_with fail
            go_roundw
            case rel => exact ⟨i + 1, x, by omega, by go_num, rfl, by rw [HSi.out]; simp only [Bool.false_or, Bool.false_eq_true, if_false, List.append_nil]; exact hT, hB.trans ⟨rfl, rfl, rfl, Nat.le_refl _, fun _ _ => rfl⟩⟩
            case measure => simp [intOf]; omega
          · rw [show decide (a.getD i [] ≠ b.getD i []) = true from decide_eq_true hne] at HDi
            rw [HDi] at HSi
            have HSi := Lib.hid HSi
            clear HDi
            generalize a.getD i [] = s at *
            generalize b.getD i [] = r at *
            have hbn : ((⟨s.toArray⟩ : ByteArray).data.toList == r) = false := beq_eq_false_iff_ne.2 hne
            go_wp2_with fail
            go_quiet (fail)
            replace hT : Ints H x (difs a b i) (wr.drewN nq) := hT
            replace hB : Below H w (wr.drewN nq) := hB.trans ⟨rfl, rfl, rfl, Nat.le_refl _, fun _ _ => rfl⟩
            replace hHw : H ≤ (wr.drewN nq).heap.size := hHw
            generalize wr.drewN nq = W2 at hT hB hHw ⊢
            have hT1 := World.ownsRow.alloc hT (.cells #[.int .i64 (i : Int)] 3)
            have hHw1 : H ≤ (W2.alloc (.cells #[.int .i64 (i : Int)] 3)).heap.size := by simp; omega
            have hB1 := hB.alloc hHw (.cells #[.int .i64 (i : Int)] 3)
            go_wp2_with (at_builtin; refine wpList_append_own _ rfl _ _ 43 rfl H 3 i0 (.int .i64 0) 1 8 Tryz.underlying43 HII.out HZ0.out HZ1.out HZ2.out rfl (by decide) _ (difs a b i).length (intVs (difs a b i)) rfl hT1 ⟨W2.heap.size, 0, none⟩ 1 1 [.int .i64 (i : Int)] rfl rfl ?c1 ?c2 ?c3 ?c4 hHw1 ?_)
            case c1 =>
              intro j u hj
              match j, hj with
              | 0, hj => simp at hj; subst hj; simp [Addr.add]
            case c2 => intro u hu; simp at hu; subst hu; rfl
            case c3 => have := HL.out i; unfold maxLen; omega
            case c4 => have := HL.out i; omega
            intro v' w3 hown' hgrow _
            have hB3 := hB1.grown hgrow hHw1 (fun g hg => (World.ownsRow.lt hT1 g hg).1)
            have hT3 : Ints H v' (difs a b (i + 1)) w3 := by
              rw [HSi.out]
              show w3.ownsRow _ _ _ _ (difs a b i ++ [(i : Int)]).length (intVs (difs a b i ++ [(i : Int)]))
              rw [List.length_append]
              unfold intVs
              rw [List.map_append]
              exact hown'
            clear hT hB hT1 hB1 hgrow
            go_wp2_with fail
            go_roundw
            case rel => exact ⟨i + 1, v', by omega, by go_num, rfl, hT3, hB3⟩
            case measure => simp [intOf]; omega
    · have t0 : decide ((i : Int) < (M : Int)) = false := by simp; omega
      have t0' : decide ((i : Int) < (N : Int)) = false := by simp; omega
      have n0 : decide (i < M) = false := by simp; omega
      have n0' : decide (i < N) = false := by simp; omega
      have hiK : i = K := by omega
      have HE := Lib.hid hiK; clear hiK
      have hlen := HL.out K
      go_wp2_with fail
      refine (HAN.out _ _).mono ?_; rintro e w5 ⟨rfl, rfl⟩
      go_wp2_with fail
      refine (HD.out _ (HU.out _ (by exact hB)) (HV.out _ (by exact hB))).mono ?_; rintro e w6 ⟨y, rfl, hy, hb6⟩
      have hB6 := hB.trans (hb6.mono hHw)
      have hT6 : IntSl w6 (difs a b K) x := Ints.sl (Ints.below (by rw [← HE.out]; exact hT) hb6)
      have hy6 : IntSl w6 (difs a b K) y := Ints.sl hy
      go_wp2_with fail
      refine (HSm.out _ _ _ _ hy6 hT6 (by omega)).mono ?_; rintro e w7 ⟨rfl, q, rfl⟩
      go_wp2_with fail
      go_ret
      exact ⟨rfl, by rw [HH.out]; exact hB6.trans ⟨rfl, rfl, rfl, Nat.le_refl _, fun _ _ => rfl⟩⟩
end Go.Proofs.YtnaamiecljinnaaGreat
