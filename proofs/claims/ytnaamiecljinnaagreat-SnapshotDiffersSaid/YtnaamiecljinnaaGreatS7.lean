/-
  The walks of the references' Same (lists of numbers) and of the snapshot's Differ.
-/
import Derived.Test.YtnaamiecljinnaaGreatS6
import Derived.Test.YtnaamiecljinnaaGreatV2
import Derived.Lib.MinMax
import Derived.WalkSpells
import Derived.WalkLawsBesides
namespace Go.Proofs.YtnaamiecljinnaaGreat
open Go.RowKit

/-- a list of numbers that can be read -/
def IntSl (w : World) (l : List Int) (v : Value) : Prop := ∃ p cap, v = .slice p l.length cap ∧ ∀ i, i < l.length → ∃ g off, p = some ⟨g, off, none⟩ ∧ w.cell? ⟨g, off + i, none⟩ = some (.int .i64 (l.getD i 0))

set_option maxRecDepth 100000 in
set_option maxHeartbeats 2000000 in
theorem rints_same (l : List Int) (u v : Value) (w : World) (hu : IntSl w l u) (hv : IntSl w l v) (hl : l.length ≤ 1000000) :
    Calls Tryz.prog 14 #[u, v] w fun e w' => e = .returned (.bool true) ∧ ∃ q, w' = w.drewN q := by
  obtain ⟨p, c, rfl, h1⟩ := hu
  obtain ⟨p', c', rfl, h2⟩ := hv
  have H1 := Lib.hid h1; have H2 := Lib.hid h2
  clear h1 h2
  generalize l.length = N at *
  go_enter Tryz.func14, Tryz.ntmps14
  go_wp2_with fail
  go_loopw [5] (fun iv wr => ∃ i q : Nat, i ≤ N ∧ iv = .int .i64 (i : Int) ∧ Hid (wr = w.drewN q)) (fun iv _ => N - (intOf iv).toNat)
  case atStart => exact ⟨0, 0, by omega, rfl, rfl⟩
  case round =>
    obtain ⟨i, q, hi, rfl, hw⟩ := hrel
    by_cases hlt : i < N
    · have t0 : decide ((i : Int) < (N : Int)) = true := by simp; omega
      obtain ⟨g, off, rfl, hc⟩ := H1.out i hlt
      obtain ⟨g', off', rfl, hc'⟩ := H2.out i hlt
      have x1 : wr.cell? ⟨g, off + i, none⟩ = some (.int .i64 (l.getD i 0)) := by rw [hw.out]; exact hc
      have x2 : wr.cell? ⟨g', off' + i, none⟩ = some (.int .i64 (l.getD i 0)) := by rw [hw.out]; exact hc'
      have b1 : (0 : Int) ≤ (i : Int) := by omega
      have b2 : (i : Int) < (N : Int) := by omega
      clear hc hc'
      generalize l.getD i 0 = x at *
      go_wp2_with fail
      go_quiet (fail)
      go_wp2_with fail
      go_roundw
      case rel => exact ⟨i + 1, q + nq, by omega, by go_num, by show _ = _; rw [hw.out]; simp⟩
      case measure => simp [intOf]; omega
    · have t0 : decide ((i : Int) < (N : Int)) = false := by simp; omega
      go_wp2_with fail
      go_ret
      exact ⟨rfl, q, hw.out⟩

/-- a list of strings that can be read -/
def StrSl (w : World) (l : List (List UInt8)) (v : Value) : Prop := ∃ p cap, v = .slice p l.length cap ∧ ∀ i, i < l.length → ∃ g off, p = some ⟨g, off, none⟩ ∧ g < w.heap.size ∧ w.cell? ⟨g, off + i, none⟩ = some (.string ⟨(l.getD i []).toArray⟩)
/-- do two lists differ at a place? -/
def difAt (a b : List (List UInt8)) (i : Nat) : Bool := decide (a.length ≤ i) || (decide (b.length ≤ i) || decide (a.getD i [] ≠ b.getD i []))
def difs (a b : List (List UInt8)) (n : Nat) : List Int := ((List.range n).filter (difAt a b)).map fun i => ((i : Nat) : Int)
theorem difs_succ (a b : List (List UInt8)) (n : Nat) : difs a b (n + 1) = difs a b n ++ if difAt a b n then [(n : Int)] else [] := by
  unfold difs
  rw [List.range_succ, List.filter_append, List.map_append]
  congr 1
  cases h : difAt a b n <;> simp [h]
theorem difs_len (a b : List (List UInt8)) (n : Nat) : (difs a b n).length ≤ n := by
  unfold difs
  rw [List.length_map]
  have := List.length_filter_le (difAt a b) (List.range n)
  rw [List.length_range] at this
  exact this
def intVs (l : List Int) : List Value := l.map (Value.int .i64)
def Ints (B : Nat) (v : Value) (l : List Int) (w : World) : Prop := w.ownsRow B 3 1 v l.length (intVs l)
theorem StrSl.below {w w' : World} {l : List (List UInt8)} {v : Value} {B : Nat} (h : StrSl w l v) (hb : Below B w w') (hB : w.heap.size ≤ B) : StrSl w' l v := by
  obtain ⟨p, c, rfl, h⟩ := h
  refine ⟨p, c, rfl, fun i hi => ?_⟩
  obtain ⟨g, off, rfl, h1, h2⟩ := h i hi
  exact ⟨g, off, rfl, Nat.lt_of_lt_of_le h1 hb.size, (hb.cell (p := ⟨g, off + i, none⟩) (Nat.lt_of_lt_of_le h1 hB)).trans h2⟩

set_option maxRecDepth 100000 in
set_option maxHeartbeats 4000000 in
theorem differ_any (a b : List (List UInt8)) (u v : Value) (w : World) (hu : StrSl w a u) (hv : StrSl w b v) (ha : a.length ≤ 1000) (hb : b.length ≤ 1000) :
    Calls Tryz.prog 15 #[u, v] w fun e w' => ∃ x, e = .returned x ∧ Ints w.heap.size x (difs a b (max a.length b.length)) w' ∧ Below w.heap.size w w' := by
  have HI : (Tryz.prog.info? 3).map (fun i => (i.zero, i.size, i.bytes)) = some (some (.int .i64 0), 1, 8) := by kernel_rfl
  obtain ⟨i0, hi, hz0, hz1, hz2⟩ := Go.info_parts HI
  have HII := Lib.hid hi; have HZ0 := Lib.hid hz0; have HZ1 := Lib.hid hz1; have HZ2 := Lib.hid hz2
  clear hi hz0 hz1 hz2 HI
  obtain ⟨p, c, rfl, h1⟩ := hu
  obtain ⟨p', c', rfl, h2⟩ := hv
  have H1 := Lib.hid h1; have H2 := Lib.hid h2
  clear h1 h2
  have HD := Lib.hid (difAt.eq_def a b)
  have HS := Lib.hid (difs_succ a b)
  have HL := Lib.hid (difs_len a b)
  generalize hM : a.length = M at *
  generalize hN : b.length = N at *
  have HM := Lib.hid hM; have HN := Lib.hid hN
  clear hM hN
  have hmx : max (M : Int) (N : Int) = ((max M N : Nat) : Int) := by omega
  have hT0 : Ints w.heap.size (.slice none 0 0) (difs a b 0) w := World.ownsRow_nil _ _ _ _
  generalize hgh : w.heap.size = H at *
  have HH := Lib.hid hgh; clear hgh
  go_enter Tryz.func15, Tryz.ntmps15
  go_wp2_with fail
  generalize hK : max M N = K at *
  have HK := Lib.hid hK; clear hK
  have hMK : M ≤ K := by have := HK.out; omega
  have hNK : N ≤ K := by have := HK.out; omega
  have hK1 : K ≤ 1000 := by have := HK.out; omega
  go_loopw [4, 11] (fun x iv wr => ∃ (i : Nat) (v : Value), i ≤ K ∧ iv = .int .i64 (i : Int) ∧ v = x ∧ Ints H v (difs a b i) wr ∧ Below H w wr) (fun _ iv _ => K - (intOf iv).toNat)
  case atStart => exact ⟨0, _, by omega, rfl, rfl, hT0, Below.refl _ _⟩
  case round =>
    obtain ⟨i, x, hi, rfl, rfl, hT, hB⟩ := hrel
    have hHw : H ≤ wr.heap.size := by have := hB.size; rw [HH.out] at this; exact this
    by_cases hlt : i < K
    · have t0 : decide ((i : Int) < (K : Int)) = true := by simp; omega
      have HDi := HD.out i
      have HSi := HS.out i
      by_cases hM : M ≤ i
      · have t1 : decide ((M : Int) ≤ (i : Int)) = true := by simp; omega
        have t1n : decide (M ≤ i) = true := by simp; omega
        rw [t1n] at HDi
        rw [HDi] at HSi
        have HSi := Lib.hid HSi
        clear HDi
        go_wp2_with fail
        go_quiet (fail)
        replace hT : Ints H x (difs a b i) (wr.drewN nq) := hT
        replace hB : Below H w (wr.drewN nq) := hB.trans ⟨rfl, rfl, rfl, Nat.le_refl _, fun _ _ => rfl⟩
        replace hHw : H ≤ (wr.drewN nq).heap.size := hHw
        generalize wr.drewN nq = W2 at hT hB hHw ⊢
        have hT1 := World.ownsRow.alloc hT (.cells #[.int .i64 (i : Int)] 3)
        have hHw1 : H ≤ (W2.alloc (.cells #[.int .i64 (i : Int)] 3)).heap.size := by simp; omega
        have hB1 := hB.alloc hHw (.cells #[.int .i64 (i : Int)] 3)
        go_wp2_with (at_builtin; refine wpList_append_own _ rfl _ _ 43 rfl H 3 i0 (.int .i64 0) 1 8 Tryz.underlying43 HII.out HZ0.out HZ1.out HZ2.out rfl (by decide) _ (difs a b i).length (intVs (difs a b i)) rfl hT1 ⟨W2.heap.size, 0, none⟩ 1 1 [.int .i64 (i : Int)] rfl rfl ?c1 ?c2 ?c3 ?c4 hHw1 ?_)
        case c1 =>
          intro j u hj
          match j, hj with
          | 0, hj => simp at hj; subst hj; simp [Addr.add]
        case c2 => intro u hu; simp at hu; subst hu; rfl
        case c3 => have := HL.out i; unfold maxLen; omega
        case c4 => have := HL.out i; omega
        intro v' w3 hown' hgrow _
        have hB3 := hB1.grown hgrow hHw1 (fun g hg => (World.ownsRow.lt hT1 g hg).1)
        have hT3 : Ints H v' (difs a b (i + 1)) w3 := by
          rw [HSi.out]
          show w3.ownsRow _ _ _ _ (difs a b i ++ [(i : Int)]).length (intVs (difs a b i ++ [(i : Int)]))
          rw [List.length_append]
          unfold intVs
          rw [List.map_append]
          exact hown'
        clear hT hB hT1 hB1 hgrow
        go_wp2_with fail
        go_roundw
        case rel => exact ⟨i + 1, v', by omega, by go_num, rfl, hT3, hB3⟩
        case measure => simp [intOf]; omega
      · have t1 : decide ((M : Int) ≤ (i : Int)) = false := by simp; omega
        have t1n : decide (M ≤ i) = false := by simp; omega
        rw [t1n] at HDi
        by_cases hN : N ≤ i
        · have t2 : decide ((N : Int) ≤ (i : Int)) = true := by simp; omega
          have t2n : decide (N ≤ i) = true := by simp; omega
          rw [t2n] at HDi
          rw [HDi] at HSi
          have HSi := Lib.hid HSi
          clear HDi
          go_wp2_with fail
          go_quiet (fail)
          replace hT : Ints H x (difs a b i) (wr.drewN nq) := hT
          replace hB : Below H w (wr.drewN nq) := hB.trans ⟨rfl, rfl, rfl, Nat.le_refl _, fun _ _ => rfl⟩
          replace hHw : H ≤ (wr.drewN nq).heap.size := hHw
          generalize wr.drewN nq = W2 at hT hB hHw ⊢
          have hT1 := World.ownsRow.alloc hT (.cells #[.int .i64 (i : Int)] 3)
          have hHw1 : H ≤ (W2.alloc (.cells #[.int .i64 (i : Int)] 3)).heap.size := by simp; omega
          have hB1 := hB.alloc hHw (.cells #[.int .i64 (i : Int)] 3)
          go_wp2_with (at_builtin; refine wpList_append_own _ rfl _ _ 43 rfl H 3 i0 (.int .i64 0) 1 8 Tryz.underlying43 HII.out HZ0.out HZ1.out HZ2.out rfl (by decide) _ (difs a b i).length (intVs (difs a b i)) rfl hT1 ⟨W2.heap.size, 0, none⟩ 1 1 [.int .i64 (i : Int)] rfl rfl ?c1 ?c2 ?c3 ?c4 hHw1 ?_)
          case c1 =>
            intro j u hj
            match j, hj with
            | 0, hj => simp at hj; subst hj; simp [Addr.add]
          case c2 => intro u hu; simp at hu; subst hu; rfl
          case c3 => have := HL.out i; unfold maxLen; omega
          case c4 => have := HL.out i; omega
          intro v' w3 hown' hgrow _
          have hB3 := hB1.grown hgrow hHw1 (fun g hg => (World.ownsRow.lt hT1 g hg).1)
          have hT3 : Ints H v' (difs a b (i + 1)) w3 := by
            rw [HSi.out]
            show w3.ownsRow _ _ _ _ (difs a b i ++ [(i : Int)]).length (intVs (difs a b i ++ [(i : Int)]))
            rw [List.length_append]
            unfold intVs
            rw [List.map_append]
            exact hown'
          clear hT hB hT1 hB1 hgrow
          go_wp2_with fail
          go_roundw
          case rel => exact ⟨i + 1, v', by omega, by go_num, rfl, hT3, hB3⟩
          case measure => simp [intOf]; omega
        · have t2 : decide ((N : Int) ≤ (i : Int)) = false := by simp; omega
          have t2n : decide (N ≤ i) = false := by simp; omega
          rw [t2n] at HDi
          obtain ⟨g, off, rfl, hg, hc⟩ := H1.out i (by omega)
          obtain ⟨g', off', rfl, hg', hc'⟩ := H2.out i (by omega)
          have x1 : wr.cell? ⟨g, off + i, none⟩ = some (.string ⟨(a.getD i []).toArray⟩) := (hB.cell (p := ⟨g, off + i, none⟩) hg).trans hc
          have x2 : wr.cell? ⟨g', off' + i, none⟩ = some (.string ⟨(b.getD i []).toArray⟩) := (hB.cell (p := ⟨g', off' + i, none⟩) hg').trans hc'
          have b1 : (0 : Int) ≤ (i : Int) := by omega
          have b2 : (i : Int) < (M : Int) := by omega
          have b3 : (i : Int) < (N : Int) := by omega
          clear hc hc'
          by_cases hne : a.getD i [] = b.getD i []
          · rw [show decide (a.getD i [] ≠ b.getD i []) = false from decide_eq_false (fun h => h hne)] at HDi
            rw [HDi] at HSi
            have HSi := Lib.hid HSi
            clear HDi
            rw [hne] at x1
            clear hne
            generalize b.getD i [] = s at *
            go_wp2_with fail
            go_quiet (fail)
            go_wp2_with fail
            go_roundw
            case rel => exact ⟨i + 1, x, by omega, by go_num, rfl, by rw [HSi.out]; simp only [Bool.false_or, Bool.false_eq_true, if_false, List.append_nil]; exact hT, hB.trans ⟨rfl, rfl, rfl, Nat.le_refl _, fun _ _ => rfl⟩⟩
            case measure => simp [intOf]; omega
          · rw [show decide (a.getD i [] ≠ b.getD i []) = true from decide_eq_true hne] at HDi
            rw [HDi] at HSi
            have HSi := Lib.hid HSi
            clear HDi
            generalize a.getD i [] = s at *
            generalize b.getD i [] = r at *
            have hbn : ((⟨s.toArray⟩ : ByteArray).data.toList == r) = false := beq_eq_false_iff_ne.2 hne
            go_wp2_with fail
            go_quiet (fail)
            replace hT : Ints H x (difs a b i) (wr.drewN nq) := hT
            replace hB : Below H w (wr.drewN nq) := hB.trans ⟨rfl, rfl, rfl, Nat.le_refl _, fun _ _ => rfl⟩
            replace hHw : H ≤ (wr.drewN nq).heap.size := hHw
            generalize wr.drewN nq = W2 at hT hB hHw ⊢
            have hT1 := World.ownsRow.alloc hT (.cells #[.int .i64 (i : Int)] 3)
            have hHw1 : H ≤ (W2.alloc (.cells #[.int .i64 (i : Int)] 3)).heap.size := by simp; omega
            have hB1 := hB.alloc hHw (.cells #[.int .i64 (i : Int)] 3)
            go_wp2_with (at_builtin; refine wpList_append_own _ rfl _ _ 43 rfl H 3 i0 (.int .i64 0) 1 8 Tryz.underlying43 HII.out HZ0.out HZ1.out HZ2.out rfl (by decide) _ (difs a b i).length (intVs (difs a b i)) rfl hT1 ⟨W2.heap.size, 0, none⟩ 1 1 [.int .i64 (i : Int)] rfl rfl ?c1 ?c2 ?c3 ?c4 hHw1 ?_)
            case c1 =>
              intro j u hj
              match j, hj with
              | 0, hj => simp at hj; subst hj; simp [Addr.add]
            case c2 => intro u hu; simp at hu; subst hu; rfl
            case c3 => have := HL.out i; unfold maxLen; omega
            case c4 => have := HL.out i; omega
            intro v' w3 hown' hgrow _
            have hB3 := hB1.grown hgrow hHw1 (fun g hg => (World.ownsRow.lt hT1 g hg).1)
            have hT3 : Ints H v' (difs a b (i + 1)) w3 := by
              rw [HSi.out]
              show w3.ownsRow _ _ _ _ (difs a b i ++ [(i : Int)]).length (intVs (difs a b i ++ [(i : Int)]))
              rw [List.length_append]
              unfold intVs
              rw [List.map_append]
              exact hown'
            clear hT hB hT1 hB1 hgrow
            go_wp2_with fail
            go_roundw
            case rel => exact ⟨i + 1, v', by omega, by go_num, rfl, hT3, hB3⟩
            case measure => simp [intOf]; omega
    · have t0 : decide ((i : Int) < (K : Int)) = false := by simp; omega
      have hiK : i = K := by omega
      have HE := Lib.hid hiK; clear hiK
      go_wp2_with fail
      go_ret
      exact ⟨x, rfl, by rw [HK.out, ← HE.out]; exact hT, hB⟩
end Go.Proofs.YtnaamiecljinnaaGreat
