/-
  Yx, S7, S8, Z3, Zd, Z7, Z9, U9 in one text.
-/
import Derived.Below
import Derived.BigQuiet
import Derived.Deep.AppendLies
import Derived.Deep.Cut
import Derived.Deep.CutBlock
import Derived.Deep.DeepCutAuto
import Derived.Deep.QuietTactic
import Derived.Deep.RegionHeld3
import Derived.Deep.RegionLaw
import Derived.Deep.RegionWith
import Derived.Defers
import Derived.Handy
import Derived.IntWalk
import Derived.Laws.Bits64b
import Derived.Laws.FloatBits
import Derived.Lib.AtoiAll
import Derived.Lib.Builder
import Derived.Lib.Bytes
import Derived.Lib.ConvBytes
import Derived.Lib.FrozenHead2
import Derived.Lib.Hide
import Derived.Lib.IndexMore
import Derived.Lib.ItoaNum
import Derived.Lib.MinMax
import Derived.Lib.OthersKept
import Derived.Lib.ParseIntB
import Derived.Lib.UnsafeStr
import Derived.LoopTactic
import Derived.OneCell
import Derived.OwnWalk
import Derived.Recover
import Derived.RegionTactic
import Derived.Shelf.Abstract
import Derived.StillTailTactics
import Derived.Tactics
import Derived.Tactics2
import Derived.Test.YtnaamiecljinnaaGreatChecked
import Derived.WalkKit
import Derived.WalkLawsBesides
import Derived.WalkSpells
import Ieee.Arith
import Derived.Test.YtnaamiecljinnaaGreatS00
import Derived.Test.YtnaamiecljinnaaGreatS02
import Derived.Test.YtnaamiecljinnaaGreatS03
import Derived.Test.YtnaamiecljinnaaGreatS08
import Derived.Test.YtnaamiecljinnaaGreatS09
import Derived.Test.YtnaamiecljinnaaGreatS11
import Derived.Test.YtnaamiecljinnaaGreatS12
import Derived.Test.YtnaamiecljinnaaGreatS14
import Derived.Test.YtnaamiecljinnaaGreatS15
import Derived.Test.YtnaamiecljinnaaGreatS18
import Derived.Test.YtnaamiecljinnaaGreatS29
namespace Go.Proofs.YtnaamiecljinnaaGreat
section
open Go.RowKit
/-- what Bytes answers -/
def bytesT : Option (List UInt8) → Value
  | some r => .tuple #[.string ⟨r.toArray⟩, .int .i64 0]
  | none => .tuple #[.string ⟨#[]⟩, .int .i64 5]
structure SzAll (P : PartT) : Prop where
  h0 : SzOk true P.waits
  h1 : SzOk false P.spots
  h2 : SzOk false P.puts
  h3 : SzOk false P.letters
  h4 : SzOk false P.audits
set_option maxRecDepth 100000 in
set_option maxHeartbeats 4000000 in
theorem Bytes_any (P : PartT) (d : Nat) (cs : Array Value) (hz : SzAll P) (w : World) (hP : PartAt w (d + 1) P cs) :
    Calls Tryz.prog 8 #[.agg cs] w (Gives (bytesT (partE P)) w) := by
  have HT := Lib.hid (fun (B b : Nat) (o : List UInt8) (w : World) (h : Bld 74 B b o w) => h.text bt_snap)
  have hP0 := hP
  obtain ⟨_, _, _, _, _, rfl, ⟨s0, c0', rfl, _⟩, ⟨s1, c1', rfl, _⟩, ⟨s2, c2', rfl, _⟩, ⟨s3, c3', rfl, _⟩, ⟨s4, c4', rfl, _⟩⟩ := hP
  generalize P.waits.length = N0 at *
  generalize P.spots.length = N1 at *
  generalize P.puts.length = N2 at *
  generalize P.letters.length = N3 at *
  generalize P.audits.length = N4 at *
  generalize hcs : (#[.int .i64 P.next, .int .i64 P.begun, .slice s0 N0 c0', .slice s1 N1 c1', .slice s2 N2 c2', .slice s3 N3 c3', .slice s4 N4 c4'] : Array Value) = cs at *
  have HCS := Lib.hid hcs
  have e1 : ((w.alloc (.cells cs 28)).alloc (.cells #[.int .i64 0] 31)).heap.size = w.heap.size + 1 + 1 := by simp
  have hF := Bld.fresh 74 ((w.alloc (.cells cs 28)).alloc (.cells #[.int .i64 0] 31))
  rw [e1] at hF
  have hp : (((w.alloc (.cells cs 28)).alloc (.cells #[.int .i64 0] 31)).alloc (.cells #[.pointer none, .slice none 0 0] 74)).heap[w.heap.size]? = some (.cells cs 28 (0, 0)) := by
    rw [Lib.alloc_old _ _ _ (by simp; omega), Lib.alloc_old _ _ _ (by simp)]; exact heap_alloc_new w _
  have he : (((w.alloc (.cells cs 28)).alloc (.cells #[.int .i64 0] 31)).alloc (.cells #[.pointer none, .slice none 0 0] 74)).heap[w.heap.size + 1]? = some (.cells #[.int .i64 0] 31 (0, 0)) := by
    rw [Lib.alloc_old _ _ _ (by simp)]
    have := heap_alloc_new (w.alloc (.cells cs 28)) (.cells #[.int .i64 0] 31)
    rwa [show (w.alloc (.cells cs 28)).heap.size = w.heap.size + 1 by simp] at this
  have hB0 : Below w.heap.size w (((w.alloc (.cells cs 28)).alloc (.cells #[.int .i64 0] 31)).alloc (.cells #[.pointer none, .slice none 0 0] 74)) :=
    (((Below.refl _ _).alloc (Nat.le_refl _) _).alloc (by simp) _).alloc (by simp; omega) _
  have HP1 := Lib.hid (wpart_any P d hz.h0 hz.h1 hz.h2 hz.h3 hz.h4 cs w.heap.size _ _ w _ (by omega) hB0 hF hP0 hp)
  have HX := Lib.hid he
  clear hF hp he e1 hP0 hz
  subst hcs
  generalize partE P = r at *
  cases r with
  | none =>
    go_enter_defers Tryz.func8, Tryz.ntmps8
    go_wp2_with fail
    refine (HP1.out).mono ?_; rintro e w1 ⟨rfl, hb1⟩
    have hB1 := hB0.trans (hb1.mono (by omega))
    have he1 := (hb1.block (w.heap.size + 1) (by omega)).trans HX.out
    have c0 : w1.cell? ⟨w.heap.size + 1, 0, none⟩ = some (.int .i64 0) := by rw [Lib.cell_of_heap he1]; rfl
    have f0 : w1.frozen? ⟨w.heap.size + 1, 0, none⟩ = false := Lib.frozen_of_heap he1 0
    go_wp2_with fail
    refine leaves_cons (f := 17) (args := #[.pointer (some ⟨w.heap.size + 1, 0, none⟩)]) (by simp) (by simp [go_sem]) ?_
    refine (caught_up ⟨w.heap.size + 1, 0, none⟩ 5 0 _ c0 f0).mono ?_
    rintro e u' w'' ⟨rfl, rfl, rfl⟩
    have hc2 : (w1.setCell ⟨w.heap.size + 1, 0, none⟩ (.int .i64 5)).cell? ⟨w.heap.size + 1, 0, none⟩ = some (.int .i64 5) := World.cell?_setCell_same _ _ _ c0
    have hfin : Below w.heap.size w (w1.setCell ⟨w.heap.size + 1, 0, none⟩ (.int .i64 5)) := hB1.setCell (p := ⟨w.heap.size + 1, 0, none⟩) (by simp) _
    simp [Leaves, settle, results, Tryz.results8, go_sem, hc2]
    exact ⟨rfl, hfin⟩
  | some r =>
    go_enter_defers Tryz.func8, Tryz.ntmps8
    go_wp2_with fail
    refine (HP1.out).mono ?_; rintro e w1 ⟨rfl, hb1, hw1⟩
    rw [List.nil_append] at hb1
    have hB1 := hB0.trans (hw1.1.mono (by omega))
    have he1 := hw1.block HX.out (by omega) (by decide)
    have hsz := hw1.size
    go_wp2_with fail
    refine (HT.out _ _ _ _ hb1).mono ?_; rintro e w2 ⟨rfl, hb2⟩
    have he2 := (hb2.block (w.heap.size + 1) (by omega)).trans he1
    have c0 : w2.cell? ⟨w.heap.size + 1, 0, none⟩ = some (.int .i64 0) := by rw [Lib.cell_of_heap he2]; rfl
    have f0 : w2.frozen? ⟨w.heap.size + 1, 0, none⟩ = false := Lib.frozen_of_heap he2 0
    go_wp2_with fail
    refine leaves_cons (f := 17) (args := #[.pointer (some ⟨w.heap.size + 1, 0, none⟩)]) (by simp) (by simp [go_sem]) ?_
    refine (caught_idle ⟨w.heap.size + 1, 0, none⟩ _).mono ?_
    rintro e u' w'' ⟨rfl, rfl, rfl⟩
    have hc2 : (w2.setCell ⟨w.heap.size + 1, 0, none⟩ (.int .i64 0)).cell? ⟨w.heap.size + 1, 0, none⟩ = some (.int .i64 0) := World.cell?_setCell_same _ _ _ c0
    have hfin : Below w.heap.size w (w2.setCell ⟨w.heap.size + 1, 0, none⟩ (.int .i64 0)) := (hB1.trans (hb2.mono (by omega))).setCell (p := ⟨w.heap.size + 1, 0, none⟩) (by simp) _
    simp [Leaves, settle, results, Tryz.results8, go_sem, hc2]
    exact ⟨rfl, hfin⟩
end
section
open Go.RowKit
/-- a list of numbers that can be read -/
def IntSl (w : World) (l : List Int) (v : Value) : Prop := ∃ p cap, v = .slice p l.length cap ∧ ∀ i, i < l.length → ∃ g off, p = some ⟨g, off, none⟩ ∧ w.cell? ⟨g, off + i, none⟩ = some (.int .i64 (l.getD i 0))
set_option maxRecDepth 100000 in
set_option maxHeartbeats 2000000 in
theorem rints_same (l : List Int) (u v : Value) (w : World) (hu : IntSl w l u) (hv : IntSl w l v) (hl : l.length ≤ 1000000) :
    Calls Tryz.prog 14 #[u, v] w fun e w' => e = .returned (.bool true) ∧ ∃ q, w' = w.drewN q := by
  obtain ⟨p, c, rfl, h1⟩ := hu
  obtain ⟨p', c', rfl, h2⟩ := hv
  have H1 := Lib.hid h1; have H2 := Lib.hid h2
  clear h1 h2
  generalize l.length = N at *
  go_enter Tryz.func14, Tryz.ntmps14
  go_wp2_with fail
  go_loopw [5] (fun iv wr => ∃ i q : Nat, i ≤ N ∧ iv = .int .i64 (i : Int) ∧ Hid (wr = w.drewN q)) (fun iv _ => N - (intOf iv).toNat)
  case atStart => exact ⟨0, 0, by omega, rfl, rfl⟩
  case round =>
    obtain ⟨i, q, hi, rfl, hw⟩ := hrel
    by_cases hlt : i < N
    · have t0 : decide ((i : Int) < (N : Int)) = true := by simp; omega
      obtain ⟨g, off, rfl, hc⟩ := H1.out i hlt
      obtain ⟨g', off', rfl, hc'⟩ := H2.out i hlt
      have x1 : wr.cell? ⟨g, off + i, none⟩ = some (.int .i64 (l.getD i 0)) := by rw [hw.out]; exact hc
      have x2 : wr.cell? ⟨g', off' + i, none⟩ = some (.int .i64 (l.getD i 0)) := by rw [hw.out]; exact hc'
      have b1 : (0 : Int) ≤ (i : Int) := by omega
      have b2 : (i : Int) < (N : Int) := by omega
      clear hc hc'
      generalize l.getD i 0 = x at *
      go_wp2_with fail
      go_quiet (fail)
      go_wp2_with fail
      go_roundw
      case rel => exact ⟨i + 1, q + nq, by omega, by go_num, by show _ = _; rw [hw.out]; simp⟩
      case measure => simp [intOf]; omega
    · have t0 : decide ((i : Int) < (N : Int)) = false := by simp; omega
      go_wp2_with fail
      go_ret
      exact ⟨rfl, q, hw.out⟩
/-- a list of strings that can be read -/
def StrSl (w : World) (l : List (List UInt8)) (v : Value) : Prop := ∃ p cap, v = .slice p l.length cap ∧ ∀ i, i < l.length → ∃ g off, p = some ⟨g, off, none⟩ ∧ g < w.heap.size ∧ w.cell? ⟨g, off + i, none⟩ = some (.string ⟨(l.getD i []).toArray⟩)
/-- do two lists differ at a place? -/
def difAt (a b : List (List UInt8)) (i : Nat) : Bool := decide (a.length ≤ i) || (decide (b.length ≤ i) || decide (a.getD i [] ≠ b.getD i []))
def difs (a b : List (List UInt8)) (n : Nat) : List Int := ((List.range n).filter (difAt a b)).map fun i => ((i : Nat) : Int)
theorem difs_succ (a b : List (List UInt8)) (n : Nat) : difs a b (n + 1) = difs a b n ++ if difAt a b n then [(n : Int)] else [] := by
  unfold difs
  rw [List.range_succ, List.filter_append, List.map_append]
  congr 1
  cases h : difAt a b n <;> simp [h]
theorem difs_len (a b : List (List UInt8)) (n : Nat) : (difs a b n).length ≤ n := by
  unfold difs
  rw [List.length_map]
  have := List.length_filter_le (difAt a b) (List.range n)
  rw [List.length_range] at this
  exact this
def intVs (l : List Int) : List Value := l.map (Value.int .i64)
def Ints (B : Nat) (v : Value) (l : List Int) (w : World) : Prop := w.ownsRow B 3 1 v l.length (intVs l)
theorem StrSl.below {w w' : World} {l : List (List UInt8)} {v : Value} {B : Nat} (h : StrSl w l v) (hb : Below B w w') (hB : w.heap.size ≤ B) : StrSl w' l v := by
  obtain ⟨p, c, rfl, h⟩ := h
  refine ⟨p, c, rfl, fun i hi => ?_⟩
  obtain ⟨g, off, rfl, h1, h2⟩ := h i hi
  exact ⟨g, off, rfl, Nat.lt_of_lt_of_le h1 hb.size, (hb.cell (p := ⟨g, off + i, none⟩) (Nat.lt_of_lt_of_le h1 hB)).trans h2⟩
set_option maxRecDepth 100000 in
set_option maxHeartbeats 4000000 in
theorem differ_any (a b : List (List UInt8)) (u v : Value) (w : World) (hu : StrSl w a u) (hv : StrSl w b v) (ha : a.length ≤ 1000) (hb : b.length ≤ 1000) :
    Calls Tryz.prog 15 #[u, v] w fun e w' => ∃ x, e = .returned x ∧ Ints w.heap.size x (difs a b (max a.length b.length)) w' ∧ Below w.heap.size w w' := by
  have HI : (Tryz.prog.info? 3).map (fun i => (i.zero, i.size, i.bytes)) = some (some (.int .i64 0), 1, 8) := by kernel_rfl
  obtain ⟨i0, hi, hz0, hz1, hz2⟩ := Go.info_parts HI
  have HII := Lib.hid hi; have HZ0 := Lib.hid hz0; have HZ1 := Lib.hid hz1; have HZ2 := Lib.hid hz2
  clear hi hz0 hz1 hz2 HI
  obtain ⟨p, c, rfl, h1⟩ := hu
  obtain ⟨p', c', rfl, h2⟩ := hv
  have H1 := Lib.hid h1; have H2 := Lib.hid h2
  clear h1 h2
  have HD := Lib.hid (difAt.eq_def a b)
  have HS := Lib.hid (difs_succ a b)
  have HL := Lib.hid (difs_len a b)
  generalize hM : a.length = M at *
  generalize hN : b.length = N at *
  have HM := Lib.hid hM; have HN := Lib.hid hN
  clear hM hN
  have hmx : max (M : Int) (N : Int) = ((max M N : Nat) : Int) := by omega
  have hT0 : Ints w.heap.size (.slice none 0 0) (difs a b 0) w := World.ownsRow_nil _ _ _ _
  generalize hgh : w.heap.size = H at *
  have HH := Lib.hid hgh; clear hgh
  go_enter Tryz.func15, Tryz.ntmps15
  go_wp2_with fail
  generalize hK : max M N = K at *
  have HK := Lib.hid hK; clear hK
  have hMK : M ≤ K := by have := HK.out; omega
  have hNK : N ≤ K := by have := HK.out; omega
  have hK1 : K ≤ 1000 := by have := HK.out; omega
  go_loopw [4, 11] (fun x iv wr => ∃ (i : Nat) (v : Value), i ≤ K ∧ iv = .int .i64 (i : Int) ∧ v = x ∧ Ints H v (difs a b i) wr ∧ Below H w wr) (fun _ iv _ => K - (intOf iv).toNat)
  case atStart => exact ⟨0, _, by omega, rfl, rfl, hT0, Below.refl _ _⟩
  case round =>
    obtain ⟨i, x, hi, rfl, rfl, hT, hB⟩ := hrel
    have hHw : H ≤ wr.heap.size := by have := hB.size; rw [HH.out] at this; exact this
    by_cases hlt : i < K
    · have t0 : decide ((i : Int) < (K : Int)) = true := by simp; omega
      have HDi := HD.out i
      have HSi := HS.out i
      by_cases hM : M ≤ i
      · have t1 : decide ((M : Int) ≤ (i : Int)) = true := by simp; omega
        have t1n : decide (M ≤ i) = true := by simp; omega
        rw [t1n] at HDi
        rw [HDi] at HSi
        have HSi := Lib.hid HSi
        clear HDi
        go_wp2_with fail
        go_quiet (fail)
        replace hT : Ints H x (difs a b i) (wr.drewN nq) := hT
        replace hB : Below H w (wr.drewN nq) := hB.trans ⟨rfl, rfl, rfl, Nat.le_refl _, fun _ _ => rfl⟩
        replace hHw : H ≤ (wr.drewN nq).heap.size := hHw
        generalize wr.drewN nq = W2 at hT hB hHw ⊢
        have hT1 := World.ownsRow.alloc hT (.cells #[.int .i64 (i : Int)] 3)
        have hHw1 : H ≤ (W2.alloc (.cells #[.int .i64 (i : Int)] 3)).heap.size := by simp; omega
        have hB1 := hB.alloc hHw (.cells #[.int .i64 (i : Int)] 3)
        go_wp2_with (at_builtin; refine wpList_append_own _ rfl _ _ 43 rfl H 3 i0 (.int .i64 0) 1 8 Tryz.underlying43 HII.out HZ0.out HZ1.out HZ2.out rfl (by decide) _ (difs a b i).length (intVs (difs a b i)) rfl hT1 ⟨W2.heap.size, 0, none⟩ 1 1 [.int .i64 (i : Int)] rfl rfl ?c1 ?c2 ?c3 ?c4 hHw1 ?_)
        case c1 =>
          intro j u hj
          match j, hj with
          | 0, hj => simp at hj; subst hj; simp [Addr.add]
        case c2 => intro u hu; simp at hu; subst hu; rfl
        case c3 => have := HL.out i; unfold maxLen; omega
        case c4 => have := HL.out i; omega
        intro v' w3 hown' hgrow _
        have hB3 := hB1.grown hgrow hHw1 (fun g hg => (World.ownsRow.lt hT1 g hg).1)
        have hT3 : Ints H v' (difs a b (i + 1)) w3 := by
          rw [HSi.out]
          show w3.ownsRow _ _ _ _ (difs a b i ++ [(i : Int)]).length (intVs (difs a b i ++ [(i : Int)]))
          rw [List.length_append]
          unfold intVs
          rw [List.map_append]
          exact hown'
        clear hT hB hT1 hB1 hgrow
        go_wp2_with fail
        go_roundw
        case rel => exact ⟨i + 1, v', by omega, by go_num, rfl, hT3, hB3⟩
        case measure => simp [intOf]; omega
      · have t1 : decide ((M : Int) ≤ (i : Int)) = false := by simp; omega
        have t1n : decide (M ≤ i) = false := by simp; omega
        rw [t1n] at HDi
        by_cases hN : N ≤ i
        · have t2 : decide ((N : Int) ≤ (i : Int)) = true := by simp; omega
          have t2n : decide (N ≤ i) = true := by simp; omega
          rw [t2n] at HDi
          rw [HDi] at HSi
          have HSi := Lib.hid HSi
          clear HDi
          go_wp2_with fail
          go_quiet (fail)
          replace hT : Ints H x (difs a b i) (wr.drewN nq) := hT
          replace hB : Below H w (wr.drewN nq) := hB.trans ⟨rfl, rfl, rfl, Nat.le_refl _, fun _ _ => rfl⟩
          replace hHw : H ≤ (wr.drewN nq).heap.size := hHw
          generalize wr.drewN nq = W2 at hT hB hHw ⊢
          have hT1 := World.ownsRow.alloc hT (.cells #[.int .i64 (i : Int)] 3)
          have hHw1 : H ≤ (W2.alloc (.cells #[.int .i64 (i : Int)] 3)).heap.size := by simp; omega
          have hB1 := hB.alloc hHw (.cells #[.int .i64 (i : Int)] 3)
          go_wp2_with (at_builtin; refine wpList_append_own _ rfl _ _ 43 rfl H 3 i0 (.int .i64 0) 1 8 Tryz.underlying43 HII.out HZ0.out HZ1.out HZ2.out rfl (by decide) _ (difs a b i).length (intVs (difs a b i)) rfl hT1 ⟨W2.heap.size, 0, none⟩ 1 1 [.int .i64 (i : Int)] rfl rfl ?c1 ?c2 ?c3 ?c4 hHw1 ?_)
          case c1 =>
            intro j u hj
            match j, hj with
            | 0, hj => simp at hj; subst hj; simp [Addr.add]
          case c2 => intro u hu; simp at hu; subst hu; rfl
          case c3 => have := HL.out i; unfold maxLen; omega
          case c4 => have := HL.out i; omega
          intro v' w3 hown' hgrow _
          have hB3 := hB1.grown hgrow hHw1 (fun g hg => (World.ownsRow.lt hT1 g hg).1)
          have hT3 : Ints H v' (difs a b (i + 1)) w3 := by
            rw [HSi.out]
            show w3.ownsRow _ _ _ _ (difs a b i ++ [(i : Int)]).length (intVs (difs a b i ++ [(i : Int)]))
            rw [List.length_append]
            unfold intVs
            rw [List.map_append]
            exact hown'
          clear hT hB hT1 hB1 hgrow
          go_wp2_with fail
          go_roundw
          case rel => exact ⟨i + 1, v', by omega, by go_num, rfl, hT3, hB3⟩
          case measure => simp [intOf]; omega
        · have t2 : decide ((N : Int) ≤ (i : Int)) = false := by simp; omega
          have t2n : decide (N ≤ i) = false := by simp; omega
          rw [t2n] at HDi
          obtain ⟨g, off, rfl, hg, hc⟩ := H1.out i (by omega)
          obtain ⟨g', off', rfl, hg', hc'⟩ := H2.out i (by omega)
          have x1 : wr.cell? ⟨g, off + i, none⟩ = some (.string ⟨(a.getD i []).toArray⟩) := (hB.cell (p := ⟨g, off + i, none⟩) hg).trans hc
          have x2 : wr.cell? ⟨g', off' + i, none⟩ = some (.string ⟨(b.getD i []).toArray⟩) := (hB.cell (p := ⟨g', off' + i, none⟩) hg').trans hc'
          have b1 : (0 : Int) ≤ (i : Int) := by omega
          have b2 : (i : Int) < (M : Int) := by omega
          have b3 : (i : Int) < (N : Int) := by omega
          clear hc hc'
          by_cases hne : a.getD i [] = b.getD i []
          · rw [show decide (a.getD i [] ≠ b.getD i []) = false from decide_eq_false (fun h => h hne)] at HDi
            rw [HDi] at HSi
            have HSi := Lib.hid HSi
            clear HDi
            rw [hne] at x1
            clear hne
            generalize b.getD i [] = s at *
            go_wp2_with fail
            go_quiet (fail)
            go_wp2_with fail
            go_roundw
            case rel => exact ⟨i + 1, x, by omega, by go_num, rfl, by rw [HSi.out]; simp only [Bool.false_or, Bool.false_eq_true, if_false, List.append_nil]; exact hT, hB.trans ⟨rfl, rfl, rfl, Nat.le_refl _, fun _ _ => rfl⟩⟩
            case measure => simp [intOf]; omega
          · rw [show decide (a.getD i [] ≠ b.getD i []) = true from decide_eq_true hne] at HDi
            rw [HDi] at HSi
            have HSi := Lib.hid HSi
            clear HDi
            generalize a.getD i [] = s at *
            generalize b.getD i [] = r at *
            have hbn : ((⟨s.toArray⟩ : ByteArray).data.toList == r) = false := beq_eq_false_iff_ne.2 hne
            go_wp2_with fail
            go_quiet (fail)
            replace hT : Ints H x (difs a b i) (wr.drewN nq) := hT
            replace hB : Below H w (wr.drewN nq) := hB.trans ⟨rfl, rfl, rfl, Nat.le_refl _, fun _ _ => rfl⟩
            replace hHw : H ≤ (wr.drewN nq).heap.size := hHw
            generalize wr.drewN nq = W2 at hT hB hHw ⊢
            have hT1 := World.ownsRow.alloc hT (.cells #[.int .i64 (i : Int)] 3)
            have hHw1 : H ≤ (W2.alloc (.cells #[.int .i64 (i : Int)] 3)).heap.size := by simp; omega
            have hB1 := hB.alloc hHw (.cells #[.int .i64 (i : Int)] 3)
            go_wp2_with (at_builtin; refine wpList_append_own _ rfl _ _ 43 rfl H 3 i0 (.int .i64 0) 1 8 Tryz.underlying43 HII.out HZ0.out HZ1.out HZ2.out rfl (by decide) _ (difs a b i).length (intVs (difs a b i)) rfl hT1 ⟨W2.heap.size, 0, none⟩ 1 1 [.int .i64 (i : Int)] rfl rfl ?c1 ?c2 ?c3 ?c4 hHw1 ?_)
            case c1 =>
              intro j u hj
              match j, hj with
              | 0, hj => simp at hj; subst hj; simp [Addr.add]
            case c2 => intro u hu; simp at hu; subst hu; rfl
            case c3 => have := HL.out i; unfold maxLen; omega
            case c4 => have := HL.out i; omega
            intro v' w3 hown' hgrow _
            have hB3 := hB1.grown hgrow hHw1 (fun g hg => (World.ownsRow.lt hT1 g hg).1)
            have hT3 : Ints H v' (difs a b (i + 1)) w3 := by
              rw [HSi.out]
              show w3.ownsRow _ _ _ _ (difs a b i ++ [(i : Int)]).length (intVs (difs a b i ++ [(i : Int)]))
              rw [List.length_append]
              unfold intVs
              rw [List.map_append]
              exact hown'
            clear hT hB hT1 hB1 hgrow
            go_wp2_with fail
            go_roundw
            case rel => exact ⟨i + 1, v', by omega, by go_num, rfl, hT3, hB3⟩
            case measure => simp [intOf]; omega
    · have t0 : decide ((i : Int) < (K : Int)) = false := by simp; omega
      have hiK : i = K := by omega
      have HE := Lib.hid hiK; clear hiK
      go_wp2_with fail
      go_ret
      exact ⟨x, rfl, by rw [HK.out, ← HE.out]; exact hT, hB⟩
end
section
open Go.RowKit
set_option maxRecDepth 100000 in
set_option maxHeartbeats 1000000 in
theorem hasMagic (s : ByteArray) (w : World) : Calls Tryz.prog 47 #[.string s, .string ⟨#[83, 78, 80, 49]⟩] w fun e w' => e = .returned (.bool (decide (s.data.toList.take 4 = magicB))) ∧ w = w' := by
  by_cases h4 : s.size < 4
  · have t1 : decide ((4 : Int) ≤ (s.size : Int)) = false := by simp; omega
    have hf : decide (s.data.toList.take 4 = magicB) = false := by
      apply decide_eq_false
      intro h
      have := congrArg List.length h
      rw [List.length_take, show s.data.toList.length = s.size by simp] at this
      simp [magicB] at this
      omega
    have HF := Lib.hid hf
    clear hf
    go_enter Tryz.func47, Tryz.ntmps47
    go_wp2
    go_ret
    exact ⟨ret_val (by rw [HF.out]; rfl), rfl⟩
  · have t1 : decide ((4 : Int) ≤ (s.size : Int)) = true := by simp; omega
    have b1 : (4 : Int) ≤ (s.size : Int) := by omega
    have b2 : 4 ≤ s.size := by omega
    have hx : (s.extract 0 4).data.toList = s.data.toList.take 4 := by
      simp only [ByteArray.data_extract, Array.toList_extract, List.extract_eq_take_drop, List.drop_zero, Nat.sub_zero]
    have HX := Lib.hid (show ((s.extract 0 4).toList == [83, 78, 80, 49]) = decide (s.data.toList.take 4 = magicB) from by rw [ByteArray.toList_eq, hx]; rw [Bool.eq_iff_iff, beq_iff_eq, decide_eq_true_eq]; exact Iff.rfl)
    clear hx
    go_enter Tryz.func47, Tryz.ntmps47
    go_wp2
    go_ret
    exact ⟨ret_val (congrArg Value.bool HX.out), rfl⟩
def awS : ByteArray := ⟨#[83, 78, 80, 49, 2, 1, 0, 1, 0, 1, 3, 1, 0, 0, 0]⟩
def awL (k : Nat) : List UInt8 := awS.data.toList.drop k
theorem aw_num4 : numR (awL 4) = some (2, awL 5) := by decide
theorem aw_num5 : numR (awL 5) = some (1, awL 6) := by decide
theorem aw_many6 : manyR (awL 6) = some (0, awL 7) := by decide
theorem aw_many7 : manyR (awL 7) = some (1, awL 8) := by decide
theorem aw_inst8 : instR (awL 8) = some ((0, 1), awL 10) := by decide
theorem aw_num10 : numR (awL 10) = some (3, awL 11) := by decide
theorem aw_num11 : numR (awL 11) = some (1, awL 12) := by decide
theorem aw_many12 : manyR (awL 12) = some (0, awL 13) := by decide
theorem aw_many13 : manyR (awL 13) = some (0, awL 14) := by decide
theorem aw_many14 : manyR (awL 14) = some (0, awL 15) := by decide
/-- what the reader leaves of awake's bytes -/
def AwPart (H : Nat) (x : Value) (w : World) : Prop := ∃ g cap, x = .agg #[.int .i64 2, .int .i64 1, .slice none 0 0, .slice (some ⟨g, 0, none⟩) 1 cap, .slice none 0 0, .slice none 0 0, .slice none 0 0] ∧ H ≤ g ∧ g < w.heap.size ∧ w.cell? ⟨g, 2, none⟩ = some (.int .i64 3)
/-- amid the reading: one spot lies there -/
def AwMid (b P : Nat) (w wx : World) : Prop := ∃ g cap, wx.heap[P]? = some (.cells #[.int .i64 2, .int .i64 1, .slice none 0 0, .slice (some ⟨g, 0, none⟩) 1 cap, .slice none 0 0, .slice none 0 0, .slice none 0 0] 28 (0, 0)) ∧ SrL b awS (awL 12) wx ∧ Fr [b, P] w wx ∧ P ≤ g ∧ g < wx.heap.size ∧ g ≠ b ∧ wx.cell? ⟨g, 2, none⟩ = some (.int .i64 3)
set_option maxRecDepth 100000 in
set_option maxHeartbeats 8000000 in
theorem part_aw (b : Nat) (w : World) (hb : SrB b awS 0 w) :
    Calls Tryz.prog 24 #[.pointer (some ⟨b, 0, none⟩)] w fun e w' => ∃ x, e = .returned x ∧ AwPart w.heap.size x w' ∧ Fr [b] w w' := by
  have HMy := Lib.hid must_yes
  have HH := Lib.hid (fun w => hasMagic awS w)
  have HNu := Lib.hid (fun l w hb => snumL awS (by decide) b l w hb)
  have HMa := Lib.hid (fun l w hb => smanyL awS (by decide) b l w hb)
  have HIn := Lib.hid (fun l w hb => sinstL awS (by decide) b l w hb)
  have HN4 := Lib.hid (fun w hb => aw_num4 ▸ HNu.out (awL 4) w hb)
  have HN5 := Lib.hid (fun w hb => aw_num5 ▸ HNu.out (awL 5) w hb)
  have HN10 := Lib.hid (fun w hb => aw_num10 ▸ HNu.out (awL 10) w hb)
  have HN11 := Lib.hid (fun w hb => aw_num11 ▸ HNu.out (awL 11) w hb)
  have HM6 := Lib.hid (fun w hb => aw_many6 ▸ HMa.out (awL 6) w hb)
  have HM7 := Lib.hid (fun w hb => aw_many7 ▸ HMa.out (awL 7) w hb)
  have HM12 := Lib.hid (fun w hb => aw_many12 ▸ HMa.out (awL 12) w hb)
  have HM13 := Lib.hid (fun w hb => aw_many13 ▸ HMa.out (awL 13) w hb)
  have HM14 := Lib.hid (fun w hb => aw_many14 ▸ HMa.out (awL 14) w hb)
  have HI8 := Lib.hid (fun w hb => aw_inst8 ▸ HIn.out (awL 8) w hb)
  have hbl := hb.lt
  have hb0 := hb.below ((Below.refl _ _).alloc (Nat.le_refl _) (.cells #[.int .i64 0, .int .i64 0, .slice none 0 0, .slice none 0 0, .slice none 0 0, .slice none 0 0, .slice none 0 0] 28))
  have hf0 := (Fr.refl [b] w).alloc (.cells #[.int .i64 0, .int .i64 0, .slice none 0 0, .slice none 0 0, .slice none 0 0, .slice none 0 0, .slice none 0 0] 28)
  have hg0 : (w.alloc (.cells #[.int .i64 0, .int .i64 0, .slice none 0 0, .slice none 0 0, .slice none 0 0, .slice none 0 0, .slice none 0 0] 28)).heap[w.heap.size]? = some (.cells #[.int .i64 0, .int .i64 0, .slice none 0 0, .slice none 0 0, .slice none 0 0, .slice none 0 0, .slice none 0 0] 28 (0, 0)) := heap_alloc_new w _
  have hz0 : (w.alloc (.cells #[.int .i64 0, .int .i64 0, .slice none 0 0, .slice none 0 0, .slice none 0 0, .slice none 0 0, .slice none 0 0] 28)).heap.size = w.heap.size + 1 := by simp
  have c0 := hb0.c0; have c1 := hb0.c1; have f1 := hb0.fz 1
  have hmg : decide (awS.data.toList.take 4 = magicB) = true := by decide
  rw [hmg] at HH
  clear HNu HMa HIn hmg
  go_enter Tryz.func24, Tryz.ntmps24
  go_wp2_with fail
  generalize w.alloc (.cells #[.int .i64 0, .int .i64 0, .slice none 0 0, .slice none 0 0, .slice none 0 0, .slice none 0 0, .slice none 0 0] 28) = W0 at *
  refine (HH.out _).mono ?_; rintro e w1 ⟨rfl, rfl⟩
  go_wp2_with fail
  refine (HMy.out _).mono ?_; rintro e w2 ⟨rfl, rfl⟩
  generalize hgh : w.heap.size = P at *
  have HP := Lib.hid hgh; clear hgh
  have hbP : b ≠ P := by omega
  go_wp2_with fail
  have A1 : SrL b awS (awL 4) (W0.setCell ⟨b, 1, none⟩ (.int .i64 4)) := ⟨EndOf.start awS 4 (by decide), hb0.put1 4⟩
  have A2 := hf0.setCell (l := [b]) ⟨b, 1, none⟩ (by simp) (.int .i64 4)
  have A3 := (Fr.refl [b] W0).setCell (l := [b]) ⟨b, 1, none⟩ (by simp) (.int .i64 4)
  have hg1 := A3.at hg0 (by simp; omega)
  clear A3 hb0 hf0 hg0 c0 c1 f1
  generalize W0.setCell ⟨b, 1, none⟩ (.int .i64 4) = W1 at *
  refine (HN4.out _ A1).mono ?_; rintro e w3 ⟨rfl, B1, B2⟩
  dsimp only
  have A4 := A2.trans B2
  have hg3 := B2.at hg1 (by simp; omega)
  clear A1 A2 hg1 B2
  go_wp2_with fail
  refine (HN5.out _ B1).mono ?_; rintro e w4 ⟨rfl, C1, C2⟩
  dsimp only
  have A5 := A4.trans C2
  have hg4 := C2.at hg3 (by simp; omega)
  clear A4 B1 hg3 C2
  have p0 : w4.cell? ⟨P, 0, none⟩ = some (.int .i64 0) := by rw [Lib.cell_of_heap hg4]; rfl
  have p1 : w4.cell? ⟨P, 1, none⟩ = some (.int .i64 0) := by rw [Lib.cell_of_heap hg4]; rfl
  have q0 : w4.frozen? ⟨P, 0, none⟩ = false := Lib.frozen_of_heap hg4 0
  have q1 : w4.frozen? ⟨P, 1, none⟩ = false := Lib.frozen_of_heap hg4 1
  go_wp2_with fail
  have hg5 : ((w4.setCell ⟨P, 0, none⟩ (.int .i64 2)).setCell ⟨P, 1, none⟩ (.int .i64 1)).heap[P]? = some (.cells #[.int .i64 2, .int .i64 1, .slice none 0 0, .slice none 0 0, .slice none 0 0, .slice none 0 0, .slice none 0 0] 28 (0, 0)) := heap_setN (heap_setN hg4 0 _) 1 _
  have F5 := ((Fr.refl [P] w4).setCell ⟨P, 0, none⟩ (by simp) (.int .i64 2)).setCell ⟨P, 1, none⟩ (by simp) (.int .i64 1)
  have D1 := C1.kept F5 (by simpa using hbP)
  have A6 := (A5.mono (m := [b, P]) (by simp)).trans (F5.mono (by simp))
  clear p0 p1 q0 q1 C1 A5 hg4 F5
  generalize (w4.setCell ⟨P, 0, none⟩ (.int .i64 2)).setCell ⟨P, 1, none⟩ (.int .i64 1) = W5 at *
  refine (HM6.out _ D1).mono ?_; rintro e w6 ⟨rfl, E1, E2⟩
  dsimp only
  have A7 := A6.trans (E2.mono (by simp))
  have hg6 := E2.at hg5 (by simp; omega)
  clear A6 D1 hg5 E2
  go_wp2_with fail
  refine wp_loop_rounds 1 ?_
  rw [rounds_succ]
  go_wp2_with fail
  refine (HM7.out _ E1).mono ?_; rintro e w7 ⟨rfl, F1, F2⟩
  dsimp only
  have A8 := A7.trans (F2.mono (by simp))
  have hg7 := F2.at hg6 (by simp; omega)
  clear A7 E1 hg6 F2
  go_wp2_with fail
  refine wp_loop_rounds 2 ?_
  rw [rounds_succ]
  have hnP : P ∉ [b] := by simp; omega
  go_upto_block 3 with (fail)
  go_cut [] (fun wx => AwMid b P w wx)
  case first =>
    go_wp2_with fail
    have c7 : w7.cell? ⟨P, 3, none⟩ = some (.slice none 0 0) := by rw [Lib.cell_of_heap hg7]; rfl
    have HK := Lib.hid (fun (x : World) (h : x.heap[P]? = some (.cells #[.int .i64 2, .int .i64 1, .slice none 0 0, .slice none 0 0, .slice none 0 0, .slice none 0 0, .slice none 0 0] 28 (0, 0))) => (show x.cell? ⟨P, 3, none⟩ = some (.slice none 0 0) ∧ x.frozen? ⟨P, 3, none⟩ = false from ⟨by rw [Lib.cell_of_heap h]; rfl, Lib.frozen_of_heap h 3⟩))
    have HI : (Tryz.prog.info? 52).map (fun i => (i.zero, i.size, i.bytes)) = some (some (.agg #[.int .i64 0, .int .i64 0, .int .i64 0, .int .i64 0]), 4, 32) := by kernel_rfl
    obtain ⟨i0, hi, hz0, hz1, hz2⟩ := Go.info_parts HI
    have HII := Lib.hid hi; have HZ0 := Lib.hid hz0; have HZ1 := Lib.hid hz1; have HZ2 := Lib.hid hz2
    clear hi hz0 hz1 hz2 HI
    have hP7 : P ≤ w7.heap.size := by have := A8.size; rw [HP.out] at this; exact this
    go_region_law (first
      | ((go_simp; go_at_call 50; (with_reducible refine (HI8.out _ F1.drew).mono ?_); rintro e u1 ⟨rfl, G1, G2⟩; have g1 := G2.at hg7 hnP; obtain ⟨k1, _⟩ := HK.out _ g1; dsimp only))
      | ((go_simp; go_at_call 48; (with_reducible refine (HN10.out _ G1).mono ?_); rintro e u2 ⟨rfl, I1, I2⟩; have g2 := I2.at g1 hnP; obtain ⟨k2, _⟩ := HK.out _ g2; dsimp only))
      | ((go_simp; go_at_call 48; (with_reducible refine (HN11.out _ I1).mono ?_); rintro e u3 ⟨rfl, J1, J2⟩; have g3 := J2.at g2 hnP; obtain ⟨k3, z3⟩ := HK.out _ g3; have n3 := World.new_ne u3 _ k3; have a3 := (World.cell?_alloc_some u3 _ (.cells #[.int .i64 0, .int .i64 1, .int .i64 3, .int .i64 1] 52) (by rw [k3]; rfl)).trans k3; have hs3 : P ≤ u3.heap.size := Nat.le_trans hP7 (Nat.le_trans G2.size (Nat.le_trans I2.size J2.size)); dsimp only))
      | ((refine step_append_lies _ (by rfl) _ _ _ (by rfl) P 52 i0 _ 4 32 Tryz.underlying23 HII.out HZ0.out HZ1.out HZ2.out rfl (by omega) (.slice none 0 0) 0 [] (by rfl) (World.ownsRow_nil _ _ _ _) ⟨u3.heap.size, 0, none⟩ 1 1 [.int .i64 0, .int .i64 1, .int .i64 3, .int .i64 1] (by rfl) (by rfl) (World.news_of_block (cs := #[.int .i64 0, .int .i64 1, .int .i64 3, .int .i64 1]) (t := 52) (fr := (0, 0)) (heap_alloc_new u3 _)) (by simp [Value.oneCell']) (by omega) (by unfold maxLen; omega) (by omega) (by simp; omega) (u3.heap.size + 1) (by simp) ?_; intro g cap u4 hown4 hgrow hat hlt; have g4 := (hgrow.block P (by simp; omega) (by simp [Value.ownBlock])).trans ((Lib.alloc_old u3 _ P (lt_of_block g3)).trans g3); obtain ⟨k4, z4⟩ := HK.out _ g4)))
    all_goals
      go_wp2_with fail
      go_meet
      have hM := A8.drew.trans ((G2.mono (m := [b, P]) (by simp)).trans ((I2.mono (by simp)).trans (J2.mono (by simp))))
      have hgg : g = u3.heap.size + 1 := by
        rcases hat with hat | hat
        · cases hat
        · exact hat
      have hbu : b < u3.heap.size := J1.lt
      have hPu := lt_of_block g3
      have hcell : u4.cell? ⟨g, 2, none⟩ = some (.int .i64 3) := by
        have := World.ownsRow.cells (g := g) hown4 rfl 2 (.int .i64 3) rfl
        simpa [Addr.add] using this
      have hub : u4.heap[b]? = u3.heap[b]? := (hgrow.block b (by simp; omega) (by simp [Value.ownBlock])).trans (Lib.alloc_old u3 _ b hbu)
      refine ⟨g, cap, heap_setN g4 3 _, ⟨EndOf.start awS 12 (by decide), (Below.heap_setCell _ _ _ _ hbP).trans (hub.trans J1.2)⟩, ?_, by omega, by simpa [World.setCell] using hlt, by omega, ?_⟩
      · refine Fr.setCell (l := [b, P]) ?_ ⟨P, 3, none⟩ (by simp) _
        refine hM.trans (((Fr.refl [b, P] u3).alloc (.cells #[.int .i64 0, .int .i64 1, .int .i64 3, .int .i64 1] 52)).trans ⟨hgrow.os, hgrow.tape, hgrow.output, hgrow.size, fun k hk _ => hgrow.block k hk (by simp [Value.ownBlock])⟩)
      · rw [World.cell?_setCell_other _ _ _ _ (by intro h; injection h with h; omega)]; exact hcell
  case rest =>
    obtain ⟨g, cap, hg9, S9, A9, hPg, hgl, hgb, hc9⟩ := hcut
    clear A8 hg7 F1 hb
    rename_i w9
    go_wp2_with fail
    rw [rounds_succ]
    go_wp2_with fail
    refine (HM12.out _ S9).mono ?_; rintro e w10 ⟨rfl, S10, T10⟩
    dsimp only
    have A10 := A9.trans (T10.mono (by simp))
    have hg10 := T10.at hg9 hnP
    have hc10 := (Fr.cell (i := 2) T10 hgl (by simpa using hgb)).trans hc9
    have hgl10 : g < w10.heap.size := Nat.lt_of_lt_of_le hgl T10.size
    clear S9 T10 A9 hg9 hc9
    go_wp2_with fail
    refine wp_loop_rounds 1 ?_
    rw [rounds_succ]
    go_wp2_with fail
    refine (HM13.out _ S10).mono ?_; rintro e w11 ⟨rfl, S11, T11⟩
    dsimp only
    have A11 := A10.trans (T11.mono (by simp))
    have hg11 := T11.at hg10 hnP
    have hc11 := (Fr.cell (i := 2) T11 hgl10 (by simpa using hgb)).trans hc10
    have hgl11 : g < w11.heap.size := Nat.lt_of_lt_of_le hgl10 T11.size
    clear S10 T11 A10 hg10 hc10
    go_wp2_with fail
    refine wp_loop_rounds 1 ?_
    rw [rounds_succ]
    go_wp2_with fail
    refine (HM14.out _ S11).mono ?_; rintro e w12 ⟨rfl, S12, T12⟩
    dsimp only
    have A12 := A11.trans (T12.mono (by simp))
    have hg12 := T12.at hg11 hnP
    have hc12 := (Fr.cell (i := 2) T12 hgl11 (by simpa using hgb)).trans hc11
    have hgl12 : g < w12.heap.size := Nat.lt_of_lt_of_le hgl11 T12.size
    clear S11 T12 A11 hg11 hc11
    go_wp2_with fail
    refine wp_loop_rounds 1 ?_
    rw [rounds_succ]
    go_wp2_with fail
    have d0 : w12.cell? ⟨b, 0, none⟩ = some (.string awS) := S12.2.c0
    have d1 : w12.cell? ⟨b, 1, none⟩ = some (.int .i64 15) := S12.2.c1
    have hs15 : awS.size = 15 := rfl
    go_quiet (refine Calls.quiet_of_same ((HMy.out _).mono fun _ _ h => ⟨h.1, h.2.symm⟩))
    have hgE : (w12.drewN nq).heap[P]? = some (.cells #[.int .i64 2, .int .i64 1, .slice none 0 0, .slice (some ⟨g, 0, none⟩) 1 cap, .slice none 0 0, .slice none 0 0, .slice none 0 0] 28 (0, 0)) := hg12
    have hcE : (w12.drewN nq).cell? ⟨g, 2, none⟩ = some (.int .i64 3) := hc12
    have AE : Fr [b, P] w (w12.drewN nq) := A12.drewN nq
    have hglE : g < (w12.drewN nq).heap.size := hgl12
    clear d0 d1 S12 A12 hg12 hc12 hgl12
    generalize w12.drewN nq = W at *
    have e0 : W.cell? ⟨P, 0, none⟩ = some (.int .i64 2) := by rw [Lib.cell_of_heap hgE]; rfl
    have z0 : W.frozen? ⟨P, 0, none⟩ = false := Lib.frozen_of_heap hgE 0
    have e1 : W.cell? ⟨P, 1, none⟩ = some (.int .i64 1) := by rw [Lib.cell_of_heap hgE]; rfl
    have z1 : W.frozen? ⟨P, 1, none⟩ = false := Lib.frozen_of_heap hgE 1
    have e2 : W.cell? ⟨P, 2, none⟩ = some (.slice none 0 0) := by rw [Lib.cell_of_heap hgE]; rfl
    have z2 : W.frozen? ⟨P, 2, none⟩ = false := Lib.frozen_of_heap hgE 2
    have e3 : W.cell? ⟨P, 3, none⟩ = some (.slice (some ⟨g, 0, none⟩) 1 cap) := by rw [Lib.cell_of_heap hgE]; rfl
    have z3 : W.frozen? ⟨P, 3, none⟩ = false := Lib.frozen_of_heap hgE 3
    have e4 : W.cell? ⟨P, 4, none⟩ = some (.slice none 0 0) := by rw [Lib.cell_of_heap hgE]; rfl
    have z4 : W.frozen? ⟨P, 4, none⟩ = false := Lib.frozen_of_heap hgE 4
    have e5 : W.cell? ⟨P, 5, none⟩ = some (.slice none 0 0) := by rw [Lib.cell_of_heap hgE]; rfl
    have z5 : W.frozen? ⟨P, 5, none⟩ = false := Lib.frozen_of_heap hgE 5
    have e6 : W.cell? ⟨P, 6, none⟩ = some (.slice none 0 0) := by rw [Lib.cell_of_heap hgE]; rfl
    have z6 : W.frozen? ⟨P, 6, none⟩ = false := Lib.frozen_of_heap hgE 6
    go_wp2_with fail
    have hgF : (((((((W.setCell ⟨P, 0, none⟩ (.int .i64 2)).setCell ⟨P, 1, none⟩ (.int .i64 1)).setCell ⟨P, 2, none⟩ (.slice none 0 0)).setCell ⟨P, 3, none⟩ (.slice (some ⟨g, 0, none⟩) 1 cap)).setCell ⟨P, 4, none⟩ (.slice none 0 0)).setCell ⟨P, 5, none⟩ (.slice none 0 0)).setCell ⟨P, 6, none⟩ (.slice none 0 0)).heap[P]? = some (.cells #[.int .i64 2, .int .i64 1, .slice none 0 0, .slice (some ⟨g, 0, none⟩) 1 cap, .slice none 0 0, .slice none 0 0, .slice none 0 0] 28 (0, 0)) := (heap_setN (heap_setN (heap_setN (heap_setN (heap_setN (heap_setN (heap_setN hgE 0 _) 1 _) 2 _) 3 _) 4 _) 5 _) 6 _)
    have FF := ((((((((Fr.refl [P] W).setCell ⟨P, 0, none⟩ (by simp) (.int .i64 2)).setCell ⟨P, 1, none⟩ (by simp) (.int .i64 1)).setCell ⟨P, 2, none⟩ (by simp) (.slice none 0 0)).setCell ⟨P, 3, none⟩ (by simp) (.slice (some ⟨g, 0, none⟩) 1 cap)).setCell ⟨P, 4, none⟩ (by simp) (.slice none 0 0)).setCell ⟨P, 5, none⟩ (by simp) (.slice none 0 0)).setCell ⟨P, 6, none⟩ (by simp) (.slice none 0 0))
    generalize (((((((W.setCell ⟨P, 0, none⟩ (.int .i64 2)).setCell ⟨P, 1, none⟩ (.int .i64 1)).setCell ⟨P, 2, none⟩ (.slice none 0 0)).setCell ⟨P, 3, none⟩ (.slice (some ⟨g, 0, none⟩) 1 cap)).setCell ⟨P, 4, none⟩ (.slice none 0 0)).setCell ⟨P, 5, none⟩ (.slice none 0 0)).setCell ⟨P, 6, none⟩ (.slice none 0 0)) = X at *
    have y0 : X.cell? ⟨P, 0, none⟩ = some (.int .i64 2) := by rw [Lib.cell_of_heap hgF]; rfl
    have y1 : X.cell? ⟨P, 1, none⟩ = some (.int .i64 1) := by rw [Lib.cell_of_heap hgF]; rfl
    have y2 : X.cell? ⟨P, 2, none⟩ = some (.slice none 0 0) := by rw [Lib.cell_of_heap hgF]; rfl
    have y3 : X.cell? ⟨P, 3, none⟩ = some (.slice (some ⟨g, 0, none⟩) 1 cap) := by rw [Lib.cell_of_heap hgF]; rfl
    have y4 : X.cell? ⟨P, 4, none⟩ = some (.slice none 0 0) := by rw [Lib.cell_of_heap hgF]; rfl
    have y5 : X.cell? ⟨P, 5, none⟩ = some (.slice none 0 0) := by rw [Lib.cell_of_heap hgF]; rfl
    have y6 : X.cell? ⟨P, 6, none⟩ = some (.slice none 0 0) := by rw [Lib.cell_of_heap hgF]; rfl
    have hcF : X.cell? ⟨g, 2, none⟩ = some (.int .i64 3) := by
      by_cases hgp : g = P
      · subst hgp; rw [y2] at *; rw [e2] at hcE; cases hcE
      · exact (FF.cell (i := 2) hglE (by simpa using hgp)).trans hcE
    have hff := AE.trans (FF.mono (m := [b, P]) (by simp))
    refine bodyPost_ret (v := .agg #[.int .i64 2, .int .i64 1, .slice none 0 0, .slice (some ⟨g, 0, none⟩) 1 cap, .slice none 0 0, .slice none 0 0, .slice none 0 0]) (by simp [results, Tryz.results24, go_sem, y0, y1, y2, y3, y4, y5, y6]) rfl ⟨_, rfl, ⟨g, cap, rfl, by rw [HP.out]; exact hPg, Nat.lt_of_lt_of_le hglE FF.size, hcF⟩, ⟨hff.os, hff.tape, hff.output, hff.size, fun i hi hn => hff.block i hi (by simp at hn ⊢; rw [HP.out] at hi; omega)⟩⟩
end
section
open Go.RowKit
def heldR (l : List UInt8) : Option (It × List UInt8) := (numR l).bind fun a => (numR a.2).bind fun b => (numR b.2).bind fun c => (instR c.2).bind fun i => (someR i.2).bind fun v => some (([(a.1 : Int), (b.1 : Int), (c.1 : Int), (i.1.1 : Int), (i.1.2 : Int)], [v.1]), v.2)
def spotR (l : List UInt8) : Option (It × List UInt8) := (instR l).bind fun i => (numR i.2).bind fun a => (numR a.2).bind fun b => some (([(i.1.1 : Int), (i.1.2 : Int), (a.1 : Int), (b.1 : Int)], []), b.2)
def putR (l : List UInt8) : Option (It × List UInt8) := (instR l).bind fun i => (numR i.2).bind fun a => (rdVal a.2).bind fun v => some (([(i.1.1 : Int), (i.1.2 : Int), (a.1 : Int)], [v.1]), v.2)
def letterR (l : List UInt8) : Option (It × List UInt8) := (numR l).bind fun a => (rdVal a.2).bind fun v => (rdVal v.2).bind fun u => some (([(a.1 : Int)], [v.1, u.1]), u.2)
def auditR (l : List UInt8) : Option (It × List UInt8) := (instR l).bind fun i => (numR i.2).bind fun a => (numR a.2).bind fun b => (numR b.2).bind fun c => (rdVal c.2).bind fun v => some (([(i.1.1 : Int), (i.1.2 : Int), (a.1 : Int), (b.1 : Int), (c.1 : Int)], [v.1]), v.2)
def itsR (rd : List UInt8 → Option (It × List UInt8)) : Nat → List UInt8 → Option (List It × List UInt8)
  | 0, l => some ([], l)
  | n + 1, l => (rd l).bind fun x => (itsR rd n x.2).bind fun y => some (x.1 :: y.1, y.2)
def listR (rd : List UInt8 → Option (It × List UInt8)) (l : List UInt8) : Option (List It × List UInt8) := (manyR l).bind fun n => itsR rd n.1 n.2
/-- the part that bytes are -/
def partR (l : List UInt8) : Option PartT :=
  if l.take 4 = magicB then
    (numR (l.drop 4)).bind fun a => (numR a.2).bind fun b => (listR heldR b.2).bind fun w => (listR spotR w.2).bind fun s => (listR putR s.2).bind fun u => (listR letterR u.2).bind fun t => (listR auditR t.2).bind fun d =>
      if d.2 = [] then some ⟨a.1, b.1, w.1, s.1, u.1, t.1, d.1⟩ else none
  else none
theorem its_stepR {rd : List UInt8 → Option (It × List UInt8)} {n : Nat} {l : List UInt8} {its : List It} {K : List It → List UInt8 → Option PartT} :
    ((itsR rd (n + 1) l).bind fun y => K (its ++ y.1) y.2) = (rd l).bind fun x => (itsR rd n x.2).bind fun y => K (its ++ [x.1] ++ y.1) y.2 := by
  rw [itsR]
  cases rd l with
  | none => rfl
  | some x =>
    simp only [Option.bind_some]
    cases itsR rd n x.2 with
    | none => rfl
    | some y => simp
theorem sl_or {b : Nat} {s : ByteArray} {w w' : World} {f : Nat → Value} {r : Option (Nat × List UInt8)} {e : Ending} (h : SlPost b s w (onN f r) e w') :
    (r = none ∧ e = gave 5 ∧ Fr [b] w w') ∨ ∃ n l', r = some (n, l') ∧ e = .returned (f n) ∧ SrL b s l' w' ∧ Fr [b] w w' := by
  cases r with
  | none => exact .inl ⟨rfl, h⟩
  | some r => exact .inr ⟨r.1, r.2, rfl, h⟩
theorem si_or {b : Nat} {s : ByteArray} {w w' : World} {r : Option ((Nat × Nat) × List UInt8)} {e : Ending} (h : SlPost b s w (onI r) e w') :
    (r = none ∧ e = gave 5 ∧ Fr [b] w w') ∨ ∃ n m l', r = some ((n, m), l') ∧ e = .returned (.agg #[.int .i64 (n : Int), .int .i64 (m : Int)]) ∧ SrL b s l' w' ∧ Fr [b] w w' := by
  cases r with
  | none => exact .inl ⟨rfl, h⟩
  | some r => exact .inr ⟨r.1.1, r.1.2, r.2, rfl, h⟩
theorem sv_or {b : Nat} {s : ByteArray} {w w' : World} {r : Option (VT × List UInt8)} {e : Ending} (h : SvPost b s w r e w') :
    (r = none ∧ e = gave 5 ∧ Fr [b] w w') ∨ ∃ v l' na nl nc ia il ic, r = some (v, l') ∧ e = .returned (.agg #[.int .i64 v.kind, .int .i64 v.num, .float .f64 v.flt, .string ⟨v.str.toArray⟩, .slice na nl nc, .slice ia il ic]) ∧
      ValIn (fun g => w.heap.size ≤ g) w' 12 v #[.int .i64 v.kind, .int .i64 v.num, .float .f64 v.flt, .string ⟨v.str.toArray⟩, .slice na nl nc, .slice ia il ic] ∧ SrL b s l' w' ∧ Fr [b] w w' := by
  cases r with
  | none => exact .inl ⟨rfl, h⟩
  | some r =>
    obtain ⟨v, l'⟩ := r
    unfold SvPost at h
    dsimp only at h
    obtain ⟨cs, h1, h2, h3, h4⟩ := h
    obtain ⟨na, nl, nc, ia, il, ic, rfl⟩ := h2.six
    exact .inr ⟨v, l', na, nl, nc, ia, il, ic, rfl, h1, h2, h3, h4⟩
/-- an item's cells; the blocks of its values are all of the kind S -/
def ItIn (S : Nat → Prop) (u : World) (d k m : Nat) (x : It) (ds : Array Value) : Prop :=
  x.1.length = k ∧ x.2.length = m ∧ ∃ css : List (Array Value), css.length = m ∧ (∀ i, i < m → ValIn S u d (x.2.getD i noVT) (css.getD i #[])) ∧ ds = (x.1.map (Value.int .i64) ++ (css.map Array.toList).flatten).toArray
theorem ItIn.at {S : Nat → Prop} {u : World} {d k m : Nat} {x : It} {ds : Array Value} (h : ItIn S u d k m x ds) : ItAt u d k m x ds := by
  obtain ⟨h1, h2, css, h3, h4, h5⟩ := h
  exact ⟨h1, h2, css, h3, fun i hi => (h4 i hi).at, h5⟩
theorem ItIn.kept {S T : Nat → Prop} {w w' : World} (hs : w.heap.size ≤ w'.heap.size) (hk : ∀ g, S g → g < w.heap.size → T g ∧ w'.heap[g]? = w.heap[g]?) {d k m : Nat} {x : It} {ds : Array Value} (h : ItIn S w d k m x ds) : ItIn T w' d k m x ds := by
  obtain ⟨h1, h2, css, h3, h4, h5⟩ := h
  exact ⟨h1, h2, css, h3, fun i hi => (h4 i hi).kept hs hk, h5⟩
/-- a list that has been read; all its blocks are of the kind S -/
def SlIn (S : Nat → Prop) (u : World) (d sz k m : Nat) (v : Value) (l : List It) : Prop :=
  ∃ sp sc, v = .slice sp l.length sc ∧ l.length ≤ 140737488355328 ∧ ∀ i, i < l.length → ∃ g off, sp = some ⟨g, off, none⟩ ∧ (S g ∧ g < u.heap.size) ∧ ∃ ds, ItIn S u d k m (l.getD i ([], [])) ds ∧ ∀ j, j < sz → u.cell? ⟨g, off + i * sz + j, none⟩ = ds[j]?
theorem SlIn.at {S : Nat → Prop} {u : World} {d sz k m : Nat} {v : Value} {l : List It} (h : SlIn S u d sz k m v l) : SlAt u d sz k m v l := by
  obtain ⟨sp, sc, h1, h2, h3⟩ := h
  refine ⟨sp, sc, h1, h2, fun i hi => ?_⟩
  obtain ⟨g, off, h4, h5, ds, h6, h7⟩ := h3 i hi
  exact ⟨g, off, h4, h5.2, ds, h6.at, h7⟩
theorem SlIn.kept {S T : Nat → Prop} {w w' : World} (hs : w.heap.size ≤ w'.heap.size) (hk : ∀ g, S g → g < w.heap.size → T g ∧ w'.heap[g]? = w.heap[g]?) {d sz k m : Nat} {v : Value} {l : List It} (h : SlIn S w d sz k m v l) : SlIn T w' d sz k m v l := by
  obtain ⟨sp, sc, h1, h2, h3⟩ := h
  refine ⟨sp, sc, h1, h2, fun i hi => ?_⟩
  obtain ⟨g, off, h4, h5, ds, h6, h7⟩ := h3 i hi
  obtain ⟨k1, k2⟩ := hk g h5.1 h5.2
  exact ⟨g, off, h4, ⟨k1, Nat.lt_of_lt_of_le h5.2 hs⟩, ds, h6.kept hs hk, fun j hj => (cell_same k2).trans (h7 j hj)⟩
theorem SlIn.nil (S : Nat → Prop) (w : World) (d sz k m : Nat) : SlIn S w d sz k m (.slice none 0 0) [] := ⟨none, 0, rfl, by simp, fun i hi => by simp at hi⟩
/-- a block behind P that isn't the row's own -/
def Off (P : Nat) (pi : Value) (g : Nat) : Prop := P < g ∧ pi.ownBlock ≠ some g
/-- a list while it is read -/
def RowIt (P d k m sz : Nat) (ty : TypeId) (its : List It) (pi : Value) (w : World) : Prop :=
  ∃ xs, w.ownsRow (P + 1) ty sz pi its.length xs ∧ ∀ i, i < its.length → ∃ ds, ds.size = sz ∧ ItIn (Off P pi) w d k m (its.getD i ([], [])) ds ∧ ∀ j, j < sz → xs[i * sz + j]? = ds[j]?
theorem RowIt.nil (P d k m sz : Nat) (ty : TypeId) (w : World) : RowIt P d k m sz ty [] (.slice none 0 0) w := ⟨[], World.ownsRow_nil _ _ _ _, fun i hi => by simp at hi⟩
theorem RowIt.far {P d k m sz : Nat} {ty : TypeId} {its : List It} {pi : Value} {w w' : World} {b : Nat} (h : RowIt P d k m sz ty its pi w) (hg : w.grownBy w' (some b)) (hb : b ≤ P) : RowIt P d k m sz ty its pi w' := by
  obtain ⟨xs, h1, h2⟩ := h
  refine ⟨xs, h1.kept hg ?_, fun i hi => ?_⟩
  · rcases hv : Value.ownBlock pi with _ | k
    · exact .inl rfl
    · right
      have := own_lt h1 hv
      intro e; injection e; omega
  · obtain ⟨ds, d1, d2, d3⟩ := h2 i hi
    exact ⟨ds, d1, d2.kept hg.size fun g hS hl => ⟨hS, hg.block g hl (fun e => by injection e; have := hS.1; omega)⟩, d3⟩
theorem RowIt.item {P d k m sz : Nat} {ty : TypeId} {its : List It} {pi : Value} {w w' : World} {x : It} {ds : Array Value} {g cap H : Nat} {xs : List Value} (h : RowIt P d k m sz ty its pi w)
    (hx : w.ownsRow (P + 1) ty sz pi its.length xs) (hd : ds.size = sz) (hv : ItIn (Off P pi) w d k m x ds)
    (hown : w'.ownsRow (P + 1) ty sz (.slice (some ⟨g, 0, none⟩) (its.length + 1) cap) (its.length + 1) (xs ++ ds.toList))
    (hgr : w.grownBy w' pi.ownBlock) (hat : pi.ownBlock = some g ∨ g = H) (hH : w.heap.size ≤ H) : RowIt P d k m sz ty (its ++ [x]) (.slice (some ⟨g, 0, none⟩) (its.length + 1) cap) w' := by
  obtain ⟨ys, h1, h2⟩ := h
  have hyx : ys = xs := by
    rcases h1.2 with ⟨e1, e2⟩ | ⟨g1, cap1, cur1, e1, _, e3, _, _, _, e7⟩
    · rcases hx.2 with ⟨_, _⟩ | ⟨g2, cap2, cur2, k1, _⟩
      · have a := h1.1; have b := hx.1
        rw [e2] at a b
        simp at a b
        rw [a, b]
      · rw [e1] at k1; cases k1
    · rcases hx.2 with ⟨k1, _⟩ | ⟨g2, cap2, cur2, k1, _, k3, _, _, _, k7⟩
      · rw [e1] at k1; cases k1
      · rw [e1] at k1
        injection k1 with k1
        injection k1 with k1
        injection k1 with k1
        subst k1
        rw [e3] at k3
        injection k3 with k3
        injection k3 with k3
        subst k3
        rw [← e7, ← k7]
  subst hyx
  have keep : ∀ {y : It} {cs : Array Value}, ItIn (Off P pi) w d k m y cs → ItIn (Off P (.slice (some ⟨g, 0, none⟩) (its.length + 1) cap)) w' d k m y cs := fun h => h.kept hgr.size fun q hS hl => ⟨⟨hS.1, fun e => by
    simp [Value.ownBlock] at e
    subst e
    rcases hat with hat | hat
    · exact hS.2 hat
    · omega⟩, hgr.block q hl (fun e => hS.2 e.symm)⟩
  have hl : ys.length = its.length * sz := h1.1
  refine ⟨ys ++ ds.toList, by simpa using hown, fun i hi => ?_⟩
  rw [List.length_append] at hi
  by_cases hlt : i < its.length
  · obtain ⟨cs, d1, d2, d3⟩ := h2 i hlt
    refine ⟨cs, d1, ?_, fun j hj => ?_⟩
    · rw [show (its ++ [x]).getD i ([], []) = its.getD i ([], []) by simp [List.getD, List.getElem?_append_left hlt]]
      exact keep d2
    · have hb : i * sz + j < its.length * sz := Nat.lt_of_lt_of_le (by rw [Nat.succ_mul]; omega) (Nat.mul_le_mul_right sz hlt)
      rw [List.getElem?_append_left (by omega)]; exact d3 j hj
  · have hi' : i = its.length := by simp at hi; omega
    subst hi'
    refine ⟨ds, hd, ?_, fun j hj => ?_⟩
    · rw [show (its ++ [x]).getD its.length ([], []) = x by simp [List.getD]]
      exact keep hv
    · rw [List.getElem?_append_right (by omega), show its.length * sz + j - ys.length = j by omega]; simp
/-- read to its end -/
theorem RowIt.done {P d k m sz : Nat} {ty : TypeId} {its : List It} {pi : Value} {w : World} (h : RowIt P d k m sz ty its pi w) (hn : its.length ≤ 1000) : SlIn (fun g => P < g) w d sz k m pi its := by
  obtain ⟨xs, hx, hc⟩ := h
  rcases hx.2 with ⟨e1, e2⟩ | ⟨g, cap, cur, e1, e2, e3, _⟩
  · have := List.length_eq_zero_iff.1 e2
    subst this
    subst e1
    exact ⟨_, _, rfl, by simp, fun i hi => by simp at hi⟩
  · subst e1
    refine ⟨_, cap, rfl, by omega, fun i hi => ?_⟩
    obtain ⟨ds, d1, d2, d3⟩ := hc i hi
    refine ⟨g, 0, rfl, ⟨by omega, (Array.getElem?_eq_some_iff.1 e3).1⟩, ds, d2.kept (Nat.le_refl _) (fun q hS _ => ⟨hS.1, rfl⟩), fun j hj => ?_⟩
    have hd := d3 j hj
    rw [show ds[j]? = some (ds[j]'(by omega)) from Array.getElem?_eq_getElem (by omega)] at hd ⊢
    have := World.ownsRow.cells (g := g) hx rfl (i * sz + j) _ hd
    have hadd : (⟨g, 0, none⟩ : Addr).add (i * sz + j) = ⟨g, i * sz + j, none⟩ := by unfold Addr.add; split <;> simp_all
    rw [hadd] at this
    rw [Nat.zero_add]; exact this
end
section
open Go.RowKit
def K4 (a b : Int) (w s u t : List It) (d : List It) (l : List UInt8) : Option PartT := if l = [] then some ⟨a, b, w, s, u, t, d⟩ else none
def K3 (a b : Int) (w s u : List It) (t : List It) (l : List UInt8) : Option PartT := (listR auditR l).bind fun d => K4 a b w s u t d.1 d.2
def K2 (a b : Int) (w s : List It) (u : List It) (l : List UInt8) : Option PartT := (listR letterR l).bind fun t => K3 a b w s u t.1 t.2
def K1 (a b : Int) (w : List It) (s : List It) (l : List UInt8) : Option PartT := (listR putR l).bind fun u => K2 a b w s u.1 u.2
def K0 (a b : Int) (w : List It) (l : List UInt8) : Option PartT := (listR spotR l).bind fun s => K1 a b w s.1 s.2
theorem partR_eq (l : List UInt8) : partR l = if l.take 4 = magicB then (numR (l.drop 4)).bind fun a => (numR a.2).bind fun b => (listR heldR b.2).bind fun w => K0 a.1 b.1 w.1 w.2 else none := rfl
theorem manyR_bd {l l1 : List UInt8} {n : Nat} (h : manyR l = some (n, l1)) : n ≤ 500 := by
  unfold manyR at h
  split at h
  · cases h
  · split at h
    · cases h; assumption
    · cases h
def PartIn (S : Nat → Prop) (u : World) (d : Nat) (p : PartT) (cs : Array Value) : Prop :=
  ∃ a b c e f, cs = #[.int .i64 p.next, .int .i64 p.begun, a, b, c, e, f] ∧ SlIn S u d 11 5 1 a p.waits ∧ SlIn S u d 4 4 0 b p.spots ∧ SlIn S u d 9 3 1 c p.puts ∧ SlIn S u d 13 1 2 e p.letters ∧ SlIn S u d 11 5 1 f p.audits
/-- what the snapshot reader's part leaves -/
def PartPost (b : Nat) (w : World) (r : Option PartT) (e : Ending) (w' : World) : Prop :=
  match r with
  | some p => ∃ cs, e = .returned (.agg cs) ∧ PartIn (fun g => w.heap.size ≤ g) w' 12 p cs ∧ Fr [b] w w'
  | none => e = gave 5 ∧ Fr [b] w w'
theorem part_none {b : Nat} {w w' : World} {r : Option PartT} (h : r = none) (hf : Fr [b] w w') : PartPost b w r (gave 5) w' := by subst h; exact ⟨rfl, hf⟩
theorem row_ready {P d k m sz b : Nat} {ty : TypeId} {its : List It} {pi : Value} {w w5 : World} (h : RowIt P d k m sz ty its pi w) (G2 : Fr [b] w.drew w5) (hbl : b < P) (o : Obj) :
    ∃ xs, (w5.alloc o).ownsRow (P + 1) ty sz pi its.length xs ∧ RowIt P d k m sz ty its pi (w5.alloc o) := by
  have h1 : RowIt P d k m sz ty its pi w.drew := h.far (b := b) ⟨rfl, rfl, rfl, Nat.le_refl _, fun _ _ _ => rfl⟩ (by omega)
  have h2 := (h1.far G2.grown (by omega)).far (World.grownBy_alloc w5 o (some b)) (by omega)
  obtain ⟨xs, hx, h3⟩ := h2
  exact ⟨xs, hx, xs, hx, h3⟩
theorem val_ready {P d k m sz L D : Nat} {ty : TypeId} {its : List It} {pi : Value} {w w5 : World} {v : VT} {cs : Array Value} (h : RowIt P d k m sz ty its pi w) (V : ValIn (fun g => L ≤ g) w5 D v cs) (hL : w.heap.size ≤ L) (hP : P < w.heap.size) (o : Obj) : ValIn (Off P pi) (w5.alloc o) D v cs := by
  obtain ⟨xs, hx, _⟩ := h
  refine V.kept (by simp) fun g hg hl => ⟨⟨?_, fun e => ?_⟩, Lib.alloc_old w5 o g hl⟩
  · have hg : L ≤ g := hg
    omega
  · have := (own_lt hx e).2
    have hg : L ≤ g := hg
    omega
theorem row_keep {P b gg g cap n c : Nat} {pi v : Value} {w w5 u9 : World} (hS : Off P pi gg) (hl : gg < w.heap.size) (F : Fr [b] w.drew w5) (hbl : b < P) (o : Obj) (hgrow : (w5.alloc o).grownBy u9 pi.ownBlock) (hat : pi.ownBlock = some g ∨ g = w5.heap.size + 1) (F6 : Fr [P] u9 (u9.setCell ⟨P, c, none⟩ v)) :
    Off P (.slice (some ⟨g, 0, none⟩) n cap) gg ∧ (u9.setCell ⟨P, c, none⟩ v).heap[gg]? = w.heap[gg]? := by
  have h5 : gg < w5.heap.size := Nat.lt_of_lt_of_le hl F.size
  have hPg := hS.1
  refine ⟨⟨hS.1, fun e => ?_⟩, ?_⟩
  · simp [Value.ownBlock] at e
    subst e
    rcases hat with hat | hat
    · exact hS.2 hat
    · omega
  · have h1 := F.block gg hl (by simp; omega)
    have h2 := Lib.alloc_old w5 o gg h5
    have h3 := hgrow.block gg (Nat.lt_of_lt_of_le h5 (by simp)) (fun e => hS.2 e.symm)
    have h4 := F6.block gg (Nat.lt_of_lt_of_le (Nat.lt_of_lt_of_le h5 (by simp)) hgrow.size) (by simp; omega)
    exact h4.trans (h3.trans (h2.trans h1))
theorem zero_it0 : (Tryz.prog.info? 59).map (fun i => (i.zero, i.size, i.bytes)) = some (some (.agg #[.int .i64 0, .int .i64 0, .int .i64 0, .int .i64 0, .int .i64 0, .int .i64 0, .int .i64 0, .float .f64 0, .string ⟨#[]⟩, .slice none 0 0, .slice none 0 0]), 11, 128) := by kernel_rfl
theorem zero_it1 : (Tryz.prog.info? 52).map (fun i => (i.zero, i.size, i.bytes)) = some (some (.agg #[.int .i64 0, .int .i64 0, .int .i64 0, .int .i64 0]), 4, 32) := by kernel_rfl
theorem zero_it2 : (Tryz.prog.info? 61).map (fun i => (i.zero, i.size, i.bytes)) = some (some (.agg #[.int .i64 0, .int .i64 0, .int .i64 0, .int .i64 0, .int .i64 0, .float .f64 0, .string ⟨#[]⟩, .slice none 0 0, .slice none 0 0]), 9, 112) := by kernel_rfl
theorem zero_it3 : (Tryz.prog.info? 63).map (fun i => (i.zero, i.size, i.bytes)) = some (some (.agg #[.int .i64 0, .int .i64 0, .int .i64 0, .float .f64 0, .string ⟨#[]⟩, .slice none 0 0, .slice none 0 0, .int .i64 0, .int .i64 0, .float .f64 0, .string ⟨#[]⟩, .slice none 0 0, .slice none 0 0]), 13, 184) := by kernel_rfl
theorem zero_it4 : (Tryz.prog.info? 65).map (fun i => (i.zero, i.size, i.bytes)) = some (some (.agg #[.int .i64 0, .int .i64 0, .int .i64 0, .int .i64 0, .int .i64 0, .int .i64 0, .int .i64 0, .float .f64 0, .string ⟨#[]⟩, .slice none 0 0, .slice none 0 0]), 11, 128) := by kernel_rfl
end
section
open Go.RowKit
/-- an item with its values made canonical -/
def canI (x : It) : It := (x.1, x.2.map canV)
def canP (p : PartT) : PartT := ⟨p.next, p.begun, p.waits.map canI, p.spots.map canI, p.puts.map canI, p.letters.map canI, p.audits.map canI⟩
end
section
open Go.RowKit
theorem ordB_can {a b : Nat} (h : canon a = canon b) : ordB a b = 0 := by
  have hk : keyB a = keyB b := by
    unfold canon at h
    unfold keyB
    by_cases ha : Fl.isNaN a = true
    · by_cases hb : Fl.isNaN b = true
      · rw [if_pos ha, if_pos hb]
      · rw [if_pos ha, if_neg hb] at h
        subst h
        exact absurd nan_cnan hb
    · by_cases hb : Fl.isNaN b = true
      · rw [if_neg ha, if_pos hb] at h
        subst h
        exact absurd nan_cnan ha
      · rw [if_neg ha, if_neg hb] at h
        rw [h]
  unfold ordB
  rw [hk]
  simp
end
section
open Go
mutual
theorem ordV_same : ∀ (a b : VT), canV a = canV b → ordV a b = 0
  | .mk k n f s ns its, .mk k' n' f' s' ns' its', h => by
    rw [canV, canV] at h
    simp only [VT.mk.injEq] at h
    obtain ⟨rfl, rfl, hf, rfl, rfl, hi⟩ := h
    have hl := ordL_same its its' hi
    rw [ordV, if_pos rfl, sgnI_self, txtO_self, rowsO_self, if_pos rfl, if_pos rfl, if_pos rfl, hl, ordB_can hf]
    repeat' split
    all_goals rfl
theorem ordL_same : ∀ (l m : List VT), canL l = canL m → ordL l m = 0
  | [], [], _ => by rw [ordL]; rfl
  | [], y :: m, h => by rw [canL, canL] at h; cases h
  | x :: l, [], h => by rw [canL, canL] at h; cases h
  | x :: l, y :: m, h => by
    rw [canL, canL] at h
    simp only [List.cons.injEq] at h
    rw [ordL, ordV_same x y h.1, if_pos rfl]
    exact ordL_same l m h.2
end
theorem sameV_can {a b : VT} (h : canV a = canV b) : sameV a b = true := by
  unfold sameV; rw [ordV_same a b h]; rfl
end
end Go.Proofs.YtnaamiecljinnaaGreat
