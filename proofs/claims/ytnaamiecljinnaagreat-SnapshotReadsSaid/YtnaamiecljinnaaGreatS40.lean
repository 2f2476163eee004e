/-
  Gl in one text.
-/
import Derived.ArgAppend
import Derived.Below
import Derived.BigQuiet
import Derived.BigRegion
import Derived.Deep.AppendLies
import Derived.Deep.Cut
import Derived.Deep.CutBlock
import Derived.Deep.DeepCutAuto
import Derived.Deep.QuietTactic
import Derived.Deep.RegionHeld3
import Derived.Deep.RegionLaw
import Derived.Deep.RegionWith
import Derived.Deep.Upon
import Derived.Defers
import Derived.Handy
import Derived.IntWalk
import Derived.Laws.Bits64b
import Derived.Laws.FloatBits
import Derived.Laws.OwnMore
import Derived.Lib.AtoiAll
import Derived.Lib.Builder
import Derived.Lib.Bytes
import Derived.Lib.ConvBytes
import Derived.Lib.FrozenHead2
import Derived.Lib.Hide
import Derived.Lib.IndexMore
import Derived.Lib.ItoaNum
import Derived.Lib.MinMax
import Derived.Lib.OthersKept
import Derived.Lib.ParseIntB
import Derived.Lib.UnsafeStr
import Derived.LoopTactic
import Derived.OneCell
import Derived.OwnWalk
import Derived.Recover
import Derived.RegionTactic
import Derived.Shelf.Abstract
import Derived.StillTailTactics
import Derived.Tactics
import Derived.Tactics2
import Derived.Test.YtnaamiecljinnaaGreatChecked
import Derived.WalkKit
import Derived.WalkLawsBesides
import Derived.WalkSpells
import Ieee.Arith
import Derived.Test.YtnaamiecljinnaaGreatS00
import Derived.Test.YtnaamiecljinnaaGreatS02
import Derived.Test.YtnaamiecljinnaaGreatS08
import Derived.Test.YtnaamiecljinnaaGreatS18
import Derived.Test.YtnaamiecljinnaaGreatS30
import Derived.Test.YtnaamiecljinnaaGreatS31
import Derived.Test.YtnaamiecljinnaaGreatS32
import Derived.Test.YtnaamiecljinnaaGreatS37
import Derived.Test.YtnaamiecljinnaaGreatS39
namespace Go.Proofs.YtnaamiecljinnaaGreat
open Go.RowKit
theorem catO_both {a b : Option (List UInt8)} {q : List UInt8} (h : catO a b = some q) : ∃ x y, a = some x ∧ b = some y ∧ q = x ++ y := by
  cases a with
  | none => cases h
  | some x =>
    cases b with
    | none => cases h
    | some y => cases h; exact ⟨x, y, rfl, rfl, rfl⟩
theorem itsE_cut {so : Bool} {l : List It} {q : List UInt8} (h : itsE so l = some q) : ∀ i r, itsE so (l.take i) = some r → r.length ≤ q.length := by
  intro i r hr
  rw [← List.take_append_drop i l, itsE_app] at h
  obtain ⟨x, y, h1, h2, rfl⟩ := catO_both h
  rw [hr] at h1; cases h1
  simp
theorem listE_cut {so : Bool} {l : List It} {q : List UInt8} (h : listE so l = some q) (hq : q.length ≤ 17000000) : SzOk so l := by
  obtain ⟨x, y, _, h2, rfl⟩ := catO_both h
  intro i r hr
  have := itsE_cut h2 i r hr
  simp at hq; omega
theorem partE_cut {p : PartT} {q : List UInt8} (h : partE p = some q) (hq : q.length ≤ 17000000) : SzAll p := by
  unfold partE at h
  have g0 : catO (some magicB) _ = some q := h
  obtain ⟨_, q0, _, g1, e0⟩ := catO_both g0
  obtain ⟨_, q1, _, g2, e1⟩ := catO_both g1
  obtain ⟨a0, q2, k0, g3, e2⟩ := catO_both g2
  obtain ⟨a1, q3, k1, g4, e3⟩ := catO_both g3
  obtain ⟨a2, q4, k2, g5, e4⟩ := catO_both g4
  obtain ⟨a3, q5, k3, g6, e5⟩ := catO_both g5
  obtain ⟨a4, q6, k4, _, e6⟩ := catO_both g6
  subst e0; subst e1; subst e2; subst e3; subst e4; subst e5; subst e6
  simp only [List.length_append] at hq
  exact ⟨listE_cut k0 (by omega), listE_cut k1 (by omega), listE_cut k2 (by omega), listE_cut k3 (by omega), listE_cut k4 (by omega)⟩
def bareP : PartT := ⟨0, 0, [], [], [], [], []⟩
theorem bareP_at (w : World) : PartAt w 1 bareP #[.int .i64 0, .int .i64 0, .slice none 0 0, .slice none 0 0, .slice none 0 0, .slice none 0 0, .slice none 0 0] := by
  have h := fun sz k m => (SlIn.nil (fun _ => True) w 1 sz k m).at
  exact ⟨_, _, _, _, _, rfl, h _ _ _, h _ _ _, h _ _ _, h _ _ _, h _ _ _⟩
set_option maxRecDepth 100000 in
set_option maxHeartbeats 2000000 in
theorem reads_off (s : ByteArray) (hs : 10000 < s.size) (w : World) :
    Calls Tryz.prog 4 #[.string s] w (Gives (.bool true) w) := by
  have HA := Lib.hid (fun w => awake_any w)
  have t0 : decide ((10000 : Int) < (s.size : Int)) = true := by simp; omega
  go_enter Tryz.func4, Tryz.ntmps4
  go_wp2_with fail
  refine (HA.out _).mono ?_; rintro e w1 ⟨rfl, hb1⟩
  go_wp2_with fail
  refine (HA.out _).mono ?_; rintro e w2 ⟨rfl, hb2⟩
  go_wp2_with fail
  go_ret
  exact ⟨rfl, hb1.trans (hb2.mono hb1.size)⟩
set_option maxRecDepth 100000 in
set_option maxHeartbeats 2000000 in
theorem reads_on (s : ByteArray) (hs : s.size ≤ 10000) (w : World) :
    Calls Tryz.prog 4 #[.string s] w (Gives (.bool true) w) := by
  have HA := Lib.hid (fun w => awake_any w)
  have t0 : decide ((10000 : Int) < (s.size : Int)) = false := by simp; omega
  have hR := fun w => Read_any s (by omega) w
  have hQ := fun w => rread27_any s (by omega) w
  have hD := @partR_dec s.data.toList
  have hsl : s.data.toList.length = s.size := by simp
  generalize partR s.data.toList = R at *
  cases R with
  | none =>
    have HR := Lib.hid (fun w => (show Calls Tryz.prog 10 #[.string s] w (fun e w' => e = .returned (.tuple #[.agg #[.int .i64 0, .int .i64 0, .slice none 0 0, .slice none 0 0, .slice none 0 0, .slice none 0 0, .slice none 0 0], .int .i64 5]) ∧ Below w.heap.size w w') from hR w))
    have HQ := Lib.hid (fun w => (show Calls Tryz.prog 12 #[.string s] w (fun e w' => e = .returned (.tuple #[.agg #[.int .i64 0, .int .i64 0, .slice none 0 0, .slice none 0 0, .slice none 0 0, .slice none 0 0, .slice none 0 0], .bool false]) ∧ Below w.heap.size w w') from hQ w))
    have HS := Lib.hid (fun w => rsamePart_any bareP bareP 0 0 #[.int .i64 0, .int .i64 0, .slice none 0 0, .slice none 0 0, .slice none 0 0, .slice none 0 0, .slice none 0 0] #[.int .i64 0, .int .i64 0, .slice none 0 0, .slice none 0 0, .slice none 0 0, .slice none 0 0, .slice none 0 0] w (bareP_at w) (bareP_at w) rfl)
    clear hR hQ hD hsl
    go_enter Tryz.func4, Tryz.ntmps4
    go_wp2_with fail
    refine (HA.out _).mono ?_; rintro e w1 ⟨rfl, hb1⟩
    go_wp2_with fail
    refine (HR.out _).mono ?_; rintro e w2 ⟨rfl, hb2⟩
    go_upto_region 4 with (fail)
    have g3 : (w2.alloc (.cells #[.int .i64 0, .int .i64 0, .slice none 0 0, .slice none 0 0, .slice none 0 0, .slice none 0 0, .slice none 0 0] 28)).heap[w2.heap.size]? = some (.cells #[.int .i64 0, .int .i64 0, .slice none 0 0, .slice none 0 0, .slice none 0 0, .slice none 0 0, .slice none 0 0] 28 (0, 0)) := heap_alloc_new w2 _
    have b3 : Below w.heap.size w (w2.alloc (.cells #[.int .i64 0, .int .i64 0, .slice none 0 0, .slice none 0 0, .slice none 0 0, .slice none 0 0, .slice none 0 0] 28)) := ((hb1.trans (hb2.mono hb1.size))).alloc (by have := hb1.size; have := hb2.size; omega) _
    clear hb1 hb2
    generalize w2.alloc (.cells #[.int .i64 0, .int .i64 0, .slice none 0 0, .slice none 0 0, .slice none 0 0, .slice none 0 0, .slice none 0 0] 28) = w3 at *
    generalize w2.heap.size = B1 at *
    go_wp2_with fail
    refine (HQ.out _).mono ?_; rintro e w4 ⟨rfl, hb4⟩
    go_upto_region 5 with (fail)
    have g5 := (Lib.alloc_old w4 (.cells #[.int .i64 0, .int .i64 0, .slice none 0 0, .slice none 0 0, .slice none 0 0, .slice none 0 0, .slice none 0 0] 28) B1 (Nat.lt_of_lt_of_le (lt_of_block g3) hb4.size)).trans ((hb4.block B1 (lt_of_block g3)).trans g3)
    have k5 : (w4.alloc (.cells #[.int .i64 0, .int .i64 0, .slice none 0 0, .slice none 0 0, .slice none 0 0, .slice none 0 0, .slice none 0 0] 28)).heap[w4.heap.size]? = some (.cells #[.int .i64 0, .int .i64 0, .slice none 0 0, .slice none 0 0, .slice none 0 0, .slice none 0 0, .slice none 0 0] 28 (0, 0)) := heap_alloc_new w4 _
    have b5 : Below w.heap.size w (w4.alloc (.cells #[.int .i64 0, .int .i64 0, .slice none 0 0, .slice none 0 0, .slice none 0 0, .slice none 0 0, .slice none 0 0] 28)) := (b3.trans (hb4.mono b3.size)).alloc (by have := b3.size; have := hb4.size; omega) _
    clear b3 hb4 g3
    generalize w4.alloc (.cells #[.int .i64 0, .int .i64 0, .slice none 0 0, .slice none 0 0, .slice none 0 0, .slice none 0 0, .slice none 0 0] 28) = w5 at *
    generalize w4.heap.size = B2 at *
    have d0 : w5.cell? ⟨B1, 0, none⟩ = some (.int .i64 0) := by rw [Lib.cell_of_heap g5]; rfl
    have d1 : w5.cell? ⟨B1, 1, none⟩ = some (.int .i64 0) := by rw [Lib.cell_of_heap g5]; rfl
    have d2 : w5.cell? ⟨B1, 2, none⟩ = some (.slice none 0 0) := by rw [Lib.cell_of_heap g5]; rfl
    have d3 : w5.cell? ⟨B1, 3, none⟩ = some (.slice none 0 0) := by rw [Lib.cell_of_heap g5]; rfl
    have d4 : w5.cell? ⟨B1, 4, none⟩ = some (.slice none 0 0) := by rw [Lib.cell_of_heap g5]; rfl
    have d5 : w5.cell? ⟨B1, 5, none⟩ = some (.slice none 0 0) := by rw [Lib.cell_of_heap g5]; rfl
    have d6 : w5.cell? ⟨B1, 6, none⟩ = some (.slice none 0 0) := by rw [Lib.cell_of_heap g5]; rfl
    have f0 : w5.cell? ⟨B2, 0, none⟩ = some (.int .i64 0) := by rw [Lib.cell_of_heap k5]; rfl
    have f1 : w5.cell? ⟨B2, 1, none⟩ = some (.int .i64 0) := by rw [Lib.cell_of_heap k5]; rfl
    have f2 : w5.cell? ⟨B2, 2, none⟩ = some (.slice none 0 0) := by rw [Lib.cell_of_heap k5]; rfl
    have f3 : w5.cell? ⟨B2, 3, none⟩ = some (.slice none 0 0) := by rw [Lib.cell_of_heap k5]; rfl
    have f4 : w5.cell? ⟨B2, 4, none⟩ = some (.slice none 0 0) := by rw [Lib.cell_of_heap k5]; rfl
    have f5 : w5.cell? ⟨B2, 5, none⟩ = some (.slice none 0 0) := by rw [Lib.cell_of_heap k5]; rfl
    have f6 : w5.cell? ⟨B2, 6, none⟩ = some (.slice none 0 0) := by rw [Lib.cell_of_heap k5]; rfl
    go_wp2_with fail
    refine (HS.out _).mono ?_; rintro e w6 ⟨rfl, hb6⟩
    go_wp2_with fail
    go_ret
    exact ⟨rfl, b5.trans (hb6.mono b5.size)⟩
  | some p =>
    have hE := hD rfl
    have hz := partE_cut hE (by omega)
    have HR := Lib.hid (fun w => (show Calls Tryz.prog 10 #[.string s] w (fun e w' => ∃ cs, e = .returned (.tuple #[.agg cs, .int .i64 0]) ∧ PartIn (fun g => w.heap.size ≤ g) w' 12 p cs ∧ Below w.heap.size w w') from hR w))
    have HQ := Lib.hid (fun w => (show Calls Tryz.prog 12 #[.string s] w (fun e w' => ∃ cs, e = .returned (.tuple #[.agg cs, .bool true]) ∧ PartIn (fun g => w.heap.size ≤ g) w' 13 p cs ∧ Below w.heap.size w w') from hQ w))
    have HS := Lib.hid (fun cs cs2 w h1 h2 => rsamePart_any p p 11 12 cs cs2 w h1 h2 rfl)
    have HB := Lib.hid (fun cs w h => (show Calls Tryz.prog 8 #[.agg cs] w (Gives (.tuple #[.string s, .int .i64 0]) w) from by
      have := Bytes_any p 11 cs hz w h
      rw [hE] at this
      exact this))
    have tS : (s.toList == s.toList) = true := by simp
    clear hR hQ hD hE hz hsl
    go_enter Tryz.func4, Tryz.ntmps4
    go_wp2_with fail
    refine (HA.out _).mono ?_; rintro e w1 ⟨rfl, hb1⟩
    go_wp2_with fail
    refine (HR.out _).mono ?_; rintro e w2 ⟨cs, rfl, hpi, hb2⟩
    have hp2 : PartAt w2 12 p _ := hpi.at
    have hp2' := hp2
    obtain ⟨_, _, _, _, _, rfl, ⟨s0, c0, rfl, _⟩, ⟨s1, c1, rfl, _⟩, ⟨s2, c2, rfl, _⟩, ⟨s3, c3, rfl, _⟩, ⟨s4, c4, rfl, _⟩⟩ := hp2'
    clear hpi
    go_upto_region 4 with (fail)
    generalize hn0 : p.waits.length = n0 at *
    generalize hn1 : p.spots.length = n1 at *
    generalize hn2 : p.puts.length = n2 at *
    generalize hn3 : p.letters.length = n3 at *
    generalize hn4 : p.audits.length = n4 at *
    have g3 : (w2.alloc (.cells #[.int .i64 p.next, .int .i64 p.begun, .slice s0 n0 c0, .slice s1 n1 c1, .slice s2 n2 c2, .slice s3 n3 c3, .slice s4 n4 c4] 28)).heap[w2.heap.size]? = some (.cells #[.int .i64 p.next, .int .i64 p.begun, .slice s0 n0 c0, .slice s1 n1 c1, .slice s2 n2 c2, .slice s3 n3 c3, .slice s4 n4 c4] 28 (0, 0)) := heap_alloc_new w2 _
    have hp3 := hp2.kept ((Below.refl _ _).alloc (Nat.le_refl _) (.cells #[.int .i64 p.next, .int .i64 p.begun, .slice s0 n0 c0, .slice s1 n1 c1, .slice s2 n2 c2, .slice s3 n3 c3, .slice s4 n4 c4] 28))
    have b3 : Below w.heap.size w (w2.alloc (.cells #[.int .i64 p.next, .int .i64 p.begun, .slice s0 n0 c0, .slice s1 n1 c1, .slice s2 n2 c2, .slice s3 n3 c3, .slice s4 n4 c4] 28)) := ((hb1.trans (hb2.mono hb1.size))).alloc (by have := hb1.size; have := hb2.size; omega) _
    clear hb1 hb2 hp2
    generalize w2.alloc (.cells #[.int .i64 p.next, .int .i64 p.begun, .slice s0 n0 c0, .slice s1 n1 c1, .slice s2 n2 c2, .slice s3 n3 c3, .slice s4 n4 c4] 28) = w3 at *
    generalize w2.heap.size = B1 at *
    go_wp2_with fail
    refine (HQ.out _).mono ?_; rintro e w4 ⟨cs, rfl, hqi, hb4⟩
    have hq4 : PartAt w4 13 p _ := hqi.at
    clear hqi
    obtain ⟨_, _, _, _, _, rfl, ⟨r0, e0, rfl, _⟩, ⟨r1, e1, rfl, _⟩, ⟨r2, e2, rfl, _⟩, ⟨r3, e3, rfl, _⟩, ⟨r4, e4, rfl, _⟩⟩ := id hq4
    rw [hn0] at hq4 ⊢
    rw [hn1] at hq4 ⊢
    rw [hn2] at hq4 ⊢
    rw [hn3] at hq4 ⊢
    rw [hn4] at hq4 ⊢
    clear hn0 hn1 hn2 hn3 hn4
    go_upto_region 5 with (fail)
    have hp4 := hp3.kept hb4
    have hp5 := hp4.kept ((Below.refl _ _).alloc (Nat.le_refl _) (.cells #[.int .i64 p.next, .int .i64 p.begun, .slice r0 n0 e0, .slice r1 n1 e1, .slice r2 n2 e2, .slice r3 n3 e3, .slice r4 n4 e4] 28))
    have hq5 := hq4.kept ((Below.refl _ _).alloc (Nat.le_refl _) (.cells #[.int .i64 p.next, .int .i64 p.begun, .slice r0 n0 e0, .slice r1 n1 e1, .slice r2 n2 e2, .slice r3 n3 e3, .slice r4 n4 e4] 28))
    have g5 := (Lib.alloc_old w4 (.cells #[.int .i64 p.next, .int .i64 p.begun, .slice r0 n0 e0, .slice r1 n1 e1, .slice r2 n2 e2, .slice r3 n3 e3, .slice r4 n4 e4] 28) B1 (Nat.lt_of_lt_of_le (lt_of_block g3) hb4.size)).trans ((hb4.block B1 (lt_of_block g3)).trans g3)
    have k5 : (w4.alloc (.cells #[.int .i64 p.next, .int .i64 p.begun, .slice r0 n0 e0, .slice r1 n1 e1, .slice r2 n2 e2, .slice r3 n3 e3, .slice r4 n4 e4] 28)).heap[w4.heap.size]? = some (.cells #[.int .i64 p.next, .int .i64 p.begun, .slice r0 n0 e0, .slice r1 n1 e1, .slice r2 n2 e2, .slice r3 n3 e3, .slice r4 n4 e4] 28 (0, 0)) := heap_alloc_new w4 _
    have b5 : Below w.heap.size w (w4.alloc (.cells #[.int .i64 p.next, .int .i64 p.begun, .slice r0 n0 e0, .slice r1 n1 e1, .slice r2 n2 e2, .slice r3 n3 e3, .slice r4 n4 e4] 28)) := (b3.trans (hb4.mono b3.size)).alloc (by have := b3.size; have := hb4.size; omega) _
    clear b3 hb4 g3 hp3 hp4 hq4
    generalize w4.alloc (.cells #[.int .i64 p.next, .int .i64 p.begun, .slice r0 n0 e0, .slice r1 n1 e1, .slice r2 n2 e2, .slice r3 n3 e3, .slice r4 n4 e4] 28) = w5 at *
    generalize w4.heap.size = B2 at *
    have d0 : w5.cell? ⟨B1, 0, none⟩ = some (.int .i64 p.next) := by rw [Lib.cell_of_heap g5]; rfl
    have d1 : w5.cell? ⟨B1, 1, none⟩ = some (.int .i64 p.begun) := by rw [Lib.cell_of_heap g5]; rfl
    have d2 : w5.cell? ⟨B1, 2, none⟩ = some (.slice s0 n0 c0) := by rw [Lib.cell_of_heap g5]; rfl
    have d3 : w5.cell? ⟨B1, 3, none⟩ = some (.slice s1 n1 c1) := by rw [Lib.cell_of_heap g5]; rfl
    have d4 : w5.cell? ⟨B1, 4, none⟩ = some (.slice s2 n2 c2) := by rw [Lib.cell_of_heap g5]; rfl
    have d5 : w5.cell? ⟨B1, 5, none⟩ = some (.slice s3 n3 c3) := by rw [Lib.cell_of_heap g5]; rfl
    have d6 : w5.cell? ⟨B1, 6, none⟩ = some (.slice s4 n4 c4) := by rw [Lib.cell_of_heap g5]; rfl
    have f0 : w5.cell? ⟨B2, 0, none⟩ = some (.int .i64 p.next) := by rw [Lib.cell_of_heap k5]; rfl
    have f1 : w5.cell? ⟨B2, 1, none⟩ = some (.int .i64 p.begun) := by rw [Lib.cell_of_heap k5]; rfl
    have f2 : w5.cell? ⟨B2, 2, none⟩ = some (.slice r0 n0 e0) := by rw [Lib.cell_of_heap k5]; rfl
    have f3 : w5.cell? ⟨B2, 3, none⟩ = some (.slice r1 n1 e1) := by rw [Lib.cell_of_heap k5]; rfl
    have f4 : w5.cell? ⟨B2, 4, none⟩ = some (.slice r2 n2 e2) := by rw [Lib.cell_of_heap k5]; rfl
    have f5 : w5.cell? ⟨B2, 5, none⟩ = some (.slice r3 n3 e3) := by rw [Lib.cell_of_heap k5]; rfl
    have f6 : w5.cell? ⟨B2, 6, none⟩ = some (.slice r4 n4 e4) := by rw [Lib.cell_of_heap k5]; rfl
    have HSS := Lib.hid (HS.out _ _ _ hp5 hq5)
    go_wp2_with fail
    refine (HSS.out).mono ?_; rintro e w6 ⟨rfl, hb6⟩
    have hp6 := hp5.kept hb6
    have g6 := (hb6.block B1 (lt_of_block g5)).trans g5
    clear HSS hp5 hq5 d0 f0 d1 f1 d2 f2 d3 f3 d4 f4 d5 f5 d6 f6 k5 g5
    have d0 : w6.cell? ⟨B1, 0, none⟩ = some (.int .i64 p.next) := by rw [Lib.cell_of_heap g6]; rfl
    have d1 : w6.cell? ⟨B1, 1, none⟩ = some (.int .i64 p.begun) := by rw [Lib.cell_of_heap g6]; rfl
    have d2 : w6.cell? ⟨B1, 2, none⟩ = some (.slice s0 n0 c0) := by rw [Lib.cell_of_heap g6]; rfl
    have d3 : w6.cell? ⟨B1, 3, none⟩ = some (.slice s1 n1 c1) := by rw [Lib.cell_of_heap g6]; rfl
    have d4 : w6.cell? ⟨B1, 4, none⟩ = some (.slice s2 n2 c2) := by rw [Lib.cell_of_heap g6]; rfl
    have d5 : w6.cell? ⟨B1, 5, none⟩ = some (.slice s3 n3 c3) := by rw [Lib.cell_of_heap g6]; rfl
    have d6 : w6.cell? ⟨B1, 6, none⟩ = some (.slice s4 n4 c4) := by rw [Lib.cell_of_heap g6]; rfl
    have HBB := Lib.hid (HB.out _ _ hp6)
    go_wp2_with fail
    refine (HBB.out).mono ?_; rintro e w7 ⟨rfl, hb7⟩
    go_wp2_with fail
    go_ret
    exact ⟨rfl, (b5.trans (hb6.mono b5.size)).trans (hb7.mono (Nat.le_trans b5.size hb6.size))⟩
end Go.Proofs.YtnaamiecljinnaaGreat
