/-
  Yt in one text.
-/
import Derived.Below
import Derived.BigQuiet
import Derived.Deep.Cut
import Derived.Deep.QuietTactic
import Derived.Handy
import Derived.IntWalk
import Derived.Laws.Bits64b
import Derived.Laws.FloatBits
import Derived.Lib.AtoiAll
import Derived.Lib.Builder
import Derived.Lib.Bytes
import Derived.Lib.ConvBytes
import Derived.Lib.FrozenHead2
import Derived.Lib.Hide
import Derived.Lib.IndexMore
import Derived.Lib.ItoaNum
import Derived.Lib.MinMax
import Derived.Lib.OthersKept
import Derived.Lib.ParseIntB
import Derived.Lib.UnsafeStr
import Derived.LoopTactic
import Derived.OneCell
import Derived.OwnWalk
import Derived.RegionTactic
import Derived.Tactics
import Derived.Tactics2
import Derived.Test.YtnaamiecljinnaaGreatChecked
import Derived.WalkKit
import Derived.WalkLawsBesides
import Derived.WalkSpells
import Ieee.Arith
import Derived.Test.YtnaamiecljinnaaGreatS00
import Derived.Test.YtnaamiecljinnaaGreatS02
import Derived.Test.YtnaamiecljinnaaGreatS03
import Derived.Test.YtnaamiecljinnaaGreatS06
namespace Go.Proofs.YtnaamiecljinnaaGreat
open Go.RowKit
theorem wants_2 (w : World) : Calls Tryz.prog 103 #[.int .i64 2] w fun e w' => e = .returned (.int .i64 0) ∧ w = w' := by
  go_enter Tryz.func103, Tryz.ntmps103
  go_wp2_with fail
  go_ret
  exact ⟨rfl, rfl⟩
theorem rword_x (w : World) : Calls Tryz.prog 107 #[.string ⟨#[120]⟩] w fun e w' => e = .returned (.bool false) ∧ w = w' := by
  go_enter Tryz.func107, Tryz.ntmps107
  go_wp2_with fail
  go_ret
  exact ⟨rfl, rfl⟩
set_option maxRecDepth 100000 in
set_option maxHeartbeats 2000000 in
theorem rnone_any (d : Nat) (v : VT) (cs : Array Value) (hk : v.kind = 0) (w : World) (h : ValAt w d v cs) : Calls Tryz.prog 105 #[.agg cs] w (Gives (.bool (bareV v false false false false)) w) := by
  obtain ⟨pn, p, cap, rfl⟩ := h.six
  obtain ⟨pp, pc, rfl⟩ : ∃ p c, pn = .slice p v.names.length c := by
    cases d with
    | zero => exact h.elim
    | succ d =>
      obtain ⟨a, b, h1, _, _, _, _, h6, _⟩ := h
      obtain ⟨p, c, hp⟩ := h6.lenOf
      simp only [Array.mk.injEq, List.cons.injEq] at h1
      exact ⟨p, c, h1.2.2.2.2.1.trans hp⟩
  have hB : Below w.heap.size w (w.alloc (.cells #[.int .i64 v.kind, .int .i64 v.num, .float .f64 v.flt, .string ⟨v.str.toArray⟩, .slice pp v.names.length pc, .slice p v.items.length cap] 57)) := (Below.refl _ _).alloc (Nat.le_refl _) _
  have hs := rsame_any v.flt 0
  rw [show canon 0 = 0 from rfl] at hs
  have hz : zeroB v.flt = decide (canon v.flt = 0) := rfl
  have HS := Lib.hid hs; clear hs
  have HB := bareV.eq_def v false false false false
  have hnm : v.names.isEmpty = decide (v.names.length = 0) := by cases v.names <;> simp
  have hit : v.items.isEmpty = decide (v.items.length = 0) := by cases v.items <;> simp
  have hst : v.str.isEmpty = (⟨v.str.toArray⟩ : ByteArray).toList.isEmpty := by rw [ByteArray.toList_eq]
  rw [hnm, hit, hst, hz] at HB
  clear h hz
  rw [hk] at hB ⊢
  clear hk
  generalize v.names.length = N at *
  generalize v.items.length = M at *
  generalize (⟨v.str.toArray⟩ : ByteArray) = S at *
  generalize v.num = K at *
  generalize decide (canon v.flt = 0) = Z at *
  clear hnm hit hst
  by_cases c1 : K = 0
  · have t1 : (K == 0) = true := by rw [c1]; rfl
    rw [show decide (K = 0) = true from decide_eq_true c1] at HB
    clear c1
    cases Z
    · have HB := Lib.hid HB
      go_enter Tryz.func105, Tryz.ntmps105
      go_wp2_with (go_at_call 141; refine (HS.out _).mono ?_; rintro e w' ⟨rfl, rfl⟩)
      go_ret
      exact ⟨ret_val (by rw [HB.out]; rfl), hB⟩
    · by_cases c3 : S.toList = []
      · have t3 : S.toList.isEmpty = true := by rw [c3]; rfl
        rw [t3] at HB
        by_cases c4 : N = 0
        · have t4 : ((N : Int) == 0) = true := by rw [c4]; rfl
          rw [show decide (N = 0) = true from decide_eq_true c4] at HB
          by_cases c5 : M = 0
          · have t5 : ((M : Int) == 0) = true := by rw [c5]; rfl
            rw [show decide (M = 0) = true from decide_eq_true c5] at HB
            have HB := Lib.hid HB
            clear c4 c5
            go_enter Tryz.func105, Tryz.ntmps105
            go_wp2_with (go_at_call 141; refine (HS.out _).mono ?_; rintro e w' ⟨rfl, rfl⟩)
            go_ret
            exact ⟨ret_val (by rw [HB.out]; rfl), hB⟩
          · have t5 : ((M : Int) == 0) = false := by rw [beq_eq_false_iff_ne]; omega
            rw [show decide (M = 0) = false from decide_eq_false c5] at HB
            have HB := Lib.hid HB
            clear c4
            go_enter Tryz.func105, Tryz.ntmps105
            go_wp2_with (go_at_call 141; refine (HS.out _).mono ?_; rintro e w' ⟨rfl, rfl⟩)
            go_ret
            exact ⟨ret_val (by rw [HB.out]; rfl), hB⟩
        · have t4 : ((N : Int) == 0) = false := by rw [beq_eq_false_iff_ne]; omega
          rw [show decide (N = 0) = false from decide_eq_false c4] at HB
          have HB := Lib.hid HB
          go_enter Tryz.func105, Tryz.ntmps105
          go_wp2_with (go_at_call 141; refine (HS.out _).mono ?_; rintro e w' ⟨rfl, rfl⟩)
          go_ret
          exact ⟨ret_val (by rw [HB.out]; rfl), hB⟩
      · have t3 : S.toList.isEmpty = false := by cases hh : S.toList with | nil => exact absurd hh c3 | cons a b => rfl
        rw [t3] at HB
        have HB := Lib.hid HB
        go_enter Tryz.func105, Tryz.ntmps105
        go_wp2_with (go_at_call 141; refine (HS.out _).mono ?_; rintro e w' ⟨rfl, rfl⟩)
        go_ret
        exact ⟨ret_val (by rw [HB.out]; rfl), hB⟩
  · have t1 : (K == 0) = false := beq_eq_false_iff_ne.2 c1
    rw [show decide (K = 0) = false from decide_eq_false c1] at HB
    have HB := Lib.hid HB
    go_enter Tryz.func105, Tryz.ntmps105
    go_wp2_with (go_at_call 141; refine (HS.out _).mono ?_; rintro e w' ⟨rfl, rfl⟩)
    go_ret
    exact ⟨ret_val (by rw [HB.out]; rfl), hB⟩
theorem rcount8_x (d : Nat) (v : VT) (pn pi : Value) (w : World) (h : ValAt w d v #[.int .i64 v.kind, .int .i64 v.num, .float .f64 v.flt, .string ⟨v.str.toArray⟩, pn, pi]) : Calls Tryz.prog 102 #[.agg #[.int .i64 2, .string ⟨#[120]⟩, .int .i64 v.kind, .int .i64 v.num, .float .f64 v.flt, .string ⟨v.str.toArray⟩, pn, pi, .slice none 0 0, .slice none 0 0], .int .i64 0] w (Gives (.int .i64 1) w) := by
  have hB : Below w.heap.size w (w.alloc (.cells #[.int .i64 2, .string ⟨#[120]⟩, .int .i64 v.kind, .int .i64 v.num, .float .f64 v.flt, .string ⟨v.str.toArray⟩, pn, pi, .slice none 0 0, .slice none 0 0] 115)) := (Below.refl _ _).alloc (Nat.le_refl _) _
  have hx := ExAt.box h
  generalize hW : w.alloc (.cells #[.int .i64 2, .string ⟨#[120]⟩, .int .i64 v.kind, .int .i64 v.num, .float .f64 v.flt, .string ⟨v.str.toArray⟩, pn, pi, .slice none 0 0, .slice none 0 0] 115) = W0 at *
  obtain ⟨c0, c1, c8, c9⟩ := hx.cells
  clear h hx
  subst hW
  go_enter Tryz.func102, Tryz.ntmps102
  go_wp2_with fail
  generalize w.alloc (.cells #[.int .i64 2, .string ⟨#[120]⟩, .int .i64 v.kind, .int .i64 v.num, .float .f64 v.flt, .string ⟨v.str.toArray⟩, pn, pi, .slice none 0 0, .slice none 0 0] 115) = W0 at *
  go_loopw [5, 1] (fun iv nv wr => iv = .int .i64 0 ∧ nv = .int .i64 1 ∧ wr = W0) (fun _ _ _ => 0)
  case atStart => exact ⟨rfl, rfl, rfl⟩
  case round =>
    obtain ⟨rfl, rfl, rfl⟩ := hrel
    go_wp2_with fail
    go_ret
    exact ⟨rfl, hB⟩
set_option maxRecDepth 100000 in
theorem rparts8_x (d : Nat) (v : VT) (pn pi : Value) (w : World) (h : ValAt w d v #[.int .i64 v.kind, .int .i64 v.num, .float .f64 v.flt, .string ⟨v.str.toArray⟩, pn, pi]) : Calls Tryz.prog 71 #[.agg #[.int .i64 2, .string ⟨#[120]⟩, .int .i64 v.kind, .int .i64 v.num, .float .f64 v.flt, .string ⟨v.str.toArray⟩, pn, pi, .slice none 0 0, .slice none 0 0]] w (Gives (.int .i64 1) w) := by
  have hB : Below w.heap.size w (w.alloc (.cells #[.int .i64 2, .string ⟨#[120]⟩, .int .i64 v.kind, .int .i64 v.num, .float .f64 v.flt, .string ⟨v.str.toArray⟩, pn, pi, .slice none 0 0, .slice none 0 0] 115)) := (Below.refl _ _).alloc (Nat.le_refl _) _
  have HC := Lib.hid (rcount8_x d v pn pi _ (h.kept hB))
  clear h
  go_enter Tryz.func71, Tryz.ntmps71
  go_wp2_with fail
  refine (HC.out).mono ?_; rintro e w2 ⟨rfl, hb⟩
  go_wp2_with fail
  go_ret
  exact ⟨rfl, hB.trans (hb.mono hB.size)⟩
set_option maxRecDepth 100000 in
set_option maxHeartbeats 4000000 in
theorem rright8_x (d : Nat) (v : VT) (pn pi : Value) (hk : v.kind = 0) (w : World) (h : ValAt w d v #[.int .i64 v.kind, .int .i64 v.num, .float .f64 v.flt, .string ⟨v.str.toArray⟩, pn, pi]) : Calls Tryz.prog 72 #[.agg #[.int .i64 2, .string ⟨#[120]⟩, .int .i64 v.kind, .int .i64 v.num, .float .f64 v.flt, .string ⟨v.str.toArray⟩, pn, pi, .slice none 0 0, .slice none 0 0], .int .i64 12] w (Gives (.bool (bareV v false false false false)) w) := by
  have hB : Below w.heap.size w (w.alloc (.cells #[.int .i64 2, .string ⟨#[120]⟩, .int .i64 v.kind, .int .i64 v.num, .float .f64 v.flt, .string ⟨v.str.toArray⟩, pn, pi, .slice none 0 0, .slice none 0 0] 115)) := (Below.refl _ _).alloc (Nat.le_refl _) _
  have hnew : (w.alloc (.cells #[.int .i64 2, .string ⟨#[120]⟩, .int .i64 v.kind, .int .i64 v.num, .float .f64 v.flt, .string ⟨v.str.toArray⟩, pn, pi, .slice none 0 0, .slice none 0 0] 115)).heap[w.heap.size]? = some (.cells #[.int .i64 2, .string ⟨#[120]⟩, .int .i64 v.kind, .int .i64 v.num, .float .f64 v.flt, .string ⟨v.str.toArray⟩, pn, pi, .slice none 0 0, .slice none 0 0] 115 (0, 0)) := heap_alloc_new w _
  have hx := ExAt.box h
  have hv := h.kept hB
  generalize hW : w.alloc (.cells #[.int .i64 2, .string ⟨#[120]⟩, .int .i64 v.kind, .int .i64 v.num, .float .f64 v.flt, .string ⟨v.str.toArray⟩, pn, pi, .slice none 0 0, .slice none 0 0] 115) = W0 at *
  have HN := Lib.hid (rnone_any d v _ hk _ hv)
  obtain ⟨c0, c1, c8, c9⟩ := hx.cells
  have HX := Lib.hid (fun w' (hb : Below W0.heap.size W0 w') => (hx.kept hb).cells)
  have HWt := Lib.hid (fun w => wants_2 w)
  have HWd := Lib.hid (fun w => rword_x w)
  have HNm := Lib.hid (fun w => rname4_any ⟨#[120]⟩ w)
  have hn : nmB (⟨#[120]⟩ : ByteArray).data.toList = true := by decide
  rw [hn] at HNm
  clear h hx hv hk hn
  generalize bareV v false false false false = B at *
  cases B <;>
  · subst hW
    go_enter Tryz.func72, Tryz.ntmps72
    go_wp2_with fail
    refine (HWt.out _).mono ?_; rintro e w' ⟨rfl, rfl⟩
    go_wp2_with (go_at_call 105; refine (HN.out).mono ?_; rintro e w2 ⟨rfl, hb⟩; obtain ⟨k0, k1, k8, k9⟩ := HX.out _ hb)
    first
      | (go_ret; exact ⟨rfl, hB.trans (hb.mono hB.size)⟩)
      | (go_wp2_with (first | (go_at_call 106; refine (HNm.out _).mono ?_; rintro e w' ⟨rfl, rfl⟩) | (go_at_call 107; refine (HWd.out _).mono ?_; rintro e w' ⟨rfl, rfl⟩))
         go_loopw [6] (fun iv wr => iv = .int .i64 0 ∧ wr = w2) (fun _ _ => 0)
         case atStart => exact ⟨rfl, rfl⟩
         case round =>
           obtain ⟨rfl, rfl⟩ := hrel
           go_wp2_with fail
           go_loopw [7] (fun iv w4 => iv = .int .i64 0 ∧ w4 = wr) (fun _ _ => 0)
           case atStart => exact ⟨rfl, rfl⟩
           case round =>
             obtain ⟨rfl, rfl⟩ := hrel
             go_wp2_with fail
             go_ret
             exact ⟨rfl, hB.trans (hb.mono hB.size)⟩)
set_option maxRecDepth 100000 in
set_option maxHeartbeats 2000000 in
theorem rRight8_x (d : Nat) (v : VT) (pn pi : Value) (hk : v.kind = 0) (w : World) (h : ValAt w d v #[.int .i64 v.kind, .int .i64 v.num, .float .f64 v.flt, .string ⟨v.str.toArray⟩, pn, pi]) : Calls Tryz.prog 43 #[.agg #[.int .i64 2, .string ⟨#[120]⟩, .int .i64 v.kind, .int .i64 v.num, .float .f64 v.flt, .string ⟨v.str.toArray⟩, pn, pi, .slice none 0 0, .slice none 0 0]] w (Gives (.bool (bareV v false false false false)) w) := by
  have hB : Below w.heap.size w (w.alloc (.cells #[.int .i64 2, .string ⟨#[120]⟩, .int .i64 v.kind, .int .i64 v.num, .float .f64 v.flt, .string ⟨v.str.toArray⟩, pn, pi, .slice none 0 0, .slice none 0 0] 115)) := (Below.refl _ _).alloc (Nat.le_refl _) _
  have hnew : (w.alloc (.cells #[.int .i64 2, .string ⟨#[120]⟩, .int .i64 v.kind, .int .i64 v.num, .float .f64 v.flt, .string ⟨v.str.toArray⟩, pn, pi, .slice none 0 0, .slice none 0 0] 115)).heap[w.heap.size]? = some (.cells #[.int .i64 2, .string ⟨#[120]⟩, .int .i64 v.kind, .int .i64 v.num, .float .f64 v.flt, .string ⟨v.str.toArray⟩, pn, pi, .slice none 0 0, .slice none 0 0] 115 (0, 0)) := heap_alloc_new w _
  have HP := Lib.hid (rparts8_x _ v pn pi _ (h.kept hB))
  have HR := Lib.hid (fun w' hb => rright8_x d v pn pi hk w' ((h.kept hB).kept hb))
  clear h hk
  generalize hW : w.alloc (.cells #[.int .i64 2, .string ⟨#[120]⟩, .int .i64 v.kind, .int .i64 v.num, .float .f64 v.flt, .string ⟨v.str.toArray⟩, pn, pi, .slice none 0 0, .slice none 0 0] 115) = W0 at *
  have HG := Lib.hid (fun w' (hb : Below W0.heap.size W0 w') j => (show w'.cell? ⟨w.heap.size, j, none⟩ = (#[.int .i64 2, .string ⟨#[120]⟩, .int .i64 v.kind, .int .i64 v.num, .float .f64 v.flt, .string ⟨v.str.toArray⟩, pn, pi, .slice none 0 0, .slice none 0 0] : Array Value)[j]? from by rw [Lib.cell_of_heap ((hb.block _ (lt_of_block hnew)).trans hnew)]))
  subst hW
  go_enter Tryz.func43, Tryz.ntmps43
  go_wp2_with (first
    | (go_at_call 71; refine (HP.out).mono ?_; rintro e w2 ⟨rfl, hb2⟩; have y0 := HG.out _ hb2 0; have y1 := HG.out _ hb2 1; have y2 := HG.out _ hb2 2; have y3 := HG.out _ hb2 3; have y4 := HG.out _ hb2 4; have y5 := HG.out _ hb2 5; have y6 := HG.out _ hb2 6; have y7 := HG.out _ hb2 7; have y8 := HG.out _ hb2 8; have y9 := HG.out _ hb2 9; simp at y0 y1 y2 y3 y4 y5 y6 y7 y8 y9)
    | (go_at_call 72; refine (HR.out _ hb2).mono ?_; rintro e w3 ⟨rfl, hb3⟩))
  go_ret
  exact ⟨rfl, hB.trans ((hb2.mono hB.size).trans (hb3.mono (Nat.le_trans hB.size hb2.size)))⟩
end Go.Proofs.YtnaamiecljinnaaGreat
